/-
  Theorems that the proofs of laws of this seat rest on.
  No condition.
-/
import Derived.Test.YtinfobmidgammaaEC3
section
set_option linter.unusedVariables false
set_option linter.unusedSimpArgs false
namespace Tor
open Go Go.RowKit Go.Proofs
theorem bigT_made {nb neg : Bool} {v : Nat} (h : nb = (neg && decide (v ≠ 0))) : VT.le (aggT 2 [(0, .one, one (.bool nb)), (1, .one, limT (digs v))]) (bigT (if neg then -(v : Int) else v)) := by
  refine aggT_le (fun q hq => ?_)
  simp only [List.mem_cons, List.not_mem_nil, or_false] at hq
  rcases hq with rfl | rfl
  · have e : decide ((if neg then -(v : Int) else v) < 0) = nb := by rw [h]; cases neg <;> simp <;> (try omega) <;> (rw [Bool.eq_iff_iff]; simp; omega)
    exact ⟨_, List.mem_cons_self, le_eq (by rw [e])⟩
  · refine ⟨_, List.mem_cons_of_mem _ List.mem_cons_self, limT_eq ?_⟩
    cases neg <;> simp
theorem agg2_le {b : Bool} {φ ψ : VT} (h : VT.le φ ψ) : VT.le (aggT 2 [(0, .one, one (.bool b)), (1, .one, φ)]) (aggT 2 [(0, .one, one (.bool b)), (1, .one, ψ)]) := by
  refine aggT_le (fun q hq => ?_)
  simp only [List.mem_cons, List.not_mem_nil, or_false] at hq
  rcases hq with rfl | rfl
  · exact ⟨_, List.mem_cons_self, VT.le_refl _⟩
  · exact ⟨_, List.mem_cons_of_mem _ List.mem_cons_self, h⟩
attribute [local irreducible] Tor.J Tor.PJ Tor.StepO Tor.one Tor.slT Tor.ptrT Tor.aggT Tor.tupT Tor.exT Tor.andT Tor.gT Tor.eP Tor.boxO Tor.sliO Tor.slV Tor.VT.le Tor.Ret Tor.anyT
attribute [local irreducible] bigT
set_option maxHeartbeats 2000000 in
theorem rMade_ok (neg : Bool) (v : Nat) : Ok Try.prog 41 [natS v, one (.bool neg)] (bigT (if neg then -(v : Int) else v)) := by
  refine Ok.enter Try.func41 rfl Try.ntmps41 rfl (fun w O => ?_)
  refine J_ex (t := 0) rfl (fun l => J_and (t := 0) rfl (fun ⟨hL, hv, hb⟩ => ?_))
  subst hv
  refine J_seq ?_
  refine J_reg ?_
  refine a_alloc (T := 34) rfl (ltN rfl) (fun b => ?_)
  refine Run.nil ?_
  refine pj_then ?_
  refine J_seq ?_
  refine J_reg ?_
  refine st (s_move rfl) rfl ?_
  refine st (s_len rfl) rfl ?_
  refine st (s_assign rfl) rfl ?_
  refine Run.nil ?_
  refine pj_then ?_
  refine J_seq ?_
  refine J_block ?_
  refine J_loop (σ := Nat) (fun n => [(0, limT l), (1, one (.bool neg)), (4, one (.pointer (some ⟨b, 0, none⟩))), (5, one (.int .i64 n))]) (fun _ => [boxO b 34 2 [(0, .agg 2, one (.agg #[.bool false, .slice none 0 0]))]]) (fun n => n ≤ l.length ∧ trimN l n = trimN l l.length) (fun n => n) l.length ⟨Nat.le_refl _, rfl⟩ (by repeat (first | exact SubG.nil | refine SubG.cons rfl (VT.le_refl _) ?_ | (refine SubG.cons rfl (one_le ?_) ?_; (congr 1; first | omega | (simp; omega) | simp)))) (SubM.refl _) (fun n ⟨hn, ht⟩ => ?_)
  have hd := take_trimN hL
  refine J_seq (J_seq ?_)
  refine J_join (σ := Unit) (fun _ => [(0, limT l), (1, one (.bool neg)), (4, one (.pointer (some ⟨b, 0, none⟩))), (5, one (.int .i64 n)), (17, one (.bool (decide (0 < n ∧ l.getD (n - 1) 0 = 0))))]) (fun _ => [boxO b 34 2 [(0, .agg 2, one (.agg #[.bool false, .slice none 0 0]))]]) (fun _ => True) ?_ (fun _ _ => ?_)
  · by_cases h0 : 0 < n
    · obtain ⟨n, rfl⟩ : ∃ m, n = m + 1 := ⟨n - 1, by omega⟩
      refine J_reg ?_
      refine st (s_move rfl) rfl ?_
      refine st (s_gt rfl rfl) rfl ?_
      refine st (s_move rfl) rfl ?_
      refine bsel (t := 10) rfl (fun b hb => ?_)
      rw [hb]
      have : b = true := by rw [← hb]; simp
      subst this
      refine sg1 rfl rfl (s_move rfl) rfl ?_
      refine sg1 rfl rfl (s_move rfl) rfl ?_
      (refine sg1 rfl rfl (s_sub rfl rfl (wrap_i64 ?_ ?_)) rfl ?_; omega; omega)
      (refine sg1 rfl rfl (s_indexI rfl rfl ?_ ?_) rfl ?_; omega; omega)
      refine sg1 rfl rfl (s_load rfl) rfl ?_
      refine sg1 rfl rfl (s_eq rfl rfl) rfl ?_
      refine st (s_pickT rfl rfl) rfl ?_
      refine Run.nil ?_
      exact pj_cut () trivial (.cons rfl (VT.le_refl _) (.cons rfl (VT.le_refl _) (.cons rfl (VT.le_refl _) (.cons rfl (VT.le_refl _) (.cons rfl (one_le (by simp)) .nil))))) (SubM.refl _)
    · refine J_reg ?_
      refine st (s_move rfl) rfl ?_
      refine st (s_gt rfl rfl) rfl ?_
      refine st (s_move rfl) rfl ?_
      refine bsel (t := 10) rfl (fun b hb => ?_)
      rw [hb]
      have : b = false := by rw [← hb]; simp; omega
      subst this
      refine sg0 rfl rfl rfl rfl ?_
      refine sg0 rfl rfl rfl rfl ?_
      refine sg0 rfl rfl rfl rfl ?_
      refine sg0 rfl rfl rfl rfl ?_
      refine sg0 rfl rfl rfl rfl ?_
      refine sg0 rfl rfl rfl rfl ?_
      refine st (s_pickF rfl rfl) rfl ?_
      refine Run.nil ?_
      exact pj_cut () trivial (.cons rfl (VT.le_refl _) (.cons rfl (VT.le_refl _) (.cons rfl (VT.le_refl _) (.cons rfl (VT.le_refl _) (.cons rfl (one_le (by simp; omega)) .nil))))) (SubM.refl _)
  · refine pj_then ?_
    refine J_cond rfl (fun hc => ?_) (fun hc => ?_) <;> simp only [decide_eq_true_eq, decide_eq_false_iff_not] at hc
    · obtain ⟨n, rfl⟩ : ∃ m, n = m + 1 := ⟨n - 1, by omega⟩
      refine J_skip ?_
      refine pj_then ?_
      refine J_block ?_
      refine J_reg ?_
      refine st (s_move rfl) rfl ?_
      (refine st (s_sub rfl rfl (wrap_i64 ?_ ?_)) rfl ?_; omega; omega)
      refine st (s_assign rfl) rfl ?_
      refine Run.nil ?_
      refine pn_block ?_
      refine pj_round (s := n + 1) n ⟨by omega, by have h2 : l.getD n 0 = 0 := hc.2; rw [← ht, trimN, if_pos h2]⟩ (by omega) (by repeat (first | exact SubG.nil | refine SubG.cons rfl (VT.le_refl _) ?_ | (refine SubG.cons rfl (one_le ?_) ?_; (congr 1; first | omega | (simp; omega) | simp)))) (SubM.refl _)
    · have hz : trimN l n = n := by
        cases n with
        | zero => rfl
        | succ n =>
          have h2 : ¬ l.getD n 0 = 0 := fun h => hc ⟨by omega, h⟩
          rw [trimN, if_neg h2]
      rw [ht] at hz
      rw [hz] at hd
      have hlen : (digs (lv l)).length = n := by rw [← hd, List.length_take_of_le hn]
      have hnz : (0 < n) ↔ lv l ≠ 0 := by
        constructor
        · intro h e; rw [e] at hlen; simp [digs_zero] at hlen; omega
        · intro h; rw [← hlen]; exact Nat.pos_of_ne_zero (fun e => h (by rw [← lv_digs (lv l), List.eq_nil_of_length_eq_zero e]; rfl))
      have hmag : VT.le (slT .one (0 + ((n : Int) - 0).toNat) fun q => if q < 0 then [].reverse.getD q anyT else one (.int .u32 (l.getD (Int.toNat 0 + (q - 0)) 0 : Nat))) (limT (digs (lv l))) :=
        VT.le_trans (slT_le' (m := (l.take n).length) (ψ := fun q => one (.int .u32 ((l.take n).getD q 0 : Nat))) (by rw [List.length_take_of_le hn]; omega) (fun q hq => by
          simp only [Nat.not_lt_zero, if_false]
          rw [show Int.toNat 0 + (q - 0) = q from by simp]
          simp [List.getElem?_take_of_lt (show q < n by omega)])) (limT_eq hd)
      cases neg
      · refine J_exit ?_
        refine px_then ?_
        refine px_then ?_
        refine px_block ?_
        refine pj_then ?_
        refine J_seq ?_
        refine J_reg ?_
        refine st (s_move rfl) rfl ?_
        refine st (s_move rfl) rfl ?_
        refine sg0 rfl rfl rfl rfl ?_
        refine sg0 rfl rfl rfl rfl ?_
        refine st (s_pickF rfl rfl) rfl ?_
        refine stSO (n := 0) rfl rfl rfl rfl rfl ?_
        refine PartsK.nil (fun b => ?_)
        refine st (s_move rfl) rfl ?_
        refine st (s_move rfl) rfl ?_
        (refine st (s_slice rfl rfl rfl rfl (fun _ => rfl) ?_ ?_ ?_ ?_) rfl ?_; omega; omega; omega; omega)
        (refine a_append 0 rfl rfl rfl (leN rfl) ?_ ?_ rfl (ltN rfl) (fun sv cap => ?_); omega; omega)
        refine Run_freeze (t := 29) (j := 0) rfl rfl ?_
        refine stB rfl rfl rfl ?_
        refine BuildK.cons rfl rfl rfl ?_
        refine BuildK.cons rfl rfl rfl ?_
        refine BuildK.nil ?_
        refine a_storeB 0 rfl rfl rfl rfl rfl (leN rfl) rfl ?_
        refine Run.nil ?_
        refine pj_then ?_
        refine J_ret ?_
        exact retc1 Try.results41 (.cellB 0 rfl rfl rfl (VT.le_trans (agg2_le hmag) (bigT_made (by simp))))
      · refine J_exit ?_
        refine px_then ?_
        refine px_then ?_
        refine px_block ?_
        refine pj_then ?_
        refine J_seq ?_
        refine J_reg ?_
        refine st (s_move rfl) rfl ?_
        refine st (s_move rfl) rfl ?_
        refine sg1 rfl rfl (s_move rfl) rfl ?_
        refine sg1 rfl rfl (s_gt rfl rfl) rfl ?_
        refine st (s_pickT rfl rfl) rfl ?_
        refine stSO (n := 0) rfl rfl rfl rfl rfl ?_
        refine PartsK.nil (fun b => ?_)
        refine st (s_move rfl) rfl ?_
        refine st (s_move rfl) rfl ?_
        (refine st (s_slice rfl rfl rfl rfl (fun _ => rfl) ?_ ?_ ?_ ?_) rfl ?_; omega; omega; omega; omega)
        (refine a_append 0 rfl rfl rfl (leN rfl) ?_ ?_ rfl (ltN rfl) (fun sv cap => ?_); omega; omega)
        refine Run_freeze (t := 29) (j := 0) rfl rfl ?_
        refine stB rfl rfl rfl ?_
        refine BuildK.cons rfl rfl rfl ?_
        refine BuildK.cons rfl rfl rfl ?_
        refine BuildK.nil ?_
        refine a_storeB 0 rfl rfl rfl rfl rfl (leN rfl) rfl ?_
        refine Run.nil ?_
        refine pj_then ?_
        refine J_ret ?_
        exact retc1 Try.results41 (.cellB 0 rfl rfl rfl (VT.le_trans (agg2_le hmag) (bigT_made (by rw [Bool.true_and]; exact decide_eq_decide.2 (by rw [← hnz]; omega)))))
end Tor
end

section
set_option linter.unusedVariables false
set_option linter.unusedSimpArgs false
namespace Tor
open Go Go.RowKit Go.Proofs
attribute [local irreducible] Tor.J Tor.PJ Tor.StepO Tor.one Tor.slT Tor.ptrT Tor.aggT Tor.tupT Tor.exT Tor.andT Tor.gT Tor.eP Tor.boxO Tor.sliO Tor.slV Tor.VT.le Tor.Ret Tor.anyT
set_option maxHeartbeats 1000000 in
theorem rless_ok (a b : Nat) : Ok Try.prog 42 [limT (digs a), limT (digs b)] (one (.bool (decide (a < b)))) := by
  refine Ok.enter Try.func42 rfl Try.ntmps42 rfl (fun w O => ?_)
  refine J_fact (t := 0) rfl (fun _ _ => slT_bound) (fun hb => ?_)
  refine J_seq ?_
  refine J_reg ?_
  refine st (s_assign rfl) rfl ?_
  refine Run.nil ?_
  refine pj_then ?_
  refine J_seq ?_
  refine J_seq ?_
  refine J_reg ?_
  refine st (s_move rfl) rfl ?_
  refine st (s_len rfl) rfl ?_
  refine st (s_move rfl) rfl ?_
  refine st (s_len rfl) rfl ?_
  refine st (s_ne rfl rfl) rfl ?_
  refine Run.nil ?_
  refine pj_then ?_
  refine J_cond rfl (fun hc => ?_) (fun hc => ?_) <;> simp only [decide_eq_true_eq, decide_eq_false_iff_not, ne_eq, Decidable.not_not] at hc
  · refine J_seq ?_
    refine J_reg ?_
    refine st (s_move rfl) rfl ?_
    refine st (s_len rfl) rfl ?_
    refine st (s_move rfl) rfl ?_
    refine st (s_len rfl) rfl ?_
    refine st (s_lt rfl rfl) rfl ?_
    refine st (s_assign rfl) rfl ?_
    refine Run.nil ?_
    refine pj_then ?_
    refine J_ret ?_
    refine pr_then ?_
    refine retc1 Try.results42 (.tmp rfl (one_le ?_))
    congr 1
    rw [decide_eq_decide]
    constructor
    · intro h; exact digs_len_mono (by omega)
    · intro h; have := digs_len_le' (Nat.le_of_lt h); omega
  · have hlen : (digs a).length = (digs b).length := by omega
    refine J_skip ?_
    refine pj_then ?_
    refine J_seq ?_
    refine J_seq ?_
    refine J_reg ?_
    refine st (s_move rfl) rfl ?_
    refine st (s_len rfl) rfl ?_
    (refine st (s_sub rfl rfl (wrap_i64 ?_ ?_)) rfl ?_; omega; omega)
    refine st (s_assign rfl) rfl ?_
    refine Run.nil ?_
    refine pj_then ?_
    refine J_block ?_
    refine J_loop (σ := Nat) (fun n => [(0, limT (digs a)), (1, limT (digs b)), (5, one (.int .i64 ((n : Int) - 1)))]) (fun _ => []) (fun n => n ≤ (digs a).length ∧ (digs a).drop n = (digs b).drop n) (fun n => n) (digs a).length
      ⟨Nat.le_refl _, by rw [List.drop_length, hlen, List.drop_length]⟩ (by repeat (first | exact SubG.nil | refine SubG.cons rfl (VT.le_refl _) ?_ | (refine SubG.cons rfl (one_le ?_) ?_; (congr 1; first | omega | (simp; omega) | simp)))) (SubM.refl _) (fun n ⟨hn, hd⟩ => ?_)
    refine J_seq ?_
    refine J_seq ?_
    refine J_reg ?_
    refine st (s_move rfl) rfl ?_
    refine st (s_ge rfl rfl) rfl ?_
    refine Run.nil ?_
    refine pj_then ?_
    refine J_cond rfl (fun hc2 => ?_) (fun hc2 => ?_) <;> simp only [decide_eq_true_eq, decide_eq_false_iff_not] at hc2
    · obtain ⟨n, rfl⟩ : ∃ m, n = m + 1 := ⟨n - 1, by omega⟩
      have e : ((n + 1 : Nat) : Int) - 1 = n := by omega
      rw [e]
      refine J_skip ?_
      refine pj_then ?_
      refine J_seq ?_
      refine J_block ?_
      refine J_seq ?_
      refine J_regd 9 mixed (by kernel_rfl) (by decide) ?_
      refine st (s_move rfl) rfl ?_
      refine st (s_move rfl) rfl ?_
      (refine st (s_indexIN rfl rfl ?_) rfl ?_; omega)
      refine st (s_load rfl) rfl ?_
      refine st (s_move rfl) rfl ?_
      refine st (s_move rfl) rfl ?_
      (refine st (s_indexIN rfl rfl ?_) rfl ?_; omega)
      refine st (s_load rfl) rfl ?_
      refine st (s_ne rfl rfl) rfl ?_
      refine Run.nil ?_
      refine Run.nil ?_
      refine pj_then ?_
      refine J_cond rfl (fun hc3 => ?_) (fun hc3 => ?_) <;> simp only [decide_eq_true_eq, decide_eq_false_iff_not, ne_eq, Decidable.not_not] at hc3
      · refine J_seq ?_
        refine J_regd 10 mixed (by kernel_rfl) (by decide) ?_
        refine st (s_move rfl) rfl ?_
        refine st (s_move rfl) rfl ?_
        (refine st (s_indexIN rfl rfl ?_) rfl ?_; omega)
        refine st (s_load rfl) rfl ?_
        refine st (s_move rfl) rfl ?_
        refine st (s_move rfl) rfl ?_
        (refine st (s_indexIN rfl rfl ?_) rfl ?_; omega)
        refine st (s_load rfl) rfl ?_
        refine st (s_lt rfl rfl) rfl ?_
        refine st (s_assign rfl) rfl ?_
        refine Run.nil ?_
        refine Run.nil ?_
        refine pj_then ?_
        refine J_ret ?_
        refine pr_block ?_
        refine pr_then ?_
        refine pr_then ?_
        refine pr_block ?_
        refine pr_then ?_
        refine retc1 Try.results42 (.tmp rfl (one_le ?_))
        congr 1
        rw [decide_eq_decide]
        by_cases h1 : (digs a).getD n 0 < (digs b).getD n 0
        · have := lv_cmp (limbs_digs a) (limbs_digs b) hlen (i := n) (by omega) hd h1
          rw [lv_digs, lv_digs] at this
          exact ⟨fun _ => this, fun _ => by omega⟩
        · have := lv_cmp (limbs_digs b) (limbs_digs a) hlen.symm (i := n) (by omega) hd.symm (by omega)
          rw [lv_digs, lv_digs] at this
          exact ⟨fun h => by omega, fun h => by omega⟩
      · refine J_skip ?_
        refine pn_block ?_
        refine pj_then ?_
        refine J_reg ?_
        refine st (s_move rfl) rfl ?_
        (refine st (s_sub rfl rfl (wrap_i64 ?_ ?_)) rfl ?_; omega; omega)
        refine st (s_assign rfl) rfl ?_
        refine Run.nil ?_
        refine pj_round (s := n + 1) n ⟨by omega, ?_⟩ (by omega) (by repeat (first | exact SubG.nil | refine SubG.cons rfl (VT.le_refl _) ?_ | (refine SubG.cons rfl (one_le ?_) ?_; (congr 1; first | omega | (simp; omega) | simp)))) (SubM.refl _)
        have h3 : (digs a).getD n 0 = (digs b).getD n 0 := by omega
        have e1 := drop_getD (l := digs a) (k := n) (by omega)
        have e2 := drop_getD (l := digs b) (k := n) (by omega)
        rw [e1, e2, h3, hd]
    · refine J_exit ?_
      refine px_then ?_
      refine px_then ?_
      refine px_block ?_
      refine pj_then ?_
      refine J_seq ?_
      refine J_reg ?_
      refine st (s_assign rfl) rfl ?_
      refine Run.nil ?_
      refine pj_then ?_
      refine J_ret ?_
      have h0 : n = 0 := by omega
      subst h0
      have h4 : a = b := digs_inj (by simpa using hd)
      exact retc1 Try.results42 (.tmp rfl (one_le (by subst h4; simp)))
theorem rSign_ok (neg : Bool) (v : Nat) : Ok Try.prog 17 [sgT neg v] (one (.int .i64 (sgnI (sv neg v)))) := by
  refine Ok.enter Try.func17 rfl Try.ntmps17 rfl (fun w O => ?_)
  refine J_seq ?_
  refine J_reg ?_
  refine a_boxS rfl rfl (ltN rfl) (fun b => ?_)
  refine st (s_assign rfl) rfl ?_
  refine Run.nil ?_
  refine pj_then ?_
  refine J_seq ?_
  refine J_seq ?_
  refine J_reg ?_
  refine st (s_fieldAddr rfl) rfl ?_
  refine st (s_loadB 0 rfl rfl rfl) rfl ?_
  refine st (s_len rfl) rfl ?_
  refine st (s_eq rfl rfl) rfl ?_
  refine Run.nil ?_
  refine pj_then ?_
  refine J_cond rfl (fun hc => ?_) (fun hc => ?_) <;> simp at hc
  · have hv : v = 0 := by rw [← lv_digs v, hc]; rfl
    refine J_seq ?_
    refine J_reg ?_
    refine st (s_assign rfl) rfl ?_
    refine Run.nil ?_
    refine pj_then ?_
    refine J_ret ?_
    refine pr_then ?_
    exact retc1 Try.results17 (.tmp rfl (one_le (by subst hv; simp [sgnI, sv])))
  · have hv : v ≠ 0 := by intro e; subst e; exact hc rfl
    refine J_skip ?_
    refine pj_then ?_
    refine J_seq ?_
    refine J_seq ?_
    refine J_reg ?_
    refine st (s_fieldAddr rfl) rfl ?_
    refine st (s_loadB 0 rfl rfl rfl) rfl ?_
    refine Run.nil ?_
    refine pj_then ?_
    refine J_cond rfl (fun hc2 => ?_) (fun hc2 => ?_)
    · subst hc2
      refine J_seq ?_
      refine J_reg ?_
      refine st (s_assign rfl) rfl ?_
      refine Run.nil ?_
      refine pj_then ?_
      refine J_ret ?_
      refine pr_then ?_
      exact retc1 Try.results17 (.tmp rfl (one_le (by congr 1; unfold sgnI sv; simp only [if_true]; rw [if_neg (by omega), if_pos (by omega)])))
    · subst hc2
      refine J_skip ?_
      refine pj_then ?_
      refine J_seq ?_
      refine J_reg ?_
      refine st (s_assign rfl) rfl ?_
      refine Run.nil ?_
      refine pj_then ?_
      refine J_ret ?_
      exact retc1 Try.results17 (.tmp rfl (one_le (by congr 1; unfold sgnI sv; simp only [Bool.false_eq_true, if_false]; rw [if_neg (by omega), if_neg (by omega)])))
set_option maxHeartbeats 1000000 in
theorem rSame_ok (x y : Int) : Ok Try.prog 15 [bigT x, bigT y] (one (.bool (decide (x = y)))) := by
  refine Ok.enter Try.func15 rfl Try.ntmps15 rfl (fun w O => ?_)
  refine J_seq ?_
  refine J_reg ?_
  refine a_boxS rfl rfl (ltN rfl) (fun b => ?_)
  refine a_boxS rfl rfl (ltN rfl) (fun b => ?_)
  refine st (s_assign rfl) rfl ?_
  refine Run.nil ?_
  refine pj_then ?_
  refine J_seq ?_
  refine J_reg ?_
  refine st (s_fieldAddr rfl) rfl ?_
  refine st (s_loadB 1 rfl rfl rfl) rfl ?_
  refine st (s_fieldAddr rfl) rfl ?_
  refine st (s_loadB 0 rfl rfl rfl) rfl ?_
  refine st (s_eqB rfl rfl) rfl ?_
  refine st (s_move rfl) rfl ?_
  refine bsel (t := 10) rfl (fun b hb => ?_)
  rw [hb]
  cases b
  · refine sg0 rfl rfl rfl rfl ?_
    refine sg0 rfl rfl rfl rfl ?_
    refine sg0 rfl rfl rfl rfl ?_
    refine sg0 rfl rfl rfl rfl ?_
    refine sg0 rfl rfl rfl rfl ?_
    refine sg0 rfl rfl rfl rfl ?_
    refine st (s_pickF rfl rfl) rfl ?_
    refine st (s_move rfl) rfl ?_
    refine sg0 rfl rfl rfl rfl ?_
    refine sg0 rfl rfl rfl rfl ?_
    refine sg0 rfl rfl rfl rfl ?_
    refine sg0 rfl rfl rfl rfl ?_
    refine sg0 rfl rfl rfl rfl ?_
    refine sg0 rfl rfl rfl rfl ?_
    refine st (s_pickF rfl rfl) rfl ?_
    refine st (s_assign rfl) rfl ?_
    refine Run.nil ?_
    refine pj_then ?_
    refine J_ret ?_
    refine retc1 Try.results15 (.tmp rfl (one_le ?_))
    congr 1
    have : ¬ (x = y) := by intro e; subst e; simp at hb
    simp [this]
  · have hs : (x < 0) ↔ (y < 0) := by simpa using hb
    refine sg1 rfl rfl (s_fieldAddr rfl) rfl ?_
    refine sg1 rfl rfl (s_loadB 1 rfl rfl rfl) rfl ?_
    refine sg1 rfl rfl (s_fieldAddr rfl) rfl ?_
    refine sg1 rfl rfl (s_loadB 0 rfl rfl rfl) rfl ?_
    refine sg1 rfl rfl (s_callk (rless_ok _ _) rfl ⟨VT.le_refl _, VT.le_refl _, trivial⟩) rfl ?_
    refine sg1 rfl rfl (s_not rfl) rfl ?_
    refine st (s_pickT rfl rfl) rfl ?_
    refine st (s_move rfl) rfl ?_
    refine bsel (t := 18) rfl (fun b hb2 => ?_)
    rw [hb2]
    cases b
    · refine sg0 rfl rfl rfl rfl ?_
      refine sg0 rfl rfl rfl rfl ?_
      refine sg0 rfl rfl rfl rfl ?_
      refine sg0 rfl rfl rfl rfl ?_
      refine sg0 rfl rfl rfl rfl ?_
      refine sg0 rfl rfl rfl rfl ?_
      refine st (s_pickF rfl rfl) rfl ?_
      refine st (s_assign rfl) rfl ?_
      refine Run.nil ?_
      refine pj_then ?_
      refine J_ret ?_
      refine retc1 Try.results15 (.tmp rfl (one_le ?_))
      congr 1
      simp at hb2
      have : ¬ (x = y) := by intro e; subst e; omega
      simp [this]
    · simp at hb2
      refine sg1 rfl rfl (s_fieldAddr rfl) rfl ?_
      refine sg1 rfl rfl (s_loadB 0 rfl rfl rfl) rfl ?_
      refine sg1 rfl rfl (s_fieldAddr rfl) rfl ?_
      refine sg1 rfl rfl (s_loadB 1 rfl rfl rfl) rfl ?_
      refine sg1 rfl rfl (s_callk (rless_ok _ _) rfl ⟨VT.le_refl _, VT.le_refl _, trivial⟩) rfl ?_
      refine sg1 rfl rfl (s_not rfl) rfl ?_
      refine st (s_pickT rfl rfl) rfl ?_
      refine st (s_assign rfl) rfl ?_
      refine Run.nil ?_
      refine pj_then ?_
      refine J_ret ?_
      refine retc1 Try.results15 (.tmp rfl (one_le ?_))
      congr 1
      rw [← decide_not, decide_eq_decide]
      omega
end Tor
end

section
set_option linter.unusedVariables false
set_option linter.unusedSimpArgs false
namespace Tor
open Go Go.RowKit Go.Proofs

theorem take_getD_succ (l : List Nat) (k : Nat) : lv (l.take (k + 1)) = lv (l.take k) + 4294967296 ^ k * l.getD k 0 := by
  by_cases hk : k < l.length
  · exact lv_take_succ hk
  · rw [List.take_of_length_le (by omega), List.take_of_length_le (by omega)]; simp [List.getElem?_eq_none (Nat.le_of_not_lt hk)]
/-- The relation of plus's loop. -/
structure RPlus (lx ly zl : List Nat) (c : Nat) : Prop where
  lim : Limbs zl
  c1 : c ≤ 1
  val : lv zl + 4294967296 ^ zl.length * c = lv (lx.take zl.length) + lv (ly.take zl.length)
  len : zl.length ≤ max lx.length ly.length + 1
  big : max lx.length ly.length < zl.length → c = 0
theorem RPlus.step {lx ly zl : List Nat} {c : Nat} (h : RPlus lx ly zl c) (hx : Limbs lx) (hy : Limbs ly) (hgo : zl.length < lx.length ∨ zl.length < ly.length ∨ 0 < c) :
    RPlus lx ly (zl ++ [(c + lx.getD zl.length 0 + ly.getD zl.length 0) % 4294967296]) ((c + lx.getD zl.length 0 + ly.getD zl.length 0) / 4294967296) := by
  have h1 := getD_lt hx zl.length
  have h2 := getD_lt hy zl.length
  have h3 := h.c1
  refine ⟨fun d hd => ?_, by omega, ?_, ?_, ?_⟩
  · rcases List.mem_append.1 hd with hd | hd
    · exact h.lim d hd
    · simp at hd; omega
  · simp only [List.length_append, List.length_cons, List.length_nil, Nat.zero_add]
    rw [lv_append, take_getD_succ, take_getD_succ, Nat.pow_succ]
    have hv := h.val
    generalize lx.getD zl.length 0 = x at *
    generalize ly.getD zl.length 0 = y at *
    generalize 4294967296 ^ zl.length = B at *
    have e : (c + x + y) = 4294967296 * ((c + x + y) / 4294967296) + (c + x + y) % 4294967296 := by omega
    generalize (c + x + y) / 4294967296 = q at *
    generalize (c + x + y) % 4294967296 = r at *
    simp only [lv, Nat.mul_zero, Nat.add_zero]
    have e2 : B * (c + x + y) = B * (4294967296 * q + r) := by rw [e]
    simp only [Nat.mul_add, Nat.mul_assoc] at e2 ⊢
    omega
  · simp only [List.length_append, List.length_cons, List.length_nil, Nat.zero_add]
    have := h.big; omega
  · simp only [List.length_append, List.length_cons, List.length_nil, Nat.zero_add]
    intro hb
    have e1 : lx.getD zl.length 0 = 0 := by simp [List.getElem?_eq_none (show lx.length ≤ zl.length by omega)]
    have e2 : ly.getD zl.length 0 = 0 := by simp [List.getElem?_eq_none (show ly.length ≤ zl.length by omega)]
    rw [e1, e2]; omega

theorem snoc_fun (zl : List Nat) (v : Nat) : ∀ q, q < zl.length + 1 → (if q < zl.length then one (.int .u32 (zl.getD q 0 : Nat)) else one (.int .u32 (v : Nat))) = one (.int .u32 ((zl ++ [v]).getD q 0 : Nat)) := by
  intro q hq
  rw [getD_snoc]
  by_cases h : q < zl.length
  · rw [if_pos h, if_neg (by omega)]
  · have : q = zl.length := by omega
    subst this
    rw [if_neg h, if_pos rfl]
theorem sliO_len {sv : Option Nat} {T : TypeId} {L : Lay} {cap n m : Nat} {φ ψ : Nat → VT} (h : n = m) (H : ∀ q, q < n → φ q = ψ q) : Own.le (sliO sv T L cap n φ) (sliO sv T L cap m ψ) := by
  subst h; exact sliO_eq H
theorem slV_len {sv : Option Nat} {n m cap : Nat} (h : n = m) : VT.le (one (slV sv n cap)) (one (slV sv m cap)) := h ▸ VT.le_refl _
attribute [local irreducible] Tor.J Tor.PJ Tor.StepO Tor.one Tor.slT Tor.ptrT Tor.aggT Tor.tupT Tor.exT Tor.andT Tor.gT Tor.eP Tor.boxO Tor.sliO Tor.slV Tor.VT.le Tor.Ret Tor.anyT
set_option maxHeartbeats 2000000 in
theorem rplus_ok (a b : Nat) (ha : (digs a).length ≤ 1099511627776) (hb : (digs b).length ≤ 1099511627776) : Ok Try.prog 84 [limT (digs a), limT (digs b)] (natS (a + b)) := by
  refine Ok.enter Try.func84 rfl Try.ntmps84 rfl (fun w O => ?_)
  have hx := limbs_digs a
  have hy := limbs_digs b
  have hva := lv_digs a
  have hvb := lv_digs b
  generalize digs a = lx at *
  generalize digs b = ly at *
  refine J_seq ?_
  refine J_reg ?_
  refine st (s_assign rfl) rfl ?_
  refine Run.nil ?_
  refine pj_then ?_
  refine J_seq ?_
  refine J_reg ?_
  refine stSO (n := 0) rfl rfl rfl rfl rfl ?_
  refine PartsK.nil (fun b => ?_)
  refine st (s_assign rfl) rfl ?_
  refine st (s_assign rfl) rfl ?_
  refine Run.nil ?_
  refine pj_then ?_
  refine J_seq ?_
  refine J_seq ?_
  refine J_reg ?_
  refine st (s_assign rfl) rfl ?_
  refine Run.nil ?_
  refine pj_then ?_
  refine J_block ?_
  refine J_loop (σ := List Nat × Nat × Option Nat × Nat) (fun s => [(0, limT lx), (1, limT ly), (5, one (slV s.2.2.1 s.1.length s.2.2.2)), (6, one (.int .u64 (s.2.1 : Nat))), (7, one (.int .i64 s.1.length))])
      (fun s => [sliO s.2.2.1 84 .one s.2.2.2 s.1.length (fun q => one (.int .u32 (s.1.getD q 0 : Nat)))]) (fun s => RPlus lx ly s.1 s.2.1) (fun s => 2 * (max lx.length ly.length - s.1.length) + s.2.1) ([], 0, some b, 0)
      ⟨(fun d hd => by cases hd), Nat.zero_le _, by simp [lv], by simp, by simp⟩ (by repeat (first | exact SubG.nil | refine SubG.cons rfl (VT.le_refl _) ?_ | (refine SubG.cons rfl (one_le ?_) ?_; (congr 1; first | omega | (simp; omega) | simp)))) (.keep (sliO_eq (fun q hq => by omega)) .nil) (fun s hR => ?_)
  obtain ⟨zl, c, sv0, cap0⟩ := s
  simp only at hR ⊢
  have h3 := hR.c1
  have hlen := hR.len
  refine J_seq (J_seq ?_)
  refine J_join (σ := Unit) (fun _ => [(0, limT lx), (1, limT ly), (5, one (slV sv0 zl.length cap0)), (6, one (.int .u64 (c : Nat))), (7, one (.int .i64 zl.length)), (22, one (.bool (decide (zl.length < lx.length ∨ zl.length < ly.length ∨ 0 < c))))])
    (fun _ => [sliO sv0 84 .one cap0 zl.length (fun q => one (.int .u32 (zl.getD q 0 : Nat)))]) (fun _ => True) ?_ (fun _ _ => ?_)
  · refine J_reg ?_
    refine st (s_move rfl) rfl ?_
    refine st (s_move rfl) rfl ?_
    refine st (s_len rfl) rfl ?_
    refine st (s_lt rfl rfl) rfl ?_
    refine st (s_move rfl) rfl ?_
    refine bsel (t := 13) rfl (fun b h1 => ?_)
    rw [h1]
    cases b
    · simp at h1
      refine sg1 rfl rfl (s_move rfl) rfl ?_
      refine sg1 rfl rfl (s_move rfl) rfl ?_
      refine sg1 rfl rfl (s_len rfl) rfl ?_
      refine sg1 rfl rfl (s_lt rfl rfl) rfl ?_
      refine st (s_pickF rfl rfl) rfl ?_
      refine st (s_move rfl) rfl ?_
      refine bsel (t := 19) rfl (fun b h2 => ?_)
      rw [h2]
      cases b
      · simp at h2
        refine sg1 rfl rfl (s_move rfl) rfl ?_
        refine sg1 rfl rfl (s_gt rfl rfl) rfl ?_
        refine st (s_pickF rfl rfl) rfl ?_
        refine Run.nil ?_
        exact pj_cut () trivial (.cons rfl (VT.le_refl _) (.cons rfl (VT.le_refl _) (.cons rfl (VT.le_refl _) (.cons rfl (VT.le_refl _) (.cons rfl (VT.le_refl _) (.cons rfl (one_le (by congr 1; rw [decide_eq_decide]; omega)) .nil)))))) (SubM.refl _)
      · simp at h2
        refine sg0 rfl rfl rfl rfl ?_
        refine sg0 rfl rfl rfl rfl ?_
        refine st (s_pickT rfl rfl) rfl ?_
        refine Run.nil ?_
        exact pj_cut () trivial (.cons rfl (VT.le_refl _) (.cons rfl (VT.le_refl _) (.cons rfl (VT.le_refl _) (.cons rfl (VT.le_refl _) (.cons rfl (VT.le_refl _) (.cons rfl (one_le (by simp; omega)) .nil)))))) (SubM.refl _)
    · simp at h1
      refine sg0 rfl rfl rfl rfl ?_
      refine sg0 rfl rfl rfl rfl ?_
      refine sg0 rfl rfl rfl rfl ?_
      refine sg0 rfl rfl rfl rfl ?_
      refine st (s_pickT rfl rfl) rfl ?_
      refine st (s_move rfl) rfl ?_
      refine sg0 rfl rfl rfl rfl ?_
      refine sg0 rfl rfl rfl rfl ?_
      refine st (s_pickT rfl rfl) rfl ?_
      refine Run.nil ?_
      exact pj_cut () trivial (.cons rfl (VT.le_refl _) (.cons rfl (VT.le_refl _) (.cons rfl (VT.le_refl _) (.cons rfl (VT.le_refl _) (.cons rfl (VT.le_refl _) (.cons rfl (one_le (by simp; omega)) .nil)))))) (SubM.refl _)
  · refine pj_then ?_
    refine J_cond rfl (fun hc => ?_) (fun hc => ?_) <;> simp only [decide_eq_true_eq, decide_eq_false_iff_not] at hc
    · have hstep := hR.step hx hy hc
      have g1 := getD_lt hx zl.length
      have g2 := getD_lt hy zl.length
      refine J_skip ?_
      refine pj_then ?_
      refine J_seq ?_
      refine J_block ?_
      refine J_seq ?_
      refine J_seq ?_
      refine J_reg ?_
      refine st (s_move rfl) rfl ?_
      refine st (s_move rfl) rfl ?_
      refine st (s_len rfl) rfl ?_
      refine st (s_lt rfl rfl) rfl ?_
      refine Run.nil ?_
      refine pj_then ?_
      refine J_join (σ := Unit) (fun _ => [(0, limT lx), (1, limT ly), (5, one (slV sv0 zl.length cap0)), (6, one (.int .u64 (c + lx.getD zl.length 0 : Nat))), (7, one (.int .i64 zl.length))])
        (fun _ => [sliO sv0 84 .one cap0 zl.length (fun q => one (.int .u32 (zl.getD q 0 : Nat)))]) (fun _ => True) ?_ (fun _ _ => ?_)
      · refine J_cond rfl (fun hc2 => ?_) (fun hc2 => ?_) <;> simp only [decide_eq_true_eq, decide_eq_false_iff_not] at hc2
        · refine J_reg ?_
          refine st (s_move rfl) rfl ?_
          refine st (s_move rfl) rfl ?_
          refine st (s_move rfl) rfl ?_
          (refine st (s_indexIN rfl rfl ?_) rfl ?_; omega)
          refine st (s_load rfl) rfl ?_
          (refine st (s_toU64 rfl ?_) rfl ?_; omega)
          (refine st (s_addU rfl rfl ?_) rfl ?_; omega)
          refine st (s_assign rfl) rfl ?_
          refine Run.nil ?_
          exact pj_cut () trivial (by repeat (first | exact SubG.nil | refine SubG.cons rfl (VT.le_refl _) ?_ | (refine SubG.cons rfl (one_le ?_) ?_; (congr 1; first | omega | (simp; omega) | simp)))) (SubM.refl _)
        · have e0 : lx.getD zl.length 0 = 0 := by simp [List.getElem?_eq_none (show lx.length ≤ zl.length by omega)]
          refine J_skip ?_
          exact pj_cut () trivial (by repeat (first | exact SubG.nil | refine SubG.cons rfl (VT.le_refl _) ?_ | (refine SubG.cons rfl (one_le ?_) ?_; (congr 1; first | omega | (simp; omega) | simp)))) (SubM.refl _)
      · refine pj_then ?_
        refine J_seq ?_
        refine J_seq ?_
        refine J_reg ?_
        refine st (s_move rfl) rfl ?_
        refine st (s_move rfl) rfl ?_
        refine st (s_len rfl) rfl ?_
        refine st (s_lt rfl rfl) rfl ?_
        refine Run.nil ?_
        refine pj_then ?_
        refine J_join (σ := Unit) (fun _ => [(0, limT lx), (1, limT ly), (5, one (slV sv0 zl.length cap0)), (6, one (.int .u64 (c + lx.getD zl.length 0 + ly.getD zl.length 0 : Nat))), (7, one (.int .i64 zl.length))])
          (fun _ => [sliO sv0 84 .one cap0 zl.length (fun q => one (.int .u32 (zl.getD q 0 : Nat)))]) (fun _ => True) ?_ (fun _ _ => ?_)
        · refine J_cond rfl (fun hc2 => ?_) (fun hc2 => ?_) <;> simp only [decide_eq_true_eq, decide_eq_false_iff_not] at hc2
          · refine J_reg ?_
            refine st (s_move rfl) rfl ?_
            refine st (s_move rfl) rfl ?_
            refine st (s_move rfl) rfl ?_
            (refine st (s_indexIN rfl rfl ?_) rfl ?_; omega)
            refine st (s_load rfl) rfl ?_
            (refine st (s_toU64 rfl ?_) rfl ?_; omega)
            (refine st (s_addU rfl rfl ?_) rfl ?_; omega)
            refine st (s_assign rfl) rfl ?_
            refine Run.nil ?_
            exact pj_cut () trivial (by repeat (first | exact SubG.nil | refine SubG.cons rfl (VT.le_refl _) ?_ | (refine SubG.cons rfl (one_le ?_) ?_; (congr 1; first | omega | (simp; omega) | simp)))) (SubM.refl _)
          · have e0 : ly.getD zl.length 0 = 0 := by simp [List.getElem?_eq_none (show ly.length ≤ zl.length by omega)]
            refine J_skip ?_
            exact pj_cut () trivial (by repeat (first | exact SubG.nil | refine SubG.cons rfl (VT.le_refl _) ?_ | (refine SubG.cons rfl (one_le ?_) ?_; (congr 1; first | omega | (simp; omega) | simp)))) (SubM.refl _)
        · refine pj_then ?_
          refine J_seq ?_
          refine J_reg ?_
          refine st (s_move rfl) rfl ?_
          refine st (s_move rfl) rfl ?_
          refine st (s_toU32 rfl) rfl ?_
          refine stS1 rfl rfl rfl rfl ?_
          (refine a_append 0 rfl rfl rfl (leN rfl) ?_ ?_ rfl (ltN rfl) (fun sv cap => ?_); omega; omega)
          refine st (s_assign rfl) rfl ?_
          refine Run.nil ?_
          refine pj_then ?_
          refine J_reg ?_
          refine st (s_move rfl) rfl ?_
          (refine st (s_quo32 rfl ?_) rfl ?_; omega)
          refine st (s_assign rfl) rfl ?_
          refine Run.nil ?_
          refine pn_block ?_
          refine pj_then ?_
          refine J_reg ?_
          refine st (s_move rfl) rfl ?_
          (refine st (s_add rfl rfl (wrap_i64 ?_ ?_)) rfl ?_; omega; omega)
          refine st (s_assign rfl) rfl ?_
          refine Run.nil ?_
          refine pj_round (s := (zl, c, sv0, cap0)) (zl ++ [(c + lx.getD zl.length 0 + ly.getD zl.length 0) % 4294967296], (c + lx.getD zl.length 0 + ly.getD zl.length 0) / 4294967296, sv, cap) hstep ?_ (.cons rfl (VT.le_refl _) (.cons rfl (VT.le_refl _) (.cons rfl (slV_len (by simp)) (.cons rfl (VT.le_refl _) (.cons rfl (one_le (by simp)) .nil))))) (.keep (sliO_len (by simp) (fun q hq => snoc_fun zl _ q (by simpa using hq))) .nil)
          have h8 := hstep.c1
          have h9 := hstep.big
          have h10 := hR.big
          simp only [List.length_append, List.length_cons, List.length_nil, Nat.zero_add] at *
          omega
    · refine J_exit ?_
      refine px_then ?_
      refine px_then ?_
      refine px_block ?_
      refine pj_then ?_
      refine J_seq ?_
      refine J_reg ?_
      refine st (s_move rfl) rfl ?_
      refine st (s_assign rfl) rfl ?_
      refine Run.nil ?_
      refine pj_then ?_
      refine J_ret ?_
      refine PJ_freeze (t := 4) (i := 0) rfl rfl ?_
      refine retc1 Try.results84 (.tmp rfl (natS_of (l := zl) hR.lim ?_ (by omega)))
      have h4 := hR.val
      have h5 : c = 0 := by omega
      rw [h5, List.take_of_length_le (by omega), List.take_of_length_le (by omega), hva, hvb] at h4
      omega
end Tor
end

section
set_option linter.unusedVariables false
set_option linter.unusedSimpArgs false
namespace Tor
open Go Go.RowKit Go.Proofs
theorem RMinus.step {lx ly zl : List Nat} {c : Nat} (h : MinusR lx ly zl c) (hx : Limbs lx) (hy : Limbs ly) (hl : ly.length ≤ lx.length) (hlt : zl.length < lx.length) :
    MinusR lx ly (zl ++ [(lx.getD zl.length 0 + 4294967296 - c - ly.getD zl.length 0) % 4294967296]) (if lx.getD zl.length 0 < c + ly.getD zl.length 0 then 1 else 0) := by
  have h1 := getD_lt hx zl.length
  have h2 := getD_lt hy zl.length
  have h3 := h.c1
  have := h.step hx hy hl hlt rfl
  generalize lx.getD zl.length 0 = x at *
  generalize ly.getD zl.length 0 = y at *
  have e1 : ((x + 18446744073709551616 - c) % 18446744073709551616 + 18446744073709551616 - y) % 18446744073709551616 % 4294967296 = (x + 4294967296 - c - y) % 4294967296 := by omega
  have e2 : ((x + 18446744073709551616 - c) % 18446744073709551616 + 18446744073709551616 - y) % 18446744073709551616 / 9223372036854775808 = if x < c + y then 1 else 0 := by split <;> omega
  rw [e1, e2] at this
  exact this
theorem snoc_fun' (zl : List Nat) (v : Nat) : ∀ q, q < zl.length + 1 → v < 4294967296 → (if q < zl.length then one (.int .u32 (zl.getD q 0 : Nat)) else one (.int .u32 (v % 4294967296 : Nat))) = one (.int .u32 ((zl ++ [v]).getD q 0 : Nat)) := by
  intro q hq hv
  rw [Nat.mod_eq_of_lt hv]
  exact snoc_fun zl v q hq
attribute [local irreducible] Tor.J Tor.PJ Tor.StepO Tor.one Tor.slT Tor.ptrT Tor.aggT Tor.tupT Tor.exT Tor.andT Tor.gT Tor.eP Tor.boxO Tor.sliO Tor.slV Tor.VT.le Tor.Ret Tor.anyT
set_option maxHeartbeats 2000000 in
theorem rminus_ok (a b : Nat) (hab : b ≤ a) (ha : (digs a).length ≤ 1099511627776) : Ok Try.prog 85 [limT (digs a), limT (digs b)] (natS (a - b)) := by
  refine Ok.enter Try.func85 rfl Try.ntmps85 rfl (fun w O => ?_)
  have hx := limbs_digs a
  have hy := limbs_digs b
  have hl := digs_len_le' hab
  have hva := lv_digs a
  have hvb := lv_digs b
  generalize digs a = lx at *
  generalize digs b = ly at *
  refine J_seq ?_
  refine J_reg ?_
  refine st (s_assign rfl) rfl ?_
  refine Run.nil ?_
  refine pj_then ?_
  refine J_seq ?_
  refine J_reg ?_
  refine stSO (n := 0) rfl rfl rfl rfl rfl ?_
  refine PartsK.nil (fun b => ?_)
  refine st (s_assign rfl) rfl ?_
  refine st (s_assign rfl) rfl ?_
  refine Run.nil ?_
  refine pj_then ?_
  refine J_seq ?_
  refine J_seq ?_
  refine J_reg ?_
  refine st (s_assign rfl) rfl ?_
  refine Run.nil ?_
  refine pj_then ?_
  refine J_block ?_
  refine J_loop (σ := List Nat × Nat × Option Nat × Nat) (fun s => [(0, limT lx), (1, limT ly), (5, one (slV s.2.2.1 s.1.length s.2.2.2)), (6, one (.int .i64 (s.2.1 : Nat))), (7, one (.int .i64 s.1.length))])
      (fun s => [sliO s.2.2.1 84 .one s.2.2.2 s.1.length (fun q => one (.int .u32 (s.1.getD q 0 : Nat)))]) (fun s => MinusR lx ly s.1 s.2.1) (fun s => lx.length - s.1.length) ([], 0, some b, 0)
      ⟨by simp, (fun d hd => by cases hd), Nat.zero_le _, by simp [lv]⟩ (by repeat (first | exact SubG.nil | refine SubG.cons rfl (VT.le_refl _) ?_ | (refine SubG.cons rfl (one_le ?_) ?_; (congr 1; first | omega | (simp; omega) | simp)))) (.keep (sliO_eq (fun q hq => by omega)) .nil) (fun s hR => ?_)
  obtain ⟨zl, c, sv0, cap0⟩ := s
  simp only at hR ⊢
  have h3 := hR.c1
  have hlen := hR.len
  refine J_seq ?_
  refine J_seq ?_
  refine J_reg ?_
  refine st (s_move rfl) rfl ?_
  refine st (s_move rfl) rfl ?_
  refine st (s_len rfl) rfl ?_
  refine st (s_lt rfl rfl) rfl ?_
  refine Run.nil ?_
  refine pj_then ?_
  refine J_cond rfl (fun hc => ?_) (fun hc => ?_) <;> simp at hc
  · have hstep := RMinus.step hR hx hy hl hc
    have g1 := getD_lt hx zl.length
    have g2 := getD_lt hy zl.length
    refine J_skip ?_
    refine pj_then ?_
    refine J_seq ?_
    refine J_block ?_
    refine J_seq ?_
    refine J_reg ?_
    refine st (s_move rfl) rfl ?_
    refine st (s_move rfl) rfl ?_
    (refine st (s_indexIN rfl rfl ?_) rfl ?_; omega)
    refine st (s_load rfl) rfl ?_
    (refine st (s_toI64 rfl ?_ ?_) rfl ?_; omega; omega)
    refine st (s_move rfl) rfl ?_
    (refine st (s_sub rfl rfl (wrap_i64 ?_ ?_)) rfl ?_; omega; omega)
    refine st (s_assign rfl) rfl ?_
    refine Run.nil ?_
    refine pj_then ?_
    refine J_seq ?_
    refine J_seq ?_
    refine J_reg ?_
    refine st (s_move rfl) rfl ?_
    refine st (s_move rfl) rfl ?_
    refine st (s_len rfl) rfl ?_
    refine st (s_lt rfl rfl) rfl ?_
    refine Run.nil ?_
    refine pj_then ?_
    refine J_join (σ := Unit) (fun _ => [(0, limT lx), (1, limT ly), (5, one (slV sv0 zl.length cap0)), (8, one (.int .i64 ((lx.getD zl.length 0 : Nat) - (c : Nat) - (ly.getD zl.length 0 : Nat)))), (7, one (.int .i64 zl.length))])
      (fun _ => [sliO sv0 84 .one cap0 zl.length (fun q => one (.int .u32 (zl.getD q 0 : Nat)))]) (fun _ => True) ?_ (fun _ _ => ?_)
    · refine J_cond rfl (fun hc => ?_) (fun hc => ?_) <;> simp at hc
      · refine J_reg ?_
        refine st (s_move rfl) rfl ?_
        refine st (s_move rfl) rfl ?_
        refine st (s_move rfl) rfl ?_
        (refine st (s_indexIN rfl rfl ?_) rfl ?_; omega)
        refine st (s_load rfl) rfl ?_
        (refine st (s_toI64 rfl ?_ ?_) rfl ?_; omega; omega)
        (refine st (s_sub rfl rfl (wrap_i64 ?_ ?_)) rfl ?_; omega; omega)
        refine st (s_assign rfl) rfl ?_
        refine Run.nil ?_
        exact pj_cut () trivial (by repeat (first | exact SubG.nil | refine SubG.cons rfl (VT.le_refl _) ?_ | (refine SubG.cons rfl (one_le ?_) ?_; (congr 1; first | omega | (simp; omega) | simp)))) (SubM.refl _)
      · have e0 : ly.getD zl.length 0 = 0 := by simp [List.getElem?_eq_none (show ly.length ≤ zl.length by omega)]
        refine J_skip ?_
        exact pj_cut () trivial (by repeat (first | exact SubG.nil | refine SubG.cons rfl (VT.le_refl _) ?_ | (refine SubG.cons rfl (one_le ?_) ?_; (congr 1; first | omega | (simp; omega) | simp)))) (SubM.refl _)
    · generalize lx.getD zl.length 0 = x at *
      generalize ly.getD zl.length 0 = y at *
      refine pj_then ?_
      refine J_seq ?_
      refine J_reg ?_
      refine st (s_assign rfl) rfl ?_
      refine Run.nil ?_
      refine pj_then ?_
      refine J_seq ?_
      refine J_seq ?_
      refine J_reg ?_
      refine st (s_move rfl) rfl ?_
      refine st (s_lt rfl rfl) rfl ?_
      refine Run.nil ?_
      refine pj_then ?_
      refine J_join (σ := Unit) (fun _ => [(0, limT lx), (1, limT ly), (5, one (slV sv0 zl.length cap0)), (6, one (.int .i64 ((if x < c + y then 1 else 0 : Nat)))), (8, one (.int .i64 ((x + 4294967296 - c - y) % 4294967296 : Nat))), (7, one (.int .i64 zl.length))])
        (fun _ => [sliO sv0 84 .one cap0 zl.length (fun q => one (.int .u32 (zl.getD q 0 : Nat)))]) (fun _ => True) ?_ (fun _ _ => ?_)
      · refine J_cond rfl (fun hc => ?_) (fun hc => ?_) <;> simp at hc
        · refine J_seq ?_
          refine J_reg ?_
          refine st (s_move rfl) rfl ?_
          (refine st (s_add rfl rfl (wrap_i64 ?_ ?_)) rfl ?_; omega; omega)
          refine st (s_assign rfl) rfl ?_
          refine Run.nil ?_
          refine pj_then ?_
          refine J_reg ?_
          refine st (s_assign rfl) rfl ?_
          refine Run.nil ?_
          rw [if_pos (by omega)]
          exact pj_cut () trivial (.cons rfl (VT.le_refl _) (.cons rfl (VT.le_refl _) (.cons rfl (VT.le_refl _) (.cons rfl (VT.le_refl _) (.cons rfl (one_le (by congr 1; omega)) (.cons rfl (VT.le_refl _) .nil)))))) (SubM.refl _)
        · refine J_skip ?_
          rw [if_neg (by omega)]
          exact pj_cut () trivial (.cons rfl (VT.le_refl _) (.cons rfl (VT.le_refl _) (.cons rfl (VT.le_refl _) (.cons rfl (VT.le_refl _) (.cons rfl (one_le (by congr 1; omega)) (.cons rfl (VT.le_refl _) .nil)))))) (SubM.refl _)
      · generalize (x + 4294967296 - c - y) % 4294967296 = d at *
        generalize (if x < c + y then 1 else 0) = c2 at *
        refine pj_then ?_
        refine J_reg ?_
        refine st (s_move rfl) rfl ?_
        refine st (s_move rfl) rfl ?_
        refine st (s_toU32 rfl) rfl ?_
        refine stS1 rfl rfl rfl rfl ?_
        (refine a_append 0 rfl rfl rfl (leN rfl) ?_ ?_ rfl (ltN rfl) (fun sv cap => ?_); omega; omega)
        refine st (s_assign rfl) rfl ?_
        refine Run.nil ?_
        refine pn_block ?_
        refine pj_then ?_
        refine J_reg ?_
        refine st (s_move rfl) rfl ?_
        (refine st (s_add rfl rfl (wrap_i64 ?_ ?_)) rfl ?_; omega; omega)
        refine st (s_assign rfl) rfl ?_
        refine Run.nil ?_
        refine pj_round (s := (zl, c, sv0, cap0)) (zl ++ [d], c2, sv, cap) hstep ?_ (.cons rfl (VT.le_refl _) (.cons rfl (VT.le_refl _) (.cons rfl (slV_len (by simp)) (.cons rfl (VT.le_refl _) (.cons rfl (one_le (by simp)) .nil))))) (.keep (sliO_len (by simp) (fun q hq => snoc_fun' zl _ q (by simpa using hq) (hstep.lim d (by simp)))) .nil)
        simp only [List.length_append, List.length_cons, List.length_nil, Nat.zero_add] at *
        omega
  · have hlen : zl.length = lx.length := by have := hR.len; omega
    refine J_exit ?_
    refine px_then ?_
    refine px_then ?_
    refine px_block ?_
    refine pj_then ?_
    refine J_seq ?_
    refine J_reg ?_
    refine st (s_move rfl) rfl ?_
    refine st (s_assign rfl) rfl ?_
    refine Run.nil ?_
    refine pj_then ?_
    refine J_ret ?_
    refine PJ_freeze (t := 4) (i := 0) rfl rfl ?_
    refine retc1 Try.results85 (.tmp rfl (natS_of (l := zl) hR.lim ?_ (by omega)))
    have h4 := hR.val
    rw [hlen, List.take_length, List.take_of_length_le (by omega), hva, hvb] at h4
    have h5 := lv_lt hR.lim
    rw [hlen] at h5
    have h6 := lv_lt hx
    rcases Nat.le_one_iff_eq_zero_or_eq_one.1 hR.c1 with h7 | h7 <;> simp only [h7, Nat.mul_zero, Nat.mul_one, Nat.add_zero] at h4 <;> omega
end Tor
end

section
set_option linter.unusedVariables false
set_option linter.unusedSimpArgs false
namespace Tor
open Go Go.RowKit Go.Proofs
theorem two_natS (u : Nat) (h : u < 18446744073709551616) : VT.le (slT .one 2 (fun q => [one (.int .u32 ((u / 4294967296 % 4294967296 : Nat) : Int)), one (.int .u32 ((u % 4294967296 : Nat) : Int))].reverse.getD q anyT)) (natS u) := by
  refine VT.le_trans (slT_le' (m := 2) (ψ := fun i => one (.int .u32 ([u % 4294967296, u / 4294967296 % 4294967296].getD i 0 : Nat))) rfl (fun q hq => ?_)) (natS_of (l := [u % 4294967296, u / 4294967296 % 4294967296]) (fun d hd => ?_) ?_ (by simp))
  · match q, hq with
    | 0, _ => rfl
    | 1, _ => rfl
  · simp at hd; omega
  · simp only [lv]; omega
attribute [local irreducible] Tor.J Tor.PJ Tor.StepO Tor.one Tor.slT Tor.ptrT Tor.aggT Tor.tupT Tor.exT Tor.andT Tor.gT Tor.eP Tor.boxO Tor.sliO Tor.slV Tor.VT.le Tor.Ret Tor.anyT
theorem rOf_ok (n : Int) (h1 : -9223372036854775808 ≤ n) (h2 : n ≤ 9223372036854775807) : Ok Try.prog 30 [one (.int .i64 n)] (bigT n) := by
  refine Ok.enter Try.func30 rfl Try.ntmps30 rfl (fun w O => ?_)
  by_cases hn : n < 0
  · refine J_seq ?_
    refine J_reg ?_
    refine a_alloc (T := 34) rfl (ltN rfl) (fun b => ?_)
    refine Run.nil ?_
    refine pj_then ?_
    refine J_seq ?_
    refine J_reg ?_
    refine st (s_move rfl) rfl ?_
    refine st (s_conv (r := ((18446744073709551616 - n.natAbs : Nat) : Int)) rfl (by rw [wrap_u64]; omega)) rfl ?_
    refine st (s_assign rfl) rfl ?_
    refine Run.nil ?_
    refine pj_then ?_
    refine J_seq ?_
    refine J_seq ?_
    refine J_reg ?_
    refine st (s_move rfl) rfl ?_
    refine st (s_lt rfl rfl) rfl ?_
    refine Run.nil ?_
    refine pj_then ?_
    refine J_cond rfl (fun hc => ?_) (fun hc => ?_) <;> simp at hc
    · refine J_reg ?_
      refine st (s_move rfl) rfl ?_
      refine st (s_neg (r := (n.natAbs : Int)) rfl (by rw [wrap_u64]; omega)) rfl ?_
      refine st (s_assign rfl) rfl ?_
      refine Run.nil ?_
      refine pj_then ?_
      refine J_seq ?_
      refine J_reg ?_
      refine st (s_move rfl) rfl ?_
      refine st (s_toU32 rfl) rfl ?_
      refine st (s_move rfl) rfl ?_
      refine st (s_shr32 rfl) rfl ?_
      refine st (s_toU32 rfl) rfl ?_
      refine stS rfl rfl rfl rfl ?_
      refine PartsK.cons rfl ?_
      refine PartsK.cons rfl ?_
      refine PartsK.nil ?_
      refine st (s_move rfl) rfl ?_
      refine st (s_lt rfl rfl) rfl ?_
      refine st (s_callk (rMade_ok (decide (n < 0)) n.natAbs) rfl ⟨two_natS _ (by omega), VT.le_refl _, trivial⟩) rfl ?_
      refine a_storeB 0 rfl rfl rfl rfl rfl (leN rfl) rfl ?_
      refine Run.nil ?_
      refine pj_then ?_
      refine J_ret ?_
      exact retc1 Try.results30 (.cellB 0 rfl rfl rfl (bigT_eq (by rw [decide_eq_true hn, if_pos rfl]; omega)))
    · omega
  · refine J_seq ?_
    refine J_reg ?_
    refine a_alloc (T := 34) rfl (ltN rfl) (fun b => ?_)
    refine Run.nil ?_
    refine pj_then ?_
    refine J_seq ?_
    refine J_reg ?_
    refine st (s_move rfl) rfl ?_
    refine st (s_conv (r := (n.natAbs : Int)) rfl (by rw [wrap_u64]; omega)) rfl ?_
    refine st (s_assign rfl) rfl ?_
    refine Run.nil ?_
    refine pj_then ?_
    refine J_seq ?_
    refine J_seq ?_
    refine J_reg ?_
    refine st (s_move rfl) rfl ?_
    refine st (s_lt rfl rfl) rfl ?_
    refine Run.nil ?_
    refine pj_then ?_
    refine J_cond rfl (fun hc => ?_) (fun hc => ?_) <;> simp at hc
    · omega
    · refine J_skip ?_
      refine pj_then ?_
      refine J_seq ?_
      refine J_reg ?_
      refine st (s_move rfl) rfl ?_
      refine st (s_toU32 rfl) rfl ?_
      refine st (s_move rfl) rfl ?_
      refine st (s_shr32 rfl) rfl ?_
      refine st (s_toU32 rfl) rfl ?_
      refine stS rfl rfl rfl rfl ?_
      refine PartsK.cons rfl ?_
      refine PartsK.cons rfl ?_
      refine PartsK.nil ?_
      refine st (s_move rfl) rfl ?_
      refine st (s_lt rfl rfl) rfl ?_
      refine st (s_callk (rMade_ok (decide (n < 0)) n.natAbs) rfl ⟨two_natS _ (by omega), VT.le_refl _, trivial⟩) rfl ?_
      refine a_storeB 0 rfl rfl rfl rfl rfl (leN rfl) rfl ?_
      refine Run.nil ?_
      refine pj_then ?_
      refine J_ret ?_
      exact retc1 Try.results30 (.cellB 0 rfl rfl rfl (bigT_eq (by rw [decide_eq_false hn]; simp; omega)))
set_option maxHeartbeats 1000000 in
theorem rAdd_ok (n1 n2 : Bool) (v1 v2 : Nat) (h1 : (digs v1).length ≤ 1099511627776) (h2 : (digs v2).length ≤ 1099511627776) : Ok Try.prog 66 [sgT n1 v1, sgT n2 v2] (bigT (sv n1 v1 + sv n2 v2)) := by
  refine Ok.enter Try.func66 rfl Try.ntmps66 rfl (fun w O => ?_)
  refine J_seq ?_
  refine J_reg ?_
  refine a_boxS rfl rfl (ltN rfl) (fun b => ?_)
  refine a_boxS rfl rfl (ltN rfl) (fun b => ?_)
  refine a_alloc (T := 34) rfl (ltN rfl) (fun b => ?_)
  refine Run.nil ?_
  refine pj_then ?_
  refine J_seq ?_
  refine J_seq ?_
  refine J_reg ?_
  refine st (s_fieldAddr rfl) rfl ?_
  refine st (s_loadB 2 rfl rfl rfl) rfl ?_
  refine st (s_fieldAddr rfl) rfl ?_
  refine st (s_loadB 1 rfl rfl rfl) rfl ?_
  refine st (s_eqB rfl rfl) rfl ?_
  refine Run.nil ?_
  refine pj_then ?_
  refine J_cond rfl (fun hc => ?_) (fun hc => ?_) <;> simp at hc
  · subst hc
    refine J_seq ?_
    refine J_regd 8 mixed (by kernel_rfl) (by decide) ?_
    refine st (s_fieldAddr rfl) rfl ?_
    refine st (s_loadB 2 rfl rfl rfl) rfl ?_
    refine st (s_fieldAddr rfl) rfl ?_
    refine st (s_loadB 1 rfl rfl rfl) rfl ?_
    refine st (s_callk (rplus_ok _ _ h1 h2) rfl ⟨VT.le_refl _, VT.le_refl _, trivial⟩) rfl ?_
    refine st (s_fieldAddr rfl) rfl ?_
    refine st (s_loadB 2 rfl rfl rfl) rfl ?_
    refine st (s_callk (rMade_ok _ _) rfl ⟨VT.le_refl _, VT.le_refl _, trivial⟩) rfl ?_
    refine Run.nil ?_
    refine a_storeB 0 rfl rfl rfl rfl rfl (leN rfl) rfl ?_
    refine Run.nil ?_
    refine pj_then ?_
    refine J_ret ?_
    refine pr_then ?_
    exact retc1 Try.results66 (.cellB 0 rfl rfl rfl (bigT_eq (by unfold sv; split <;> omega)))
  · refine J_skip ?_
    refine pj_then ?_
    refine J_seq ?_
    refine J_seq ?_
    refine J_reg ?_
    refine st (s_fieldAddr rfl) rfl ?_
    refine st (s_loadB 2 rfl rfl rfl) rfl ?_
    refine st (s_fieldAddr rfl) rfl ?_
    refine st (s_loadB 1 rfl rfl rfl) rfl ?_
    refine st (s_callk (rless_ok _ _) rfl ⟨VT.le_refl _, VT.le_refl _, trivial⟩) rfl ?_
    refine Run.nil ?_
    refine pj_then ?_
    refine J_cond rfl (fun hc2 => ?_) (fun hc2 => ?_) <;> simp at hc2
    · refine J_seq ?_
      refine J_regd 8 mixed (by kernel_rfl) (by decide) ?_
      refine st (s_fieldAddr rfl) rfl ?_
      refine st (s_loadB 1 rfl rfl rfl) rfl ?_
      refine st (s_fieldAddr rfl) rfl ?_
      refine st (s_loadB 2 rfl rfl rfl) rfl ?_
      refine st (s_callk (rminus_ok _ _ (by omega) h2) rfl ⟨VT.le_refl _, VT.le_refl _, trivial⟩) rfl ?_
      refine st (s_fieldAddr rfl) rfl ?_
      refine st (s_loadB 1 rfl rfl rfl) rfl ?_
      refine st (s_callk (rMade_ok _ _) rfl ⟨VT.le_refl _, VT.le_refl _, trivial⟩) rfl ?_
      refine Run.nil ?_
      refine a_storeB 0 rfl rfl rfl rfl rfl (leN rfl) rfl ?_
      refine Run.nil ?_
      refine pj_then ?_
      refine J_ret ?_
      refine pr_then ?_
      exact retc1 Try.results66 (.cellB 0 rfl rfl rfl (bigT_eq (by unfold sv; cases n1 <;> cases n2 <;> simp at hc ⊢ <;> omega)))
    · refine J_skip ?_
      refine pj_then ?_
      refine J_seq ?_
      refine J_regd 8 mixed (by kernel_rfl) (by decide) ?_
      refine st (s_fieldAddr rfl) rfl ?_
      refine st (s_loadB 2 rfl rfl rfl) rfl ?_
      refine st (s_fieldAddr rfl) rfl ?_
      refine st (s_loadB 1 rfl rfl rfl) rfl ?_
      refine st (s_callk (rminus_ok _ _ (by omega) h1) rfl ⟨VT.le_refl _, VT.le_refl _, trivial⟩) rfl ?_
      refine st (s_fieldAddr rfl) rfl ?_
      refine st (s_loadB 2 rfl rfl rfl) rfl ?_
      refine st (s_callk (rMade_ok _ _) rfl ⟨VT.le_refl _, VT.le_refl _, trivial⟩) rfl ?_
      refine Run.nil ?_
      refine a_storeB 0 rfl rfl rfl rfl rfl (leN rfl) rfl ?_
      refine Run.nil ?_
      refine pj_then ?_
      refine J_ret ?_
      exact retc1 Try.results66 (.cellB 0 rfl rfl rfl (bigT_eq (by unfold sv; cases n1 <;> cases n2 <;> simp at hc ⊢ <;> omega)))
end Tor
end

section
set_option linter.unusedVariables false
set_option linter.unusedSimpArgs false
namespace Tor
open Go Go.RowKit Go.Proofs
/-- The relation of Mul's outer loop. -/
structure RTimesR (lx ly zz : List Nat) (i : Nat) : Prop where
  le : i ≤ lx.length
  len : zz.length = lx.length + ly.length + 1
  lim : Limbs zz
  zero : ∀ k, i + ly.length ≤ k → zz.getD k 0 = 0
  val : lv zz = lv (lx.take i) * lv ly
/-- That of its inner loop. -/
structure RTimesI (lx ly z0 zz : List Nat) (i j c : Nat) : Prop where
  le : j ≤ ly.length + 1
  top : ly.length < j → c = 0
  len : zz.length = lx.length + ly.length + 1
  lim : Limbs zz
  zero : ∀ k, i + ly.length < k → zz.getD k 0 = 0
  zer1 : j ≤ ly.length → zz.getD (i + ly.length) 0 = 0
  c1 : c < 4294967296
  val : lv zz + 4294967296 ^ (i + j) * c = lv z0 + 4294967296 ^ i * (lx.getD i 0 * lv (ly.take j))
theorem RTimesI.step {lx ly z0 zz : List Nat} {i j c : Nat} (h : RTimesI lx ly z0 zz i j c) (hx : Limbs lx) (hy : Limbs ly) (hi : i < lx.length) (hgo : j < ly.length ∨ 0 < c) :
    RTimesI lx ly z0 (zz.set (i + j) ((c + zz.getD (i + j) 0 + lx.getD i 0 * ly.getD j 0) % 4294967296)) i (j + 1) ((c + zz.getD (i + j) 0 + lx.getD i 0 * ly.getD j 0) / 4294967296) := by
  have hj : j ≤ ly.length := by have := h.le; have := h.top; omega
  have hlim := mul_lim (getD_lt hx i) (getD_lt hy j) (getD_lt h.lim (i + j)) h.c1
  have hlt : i + j < zz.length := by rw [h.len]; omega
  refine ⟨by omega, fun ht => ?_, by rw [List.length_set]; exact h.len, h.lim.set (by omega), fun k hk => ?_, fun hk => ?_, by omega, ?_⟩
  · have e : j = ly.length := by omega
    subst e
    rw [h.zer1 (Nat.le_refl _)]
    have e2 : ly.getD ly.length 0 = 0 := by simp
    rw [e2, Nat.mul_zero]
    have := h.c1; omega
  · rw [getD_setL hlt, if_neg (by omega)]; exact h.zero k hk
  · rw [getD_setL hlt, if_neg (by omega)]; exact h.zer1 (by omega)
  · have hs := lv_set (l := zz) (k := i + j) (v := (c + zz.getD (i + j) 0 + lx.getD i 0 * ly.getD j 0) % 4294967296) hlt
    have hv := h.val
    rw [take_getD_succ]
    generalize lx.getD i 0 = x at *
    generalize ly.getD j 0 = y at *
    generalize zz.getD (i + j) 0 = z at *
    have e : c + z + x * y = 4294967296 * ((c + z + x * y) / 4294967296) + (c + z + x * y) % 4294967296 := by omega
    generalize (c + z + x * y) / 4294967296 = q at *
    generalize (c + z + x * y) % 4294967296 = r at *
    rw [show i + (j + 1) = (i + j) + 1 by omega, Nat.pow_succ]
    have eB : 4294967296 ^ i * 4294967296 ^ j = 4294967296 ^ (i + j) := (Nat.pow_add _ _ _).symm
    have e3 : 4294967296 ^ i * (x * (lv (ly.take j) + 4294967296 ^ j * y)) = 4294967296 ^ i * (x * lv (ly.take j)) + 4294967296 ^ (i + j) * (x * y) := by
      rw [Nat.mul_add, Nat.mul_add, ← eB]
      congr 1
      rw [Nat.mul_assoc]; congr 1
      rw [Nat.mul_left_comm]
    rw [e3]
    generalize 4294967296 ^ (i + j) = B at *
    have e2 : B * (c + z + x * y) = B * (4294967296 * q + r) := by rw [e]
    simp only [Nat.mul_add, ← Nat.mul_assoc] at e2 ⊢ hs hv
    omega
theorem RTimesR.start {lx ly z0 : List Nat} {i : Nat} (h : RTimesR lx ly z0 i) : RTimesI lx ly z0 z0 i 0 0 :=
  ⟨Nat.zero_le _, fun _ => rfl, h.len, h.lim, fun k hk => h.zero k (by omega), fun _ => h.zero _ (Nat.le_refl _), by omega, by simp [lv]⟩
theorem RTimesI.finish {lx ly z0 zz : List Nat} {i j : Nat} (h0 : RTimesR lx ly z0 i) (h : RTimesI lx ly z0 zz i j 0) (hj : ly.length ≤ j) (hi : i < lx.length) : RTimesR lx ly zz (i + 1) := by
  refine ⟨hi, h.len, h.lim, fun k hk => h.zero k (by omega), ?_⟩
  have hv := h.val
  rw [Nat.mul_zero, Nat.add_zero, List.take_of_length_le hj, h0.val] at hv
  rw [hv, lv_take_succ hi, Nat.add_mul, Nat.mul_assoc]
attribute [local irreducible] Tor.J Tor.PJ Tor.StepO Tor.one Tor.slT Tor.ptrT Tor.aggT Tor.tupT Tor.exT Tor.andT Tor.gT Tor.eP Tor.boxO Tor.sliO Tor.slV Tor.VT.le Tor.Ret Tor.anyT
attribute [local irreducible] bigT
set_option maxHeartbeats 4000000 in
theorem rMul_ok (n1 n2 : Bool) (v1 v2 : Nat) (h1 : (digs v1).length ≤ 1099511627776) (h2 : (digs v2).length ≤ 1099511627776) : Ok Try.prog 16 [sgT n1 v1, sgT n2 v2] (bigT (sv n1 v1 * sv n2 v2)) := by
  unfold sgT
  refine Ok.enter Try.func16 rfl Try.ntmps16 rfl (fun w O => ?_)
  have hx := limbs_digs v1
  have hy := limbs_digs v2
  have hva := lv_digs v1
  have hvb := lv_digs v2
  generalize digs v1 = lx at *
  generalize digs v2 = ly at *
  refine J_seq ?_
  refine J_reg ?_
  refine a_boxS rfl rfl (ltN rfl) (fun b => ?_)
  refine a_boxS rfl rfl (ltN rfl) (fun b => ?_)
  refine a_alloc (T := 34) rfl (ltN rfl) (fun b => ?_)
  refine Run.nil ?_
  refine pj_then ?_
  refine J_seq ?_
  refine J_reg ?_
  refine st (s_fieldAddr rfl) rfl ?_
  refine st (s_loadB 2 rfl rfl rfl) rfl ?_
  refine st (s_len rfl) rfl ?_
  refine st (s_fieldAddr rfl) rfl ?_
  refine st (s_loadB 1 rfl rfl rfl) rfl ?_
  refine st (s_len rfl) rfl ?_
  (refine st (s_add rfl rfl (wrap_i64 ?_ ?_)) rfl ?_; omega; omega)
  (refine st (s_add rfl rfl (wrap_i64 ?_ ?_)) rfl ?_; omega; omega)
  rename_i ba bb
  refine a_makeSlice (lx.length + ly.length + 1) (lx.length + ly.length + 1) rfl rfl (by simp) (by simp) (Nat.le_refl _) rfl rfl (by omega) rfl rfl (fun bz => ?_)
  refine st (s_assign rfl) rfl ?_
  refine Run.nil ?_
  refine pj_then ?_
  refine J_seq ?_
  refine J_seq ?_
  refine J_reg ?_
  refine st (s_assign rfl) rfl ?_
  refine Run.nil ?_
  refine pj_then ?_
  refine J_block ?_
  refine J_loop (σ := List Nat × Nat) (fun s => [(2, one (.pointer (some ⟨ba, 0, none⟩))), (3, one (.pointer (some ⟨bb, 0, none⟩))), (4, one (.pointer (some ⟨b, 0, none⟩))), (5, one (slV (some bz) (lx.length + ly.length + 1) (lx.length + ly.length + 1))), (6, one (.int .i64 (s.2 : Nat)))])
      (fun s => [sliO (some bz) 84 .one (lx.length + ly.length + 1) (lx.length + ly.length + 1) (fun q => one (.int .u32 (s.1.getD q 0 : Nat))), boxO b 34 2 [(0, .agg 2, one (.agg #[.bool false, .slice none 0 0]))], boxO bb 34 2 [(0, .one, one (.bool n2)), (1, .one, limT ly)], boxO ba 34 2 [(0, .one, one (.bool n1)), (1, .one, limT lx)]])
      (fun s => RTimesR lx ly s.1 s.2) (fun s => lx.length - s.2) (List.replicate (lx.length + ly.length + 1) 0, 0)
      ⟨Nat.zero_le _, by simp, Limbs.replicate _, fun k _ => getD_replicate0 _ _, by simp [lv_replicate, lv]⟩ (by repeat (first | exact SubG.nil | refine SubG.cons rfl (VT.le_refl _) ?_ | (refine SubG.cons rfl (one_le ?_) ?_; (congr 1; first | omega | (simp; omega) | simp)))) (.keep (sliO_eq (fun q _ => by rw [getD_replicate0]; rfl)) (SubM.refl _)) (fun s hR => ?_)
  obtain ⟨z0, i⟩ := s
  simp only at hR ⊢
  refine J_seq ?_
  refine J_seq ?_
  refine J_reg ?_
  refine st (s_move rfl) rfl ?_
  refine st (s_fieldAddr rfl) rfl ?_
  refine st (s_loadB 3 rfl rfl rfl) rfl ?_
  refine st (s_len rfl) rfl ?_
  refine st (s_lt rfl rfl) rfl ?_
  refine Run.nil ?_
  refine pj_then ?_
  refine J_cond rfl (fun hc => ?_) (fun hc => ?_) <;> simp at hc
  · have g1 := getD_lt hx i
    refine J_skip ?_
    refine pj_then ?_
    refine J_seq ?_
    refine J_block ?_
    refine J_seq ?_
    refine J_reg ?_
    refine st (s_assign rfl) rfl ?_
    refine Run.nil ?_
    refine pj_then ?_
    refine J_seq ?_
    refine J_reg ?_
    refine st (s_assign rfl) rfl ?_
    refine Run.nil ?_
    refine pj_then ?_
    refine J_block ?_
    refine J_loop (σ := List Nat × Nat × Nat) (fun s => [(2, one (.pointer (some ⟨ba, 0, none⟩))), (3, one (.pointer (some ⟨bb, 0, none⟩))), (4, one (.pointer (some ⟨b, 0, none⟩))), (5, one (slV (some bz) (lx.length + ly.length + 1) (lx.length + ly.length + 1))), (6, one (.int .i64 (i : Nat))), (7, one (.int .u64 (s.2.2 : Nat))), (8, one (.int .i64 (s.2.1 : Nat)))])
      (fun s => [sliO (some bz) 84 .one (lx.length + ly.length + 1) (lx.length + ly.length + 1) (fun q => one (.int .u32 (s.1.getD q 0 : Nat))), boxO b 34 2 [(0, .agg 2, one (.agg #[.bool false, .slice none 0 0]))], boxO bb 34 2 [(0, .one, one (.bool n2)), (1, .one, limT ly)], boxO ba 34 2 [(0, .one, one (.bool n1)), (1, .one, limT lx)]])
      (fun s => RTimesI lx ly z0 s.1 i s.2.1 s.2.2) (fun s => ly.length + 1 - s.2.1) (z0, 0, 0)
      hR.start (by repeat (first | exact SubG.nil | refine SubG.cons rfl (VT.le_refl _) ?_ | (refine SubG.cons rfl (one_le ?_) ?_; (congr 1; first | omega | (simp; omega) | simp)))) (SubM.refl _) (fun s hI => ?_)
    obtain ⟨zz, j, c⟩ := s
    simp only at hI ⊢
    have g0 := hI.c1
    have gj := hI.le
    refine J_seq (J_seq ?_)
    refine J_join (σ := Unit) (fun _ => [(2, one (.pointer (some ⟨ba, 0, none⟩))), (3, one (.pointer (some ⟨bb, 0, none⟩))), (4, one (.pointer (some ⟨b, 0, none⟩))), (5, one (slV (some bz) (lx.length + ly.length + 1) (lx.length + ly.length + 1))), (6, one (.int .i64 (i : Nat))), (7, one (.int .u64 (c : Nat))), (8, one (.int .i64 (j : Nat))), (33, one (.bool (decide (j < ly.length ∨ 0 < c))))])
      (fun _ => [sliO (some bz) 84 .one (lx.length + ly.length + 1) (lx.length + ly.length + 1) (fun q => one (.int .u32 (zz.getD q 0 : Nat))), boxO b 34 2 [(0, .agg 2, one (.agg #[.bool false, .slice none 0 0]))], boxO bb 34 2 [(0, .one, one (.bool n2)), (1, .one, limT ly)], boxO ba 34 2 [(0, .one, one (.bool n1)), (1, .one, limT lx)]]) (fun _ => True) ?_ (fun _ _ => ?_)
    · refine J_reg ?_
      refine st (s_move rfl) rfl ?_
      refine st (s_fieldAddr rfl) rfl ?_
      refine st (s_loadB 2 rfl rfl rfl) rfl ?_
      refine st (s_len rfl) rfl ?_
      refine st (s_lt rfl rfl) rfl ?_
      refine st (s_move rfl) rfl ?_
      refine bsel (t := 29) rfl (fun bo hb => ?_)
      rw [hb]
      cases bo
      · simp at hb
        refine sg1 rfl rfl (s_move rfl) rfl ?_
        refine sg1 rfl rfl (s_gt rfl rfl) rfl ?_
        refine st (s_pickF rfl rfl) rfl ?_
        refine Run.nil ?_
        exact pj_cut () trivial (.cons rfl (VT.le_refl _) (.cons rfl (VT.le_refl _) (.cons rfl (VT.le_refl _) (.cons rfl (VT.le_refl _) (.cons rfl (VT.le_refl _) (.cons rfl (VT.le_refl _) (.cons rfl (VT.le_refl _) (.cons rfl (one_le (by congr 1; rw [decide_eq_decide]; omega)) .nil)))))))) (SubM.refl _)
      · simp at hb
        refine sg0 rfl rfl rfl rfl ?_
        refine sg0 rfl rfl rfl rfl ?_
        refine st (s_pickT rfl rfl) rfl ?_
        refine Run.nil ?_
        exact pj_cut () trivial (.cons rfl (VT.le_refl _) (.cons rfl (VT.le_refl _) (.cons rfl (VT.le_refl _) (.cons rfl (VT.le_refl _) (.cons rfl (VT.le_refl _) (.cons rfl (VT.le_refl _) (.cons rfl (VT.le_refl _) (.cons rfl (one_le (by simp; omega)) .nil)))))))) (SubM.refl _)
    · refine pj_then ?_
      refine J_cond rfl (fun hc2 => ?_) (fun hc2 => ?_) <;> simp only [decide_eq_true_eq, decide_eq_false_iff_not] at hc2
      · have hstep := hI.step hx hy hc hc2
        have hjl : j ≤ ly.length := by have := hI.top; omega
        have g2 := getD_lt hy j
        have g3 := getD_lt hI.lim (i + j)
        have g4 := mul_lim g1 g2 g3 g0
        have hlt : i + j < zz.length := by rw [hI.len]; omega
        refine J_skip ?_
        refine pj_then ?_
        refine J_seq ?_
        refine J_block ?_
        refine J_seq ?_
        refine J_reg ?_
        refine st (s_move rfl) rfl ?_
        refine st (s_move rfl) rfl ?_
        refine st (s_move rfl) rfl ?_
        refine st (s_move rfl) rfl ?_
        (refine st (s_add rfl rfl (wrap_i64 ?_ ?_)) rfl ?_; omega; omega)
        (refine st (s_indexON rfl rfl ?_) rfl ?_; omega)
        (refine st (s_loadE 0 rfl rfl ?_) rfl ?_; omega)
        (refine st (s_toU64 rfl ?_) rfl ?_; omega)
        (refine st (s_addU rfl rfl ?_) rfl ?_; omega)
        refine st (s_assign rfl) rfl ?_
        refine Run.nil ?_
        refine pj_then ?_
        refine J_seq ?_
        refine J_seq ?_
        refine J_reg ?_
        refine st (s_move rfl) rfl ?_
        refine st (s_fieldAddr rfl) rfl ?_
        refine st (s_loadB 2 rfl rfl rfl) rfl ?_
        refine st (s_len rfl) rfl ?_
        refine st (s_lt rfl rfl) rfl ?_
        refine Run.nil ?_
        refine pj_then ?_
        refine J_join (σ := Unit) (fun _ => [(2, one (.pointer (some ⟨ba, 0, none⟩))), (3, one (.pointer (some ⟨bb, 0, none⟩))), (4, one (.pointer (some ⟨b, 0, none⟩))), (5, one (slV (some bz) (lx.length + ly.length + 1) (lx.length + ly.length + 1))), (6, one (.int .i64 (i : Nat))), (7, one (.int .u64 (c + zz.getD (i + j) 0 + lx.getD i 0 * ly.getD j 0 : Nat))), (8, one (.int .i64 (j : Nat)))])
          (fun _ => [sliO (some bz) 84 .one (lx.length + ly.length + 1) (lx.length + ly.length + 1) (fun q => one (.int .u32 (zz.getD q 0 : Nat))), boxO b 34 2 [(0, .agg 2, one (.agg #[.bool false, .slice none 0 0]))], boxO bb 34 2 [(0, .one, one (.bool n2)), (1, .one, limT ly)], boxO ba 34 2 [(0, .one, one (.bool n1)), (1, .one, limT lx)]]) (fun _ => True) ?_ (fun _ _ => ?_)
        · refine J_cond rfl (fun hc3 => ?_) (fun hc3 => ?_) <;> simp only [decide_eq_true_eq, decide_eq_false_iff_not] at hc3
          · skip
            refine J_regd 16 mixed (by kernel_rfl) (by decide) ?_
            refine st (s_move rfl) rfl ?_
            refine st (s_fieldAddr rfl) rfl ?_
            refine st (s_loadB 3 rfl rfl rfl) rfl ?_
            refine st (s_move rfl) rfl ?_
            (refine st (s_indexIN rfl rfl ?_) rfl ?_; omega)
            refine st (s_load rfl) rfl ?_
            (refine st (s_toU64 rfl ?_) rfl ?_; omega)
            refine st (s_fieldAddr rfl) rfl ?_
            refine st (s_loadB 2 rfl rfl rfl) rfl ?_
            refine st (s_move rfl) rfl ?_
            (refine st (s_indexIN rfl rfl ?_) rfl ?_; omega)
            refine st (s_load rfl) rfl ?_
            (refine st (s_toU64 rfl ?_) rfl ?_; omega)
            (refine st (s_mulU rfl rfl ?_) rfl ?_; omega)
            (refine st (s_addU rfl rfl ?_) rfl ?_; omega)
            refine st (s_assign rfl) rfl ?_
            refine Run.nil ?_
            refine Run.nil ?_
            exact pj_cut () trivial (by repeat (first | exact SubG.nil | refine SubG.cons rfl (VT.le_refl _) ?_ | (refine SubG.cons rfl (one_le ?_) ?_; (congr 1; first | omega | (simp; omega) | simp)))) (SubM.refl _)
          · have e0 : ly.getD j 0 = 0 := by simp [List.getElem?_eq_none (show ly.length ≤ j by omega)]
            refine J_skip ?_
            refine pj_cut () trivial ?_ (SubM.refl _)
            rw [e0, Nat.mul_zero, Nat.add_zero]
            exact (by repeat (first | exact SubG.nil | refine SubG.cons rfl (VT.le_refl _) ?_ | (refine SubG.cons rfl (one_le ?_) ?_; (congr 1; first | omega | (simp; omega) | simp))))
        · refine pj_then ?_
          refine J_seq ?_
          refine J_reg ?_
          refine st (s_move rfl) rfl ?_
          refine st (s_move rfl) rfl ?_
          refine st (s_move rfl) rfl ?_
          (refine st (s_add rfl rfl (wrap_i64 ?_ ?_)) rfl ?_; omega; omega)
          refine st (s_move rfl) rfl ?_
          refine st (s_toU32 rfl) rfl ?_
          (refine st (s_indexON rfl rfl ?_) rfl ?_; omega)
          (refine a_storeE 0 rfl rfl rfl ?_ rfl ?_; omega)
          refine Run.nil ?_
          refine pj_then ?_
          refine J_reg ?_
          refine st (s_move rfl) rfl ?_
          (refine st (s_quo32 rfl ?_) rfl ?_; omega)
          refine st (s_assign rfl) rfl ?_
          refine Run.nil ?_
          refine pn_block ?_
          refine pj_then ?_
          refine J_reg ?_
          refine st (s_move rfl) rfl ?_
          (refine st (s_add rfl rfl (wrap_i64 ?_ ?_)) rfl ?_; omega; omega)
          refine st (s_assign rfl) rfl ?_
          refine Run.nil ?_
          refine pj_round (s := (zz, j, c)) (zz.set (i + j) ((c + zz.getD (i + j) 0 + lx.getD i 0 * ly.getD j 0) % 4294967296), j + 1, (c + zz.getD (i + j) 0 + lx.getD i 0 * ly.getD j 0) / 4294967296) hstep (by show ly.length + 1 - (j + 1) < ly.length + 1 - j; omega) (by repeat (first | exact SubG.nil | refine SubG.cons rfl (VT.le_refl _) ?_ | (refine SubG.cons rfl (one_le ?_) ?_; (congr 1; first | omega | (simp; omega) | simp)))) (.keep (sliO_eq (fun q hq => ?_)) (SubM.refl _))
          unfold upd; rw [getD_setL hlt]; split <;> rfl
      · have hc0 : c = 0 := by omega
        subst hc0
        have hfin := hI.finish hR (by omega) hc
        refine J_exit ?_
        refine px_then ?_
        refine px_then ?_
        refine px_block ?_
        refine pn_block ?_
        refine pj_then ?_
        refine J_reg ?_
        refine st (s_move rfl) rfl ?_
        (refine st (s_add rfl rfl (wrap_i64 ?_ ?_)) rfl ?_; omega; omega)
        refine st (s_assign rfl) rfl ?_
        refine Run.nil ?_
        exact pj_round (s := (z0, i)) (zz, i + 1) hfin (by show lx.length - (i + 1) < lx.length - i; omega) (by repeat (first | exact SubG.nil | refine SubG.cons rfl (VT.le_refl _) ?_ | (refine SubG.cons rfl (one_le ?_) ?_; (congr 1; first | omega | (simp; omega) | simp)))) (SubM.refl _)
  · have hi : i = lx.length := by have := hR.le; omega
    refine J_exit ?_
    refine px_then ?_
    refine px_then ?_
    refine px_block ?_
    refine pj_then ?_
    refine J_seq ?_
    refine J_reg ?_
    refine st (s_move rfl) rfl ?_
    refine st (s_fieldAddr rfl) rfl ?_
    refine st (s_loadB 3 rfl rfl rfl) rfl ?_
    refine st (s_fieldAddr rfl) rfl ?_
    refine st (s_loadB 2 rfl rfl rfl) rfl ?_
    refine st (s_neB rfl rfl) rfl ?_
    refine Run_freeze (t := 74) (j := 0) rfl rfl ?_
    skip
    refine st (s_callk (rMade_ok _ (v1 * v2)) rfl ⟨VT.le_trans (slT_le' (m := z0.length) (ψ := fun i => one (.int .u32 (z0.getD i 0 : Nat))) hR.len.symm (fun q hq => rfl)) (natS_of (l := z0) hR.lim ?_ ?_), VT.le_refl _, trivial⟩) rfl ?_
    · rw [hR.val, hi, List.take_length, hva, hvb]
    · rw [hR.len]; omega
    refine a_storeB 0 rfl rfl rfl rfl rfl (leN rfl) rfl ?_
    refine Run.nil ?_
    refine pj_then ?_
    refine J_ret ?_
    exact retc1 Try.results16 (.cellB 0 rfl rfl rfl (bigT_eq (by cases n1 <;> cases n2 <;> simp [sv, Int.neg_mul, Int.mul_neg])))
end Tor
end

section
set_option linter.unusedVariables false
set_option linter.unusedSimpArgs false
namespace Tor
open Go Go.RowKit Go.Proofs
def rawT (neg : Bool) (l : List Nat) : VT := aggT 2 [(0, .one, one (.bool neg)), (1, .one, limT l)]
def validI (neg : Bool) (l : List Nat) : Bool := if l.length = 0 then !neg else decide (l.getD (l.length - 1) 0 ≠ 0)
theorem bigT_raw (x : Int) : VT.le (bigT x) (rawT (decide (x < 0)) (digs x.natAbs)) := VT.le_refl _
attribute [local irreducible] Tor.J Tor.PJ Tor.StepO Tor.one Tor.slT Tor.ptrT Tor.aggT Tor.tupT Tor.exT Tor.andT Tor.gT Tor.eP Tor.boxO Tor.sliO Tor.slV Tor.VT.le Tor.Ret Tor.anyT
theorem rValid_ok (neg : Bool) (l : List Nat) (hl : l.length ≤ 4398046511104) : Ok Try.prog 12 [rawT neg l] (one (.bool (validI neg l))) := by
  unfold rawT
  refine Ok.enter Try.func12 rfl Try.ntmps12 rfl (fun w O => ?_)
  by_cases h0 : l.length = 0
  · refine J_seq ?_
    refine J_reg ?_
    refine a_boxS rfl rfl (ltN rfl) (fun b => ?_)
    refine st (s_assign rfl) rfl ?_
    refine Run.nil ?_
    refine pj_then ?_
    refine J_seq ?_
    refine J_seq ?_
    refine J_reg ?_
    refine st (s_fieldAddr rfl) rfl ?_
    refine st (s_loadB 0 rfl rfl rfl) rfl ?_
    refine st (s_len rfl) rfl ?_
    refine st (s_eq rfl rfl) rfl ?_
    refine Run.nil ?_
    refine pj_then ?_
    refine J_cond rfl (fun hc => ?_) (fun hc => ?_) <;> simp only [decide_eq_true_eq, decide_eq_false_iff_not] at hc
    · refine J_seq ?_
      refine J_reg ?_
      refine st (s_fieldAddr rfl) rfl ?_
      refine st (s_loadB 0 rfl rfl rfl) rfl ?_
      refine st (s_not rfl) rfl ?_
      refine st (s_assign rfl) rfl ?_
      refine Run.nil ?_
      refine pj_then ?_
      refine J_ret ?_
      refine pr_then ?_
      exact retc1 Try.results12 (.tmp rfl (one_le (by unfold validI; rw [if_pos h0])))
    · omega
  · refine J_seq ?_
    refine J_reg ?_
    refine a_boxS rfl rfl (ltN rfl) (fun b => ?_)
    refine st (s_assign rfl) rfl ?_
    refine Run.nil ?_
    refine pj_then ?_
    refine J_seq ?_
    refine J_seq ?_
    refine J_reg ?_
    refine st (s_fieldAddr rfl) rfl ?_
    refine st (s_loadB 0 rfl rfl rfl) rfl ?_
    refine st (s_len rfl) rfl ?_
    refine st (s_eq rfl rfl) rfl ?_
    refine Run.nil ?_
    refine pj_then ?_
    refine J_cond rfl (fun hc => ?_) (fun hc => ?_) <;> simp only [decide_eq_true_eq, decide_eq_false_iff_not] at hc
    · omega
    · refine J_skip ?_
      refine pj_then ?_
      refine J_seq ?_
      refine J_reg ?_
      refine st (s_fieldAddr rfl) rfl ?_
      refine st (s_loadB 0 rfl rfl rfl) rfl ?_
      refine st (s_fieldAddr rfl) rfl ?_
      refine st (s_loadB 0 rfl rfl rfl) rfl ?_
      refine st (s_len rfl) rfl ?_
      (refine st (s_sub rfl rfl (wrap_i64 ?_ ?_)) rfl ?_; omega; omega)
      (refine st (s_indexI rfl rfl ?_ ?_) rfl ?_; omega; omega)
      refine st (s_load rfl) rfl ?_
      refine st (s_ne rfl rfl) rfl ?_
      refine st (s_assign rfl) rfl ?_
      refine Run.nil ?_
      refine pj_then ?_
      refine J_ret ?_
      refine retc1 Try.results12 (.tmp rfl (one_le ?_))
      have e : (↑l.length - 1 : Int).toNat = l.length - 1 := by omega
      unfold validI; rw [if_neg h0, e]; congr 1; rw [decide_eq_decide]; omega
end Tor
end

section
set_option linter.unusedVariables false
set_option linter.unusedSimpArgs false
namespace Tor
open Go Go.RowKit Go.Proofs
def vecT (v : List Int) : VT := slT (.agg 2) v.length (fun i => bigT (v.getD i 0))
theorem take_succ_eq {u v : List Int} {i : Nat} (h : u.take i = v.take i) (hl : u.length = v.length) (hi : i < u.length) (he : u.getD i 0 = v.getD i 0) : u.take (i + 1) = v.take (i + 1) := by
  rw [List.take_add_one, List.take_add_one, h, List.getElem?_eq_getElem hi, List.getElem?_eq_getElem (hl ▸ hi)]
  simp only [List.getD, List.getElem?_eq_getElem hi, List.getElem?_eq_getElem (hl ▸ hi), Option.getD_some] at he
  rw [he]
attribute [local irreducible] Tor.J Tor.PJ Tor.StepO Tor.one Tor.slT Tor.ptrT Tor.aggT Tor.tupT Tor.exT Tor.andT Tor.gT Tor.eP Tor.boxO Tor.sliO Tor.slV Tor.VT.le Tor.Ret Tor.anyT
attribute [local irreducible] bigT
set_option maxHeartbeats 1000000 in
theorem rSameVec_ok (u v : List Int) : Ok Try.prog 48 [vecT u, vecT v] (one (.bool (decide (u = v)))) := by
  unfold vecT
  refine Ok.enter Try.func48 rfl Try.ntmps48 rfl (fun w O => ?_)
  refine J_fact (t := 0) rfl (fun _ _ => slT_bound) (fun hb => ?_)
  refine J_seq ?_
  refine J_reg ?_
  refine st (s_assign rfl) rfl ?_
  refine Run.nil ?_
  refine pj_then ?_
  refine J_seq ?_
  refine J_seq ?_
  refine J_reg ?_
  refine st (s_move rfl) rfl ?_
  refine st (s_len rfl) rfl ?_
  refine st (s_move rfl) rfl ?_
  refine st (s_len rfl) rfl ?_
  refine st (s_ne rfl rfl) rfl ?_
  refine Run.nil ?_
  refine pj_then ?_
  refine J_cond rfl (fun hc => ?_) (fun hc => ?_) <;> simp only [decide_eq_true_eq, decide_eq_false_iff_not, ne_eq, Decidable.not_not] at hc
  · refine J_seq ?_
    refine J_reg ?_
    refine st (s_assign rfl) rfl ?_
    refine Run.nil ?_
    refine pj_then ?_
    refine J_ret ?_
    refine pr_then ?_
    refine retc1 Try.results48 (.tmp rfl (one_le ?_))
    have : ¬ (u = v) := by intro e; subst e; exact hc rfl
    simp [this]
  · have hlen : u.length = v.length := by omega
    refine J_skip ?_
    refine pj_then ?_
    refine J_seq ?_
    refine J_seq ?_
    refine J_reg ?_
    refine st (s_assign rfl) rfl ?_
    refine Run.nil ?_
    refine pj_then ?_
    refine J_block ?_
    refine J_loop (σ := Nat) (fun i => [(0, vecT u), (1, vecT v), (5, one (.int .i64 (i : Nat)))]) (fun _ => []) (fun i => i ≤ u.length ∧ u.take i = v.take i) (fun i => u.length - i) 0 ⟨Nat.zero_le _, rfl⟩ (by repeat (first | exact SubG.nil | refine SubG.cons rfl (VT.le_refl _) ?_ | (refine SubG.cons rfl (one_le ?_) ?_; (congr 1; first | omega | (simp; omega) | simp)))) (SubM.refl _) (fun i ⟨hi, ht⟩ => ?_)
    unfold vecT
    refine J_seq ?_
    refine J_seq ?_
    refine J_reg ?_
    refine st (s_move rfl) rfl ?_
    refine st (s_move rfl) rfl ?_
    refine st (s_len rfl) rfl ?_
    refine st (s_lt rfl rfl) rfl ?_
    refine Run.nil ?_
    refine pj_then ?_
    refine J_cond rfl (fun hc => ?_) (fun hc => ?_) <;> simp at hc
    · refine J_skip ?_
      refine pj_then ?_
      refine J_seq ?_
      refine J_block ?_
      refine J_seq ?_
      refine J_regd 10 mixed (by kernel_rfl) (by decide) ?_
      refine st (s_move rfl) rfl ?_
      refine st (s_move rfl) rfl ?_
      (refine st (s_indexIN rfl rfl ?_) rfl ?_; omega)
      refine st (s_load rfl) rfl ?_
      refine st (s_move rfl) rfl ?_
      refine st (s_move rfl) rfl ?_
      (refine st (s_indexIN rfl rfl ?_) rfl ?_; omega)
      refine st (s_load rfl) rfl ?_
      refine st (s_callk (rSame_ok _ _) rfl ⟨VT.le_refl _, VT.le_refl _, trivial⟩) rfl ?_
      refine st (s_not rfl) rfl ?_
      refine Run.nil ?_
      refine Run.nil ?_
      refine pj_then ?_
      refine J_cond rfl (fun hc2 => ?_) (fun hc2 => ?_)
      · simp at hc2
        refine J_seq ?_
        refine J_reg ?_
        refine st (s_assign rfl) rfl ?_
        refine Run.nil ?_
        refine pj_then ?_
        refine J_ret ?_
        refine pr_block ?_
        refine pr_then ?_
        refine pr_then ?_
        refine pr_block ?_
        refine pr_then ?_
        refine retc1 Try.results48 (.tmp rfl (one_le ?_))
        have : ¬ (u = v) := by intro e; subst e; exact hc2 rfl
        simp [this]
      · have he : u.getD i 0 = v.getD i 0 := by simpa using hc2
        refine J_skip ?_
        refine pn_block ?_
        refine pj_then ?_
        refine J_reg ?_
        refine st (s_move rfl) rfl ?_
        (refine st (s_add rfl rfl (wrap_i64 ?_ ?_)) rfl ?_; omega; omega)
        refine st (s_assign rfl) rfl ?_
        refine Run.nil ?_
        exact pj_round (s := i) (i + 1) ⟨by omega, take_succ_eq ht hlen (by omega) he⟩ (by show u.length - (i + 1) < u.length - i; omega) (by repeat (first | exact SubG.nil | refine SubG.cons rfl (VT.le_refl _) ?_ | (refine SubG.cons rfl (one_le ?_) ?_; (congr 1; first | omega | (simp; omega) | simp)))) (SubM.refl _)
    · refine J_exit ?_
      refine px_then ?_
      refine px_then ?_
      refine px_block ?_
      refine pj_then ?_
      refine J_seq ?_
      refine J_reg ?_
      refine st (s_assign rfl) rfl ?_
      refine Run.nil ?_
      refine pj_then ?_
      refine J_ret ?_
      refine retc1 Try.results48 (.tmp rfl (one_le ?_))
      rw [List.take_of_length_le (by omega), List.take_of_length_le (by omega)] at ht
      simp [ht]
end Tor
end

section
set_option linter.unusedVariables false
set_option linter.unusedSimpArgs false
namespace Tor
open Go Go.RowKit Go.Proofs
def rowsT (a : List (List Int)) : VT := slT .one a.length (fun i => vecT (a.getD i []))
def matT (r c : Int) (a : List (List Int)) : VT := aggT 3 [(0, .one, one (.int .i64 r)), (1, .one, one (.int .i64 c)), (2, .one, rowsT a)]
theorem take_succ_eqV {u v : List (List Int)} {i : Nat} (h : u.take i = v.take i) (hl : u.length = v.length) (hi : i < u.length) (he : u.getD i [] = v.getD i []) : u.take (i + 1) = v.take (i + 1) := by
  rw [List.take_add_one, List.take_add_one, h, List.getElem?_eq_getElem hi, List.getElem?_eq_getElem (hl ▸ hi)]
  simp only [List.getD, List.getElem?_eq_getElem hi, List.getElem?_eq_getElem (hl ▸ hi), Option.getD_some] at he
  rw [he]
attribute [local irreducible] Tor.J Tor.PJ Tor.StepO Tor.one Tor.slT Tor.ptrT Tor.aggT Tor.tupT Tor.exT Tor.andT Tor.gT Tor.eP Tor.boxO Tor.sliO Tor.slV Tor.VT.le Tor.Ret Tor.anyT
attribute [local irreducible] bigT vecT
set_option maxHeartbeats 2000000 in
theorem rSameMat_ok (r c r' c' : Int) (u v : List (List Int)) (hu : u.length ≤ 281474976710656) : Ok Try.prog 22 [matT r c u, matT r' c' v] (one (.bool (decide (r = r' ∧ c = c' ∧ u = v)))) := by
  unfold matT rowsT
  refine Ok.enter Try.func22 rfl Try.ntmps22 rfl (fun w O => ?_)
  refine J_seq ?_
  refine J_reg ?_
  refine a_boxS rfl rfl (ltN rfl) (fun b => ?_)
  refine a_boxS rfl rfl (ltN rfl) (fun b => ?_)
  refine st (s_assign rfl) rfl ?_
  refine Run.nil ?_
  refine pj_then ?_
  refine J_seq ?_
  refine J_seq ?_
  refine J_reg ?_
  refine st (s_fieldAddr rfl) rfl ?_
  refine st (s_loadB 1 rfl rfl rfl) rfl ?_
  refine st (s_fieldAddr rfl) rfl ?_
  refine st (s_loadB 0 rfl rfl rfl) rfl ?_
  refine st (s_ne rfl rfl) rfl ?_
  refine st (s_move rfl) rfl ?_
  rename_i ba
  refine bsel (t := 10) rfl (fun bo hb => ?_)
  rw [hb]
  cases bo
  · have e1 : r = r' := by simpa using hb
    refine sg1 rfl rfl (s_fieldAddr rfl) rfl ?_
    refine sg1 rfl rfl (s_loadB 1 rfl rfl rfl) rfl ?_
    refine sg1 rfl rfl (s_fieldAddr rfl) rfl ?_
    refine sg1 rfl rfl (s_loadB 0 rfl rfl rfl) rfl ?_
    refine sg1 rfl rfl (s_ne rfl rfl) rfl ?_
    refine st (s_pickF rfl rfl) rfl ?_
    refine st (s_move rfl) rfl ?_
    refine bsel (t := 17) rfl (fun bo hb2 => ?_)
    rw [hb2]
    cases bo
    · have e2 : c = c' := by simpa using hb2
      subst e1 e2
      refine sg1 rfl rfl (s_fieldAddr rfl) rfl ?_
      refine sg1 rfl rfl (s_loadB 1 rfl rfl rfl) rfl ?_
      refine sg1 rfl rfl (s_len rfl) rfl ?_
      refine sg1 rfl rfl (s_fieldAddr rfl) rfl ?_
      refine sg1 rfl rfl (s_loadB 0 rfl rfl rfl) rfl ?_
      refine sg1 rfl rfl (s_len rfl) rfl ?_
      refine sg1 rfl rfl (s_ne rfl rfl) rfl ?_
      refine st (s_pickF rfl rfl) rfl ?_
      refine Run.nil ?_
      refine pj_then ?_
      refine J_cond rfl (fun hc => ?_) (fun hc => ?_) <;> simp only [decide_eq_true_eq, decide_eq_false_iff_not, ne_eq, Decidable.not_not] at hc
      · refine J_seq ?_
        refine J_reg ?_
        refine st (s_assign rfl) rfl ?_
        refine Run.nil ?_
        refine pj_then ?_
        refine J_ret ?_
        refine pr_then ?_
        refine retc1 Try.results22 (.tmp rfl (one_le ?_))
        have : ¬ (u = v) := by intro e; subst e; exact hc rfl
        simp [this]
      · have hlen : u.length = v.length := by omega
        refine J_skip ?_
        refine pj_then ?_
        refine J_seq ?_
        refine J_seq ?_
        refine J_reg ?_
        refine st (s_assign rfl) rfl ?_
        refine Run.nil ?_
        refine pj_then ?_
        refine J_block ?_
        refine J_loop (σ := Nat) (fun i => [(2, one (.pointer (some ⟨ba, 0, none⟩))), (3, one (.pointer (some ⟨b, 0, none⟩))), (5, one (.int .i64 (i : Nat)))])
          (fun _ => [boxO b 29 3 [(0, .one, one (.int .i64 r)), (1, .one, one (.int .i64 c)), (2, .one, rowsT v)], boxO ba 29 3 [(0, .one, one (.int .i64 r)), (1, .one, one (.int .i64 c)), (2, .one, rowsT u)]])
          (fun i => i ≤ u.length ∧ u.take i = v.take i) (fun i => u.length - i) 0 ⟨Nat.zero_le _, rfl⟩ (by repeat (first | exact SubG.nil | refine SubG.cons rfl (VT.le_refl _) ?_ | (refine SubG.cons rfl (one_le ?_) ?_; (congr 1; first | omega | (simp; omega) | simp)))) (SubM.refl _) (fun i ⟨hi, ht⟩ => ?_)
        unfold rowsT
        refine J_seq ?_
        refine J_seq ?_
        refine J_reg ?_
        refine st (s_move rfl) rfl ?_
        refine st (s_fieldAddr rfl) rfl ?_
        refine st (s_loadB 1 rfl rfl rfl) rfl ?_
        refine st (s_len rfl) rfl ?_
        refine st (s_lt rfl rfl) rfl ?_
        refine Run.nil ?_
        refine pj_then ?_
        refine J_cond rfl (fun hc => ?_) (fun hc => ?_) <;> simp at hc
        · refine J_skip ?_
          refine pj_then ?_
          refine J_seq ?_
          refine J_block ?_
          refine J_seq ?_
          refine J_regd 12 mixed (by kernel_rfl) (by decide) ?_
          refine st (s_fieldAddr rfl) rfl ?_
          refine st (s_loadB 1 rfl rfl rfl) rfl ?_
          refine st (s_move rfl) rfl ?_
          (refine st (s_indexIN rfl rfl ?_) rfl ?_; omega)
          refine st (s_load rfl) rfl ?_
          refine st (s_fieldAddr rfl) rfl ?_
          refine st (s_loadB 0 rfl rfl rfl) rfl ?_
          refine st (s_move rfl) rfl ?_
          (refine st (s_indexIN rfl rfl ?_) rfl ?_; omega)
          refine st (s_load rfl) rfl ?_
          refine st (s_callk (rSameVec_ok _ _) rfl ⟨VT.le_refl _, VT.le_refl _, trivial⟩) rfl ?_
          refine st (s_not rfl) rfl ?_
          refine Run.nil ?_
          refine Run.nil ?_
          refine pj_then ?_
          refine J_cond rfl (fun hc2 => ?_) (fun hc2 => ?_)
          · simp at hc2
            refine J_seq ?_
            refine J_reg ?_
            refine st (s_assign rfl) rfl ?_
            refine Run.nil ?_
            refine pj_then ?_
            refine J_ret ?_
            refine pr_block ?_
            refine pr_then ?_
            refine pr_then ?_
            refine pr_block ?_
            refine pr_then ?_
            refine retc1 Try.results22 (.tmp rfl (one_le ?_))
            have : ¬ (u = v) := by intro e; subst e; exact hc2 rfl
            simp [this]
          · have he : u.getD i [] = v.getD i [] := by simpa using hc2
            refine J_skip ?_
            refine pn_block ?_
            refine pj_then ?_
            refine J_reg ?_
            refine st (s_move rfl) rfl ?_
            (refine st (s_add rfl rfl (wrap_i64 ?_ ?_)) rfl ?_; omega; omega)
            refine st (s_assign rfl) rfl ?_
            refine Run.nil ?_
            exact pj_round (s := i) (i + 1) ⟨by omega, take_succ_eqV ht hlen (by omega) he⟩ (by show u.length - (i + 1) < u.length - i; omega) (by repeat (first | exact SubG.nil | refine SubG.cons rfl (VT.le_refl _) ?_ | (refine SubG.cons rfl (one_le ?_) ?_; (congr 1; first | omega | (simp; omega) | simp)))) (SubM.refl _)
        · refine J_exit ?_
          refine px_then ?_
          refine px_then ?_
          refine px_block ?_
          refine pj_then ?_
          refine J_seq ?_
          refine J_reg ?_
          refine st (s_assign rfl) rfl ?_
          refine Run.nil ?_
          refine pj_then ?_
          refine J_ret ?_
          refine retc1 Try.results22 (.tmp rfl (one_le ?_))
          rw [List.take_of_length_le (by omega), List.take_of_length_le (by omega)] at ht
          simp [ht]
    · have e2 : ¬ c = c' := by simpa using hb2
      refine sg0 rfl rfl rfl rfl ?_
      refine sg0 rfl rfl rfl rfl ?_
      refine sg0 rfl rfl rfl rfl ?_
      refine sg0 rfl rfl rfl rfl ?_
      refine sg0 rfl rfl rfl rfl ?_
      refine sg0 rfl rfl rfl rfl ?_
      refine sg0 rfl rfl rfl rfl ?_
      refine st (s_pickT rfl rfl) rfl ?_
      refine Run.nil ?_
      refine pj_then ?_
      refine J_cond rfl (fun hc => ?_) (fun hc => ?_)
      · refine J_seq ?_
        refine J_reg ?_
        refine st (s_assign rfl) rfl ?_
        refine Run.nil ?_
        refine pj_then ?_
        refine J_ret ?_
        refine pr_then ?_
        refine retc1 Try.results22 (.tmp rfl (one_le ?_))
        simp [e2]
      · cases hc
  · have e1 : ¬ r = r' := by simpa using hb
    refine sg0 rfl rfl rfl rfl ?_
    refine sg0 rfl rfl rfl rfl ?_
    refine sg0 rfl rfl rfl rfl ?_
    refine sg0 rfl rfl rfl rfl ?_
    refine sg0 rfl rfl rfl rfl ?_
    refine st (s_pickT rfl rfl) rfl ?_
    refine st (s_move rfl) rfl ?_
    refine sg0 rfl rfl rfl rfl ?_
    refine sg0 rfl rfl rfl rfl ?_
    refine sg0 rfl rfl rfl rfl ?_
    refine sg0 rfl rfl rfl rfl ?_
    refine sg0 rfl rfl rfl rfl ?_
    refine sg0 rfl rfl rfl rfl ?_
    refine sg0 rfl rfl rfl rfl ?_
    refine st (s_pickT rfl rfl) rfl ?_
    refine Run.nil ?_
    refine pj_then ?_
    refine J_cond rfl (fun hc => ?_) (fun hc => ?_)
    · refine J_seq ?_
      refine J_reg ?_
      refine st (s_assign rfl) rfl ?_
      refine Run.nil ?_
      refine pj_then ?_
      refine J_ret ?_
      refine pr_then ?_
      refine retc1 Try.results22 (.tmp rfl (one_le ?_))
      simp [e1]
    · cases hc
end Tor
end

section
set_option linter.unusedVariables false
set_option linter.unusedSimpArgs false
namespace Tor
open Go Go.RowKit Go.Proofs
def rawVecT (v : List (Bool × List Nat)) : VT := slT (.agg 2) v.length (fun i => rawT (v.getD i (false, [])).1 (v.getD i (false, [])).2)
def rawOf (x : Int) : Bool × List Nat := (decide (x < 0), digs x.natAbs)
theorem vecT_raw (v : List Int) : VT.le (vecT v) (rawVecT (v.map rawOf)) := by
  unfold vecT rawVecT
  refine VT.le_trans (slT_le (ψ := fun i => rawT ((v.map rawOf).getD i (false, [])).1 ((v.map rawOf).getD i (false, [])).2) (fun i hi => ?_)) (by rw [List.length_map]; exact VT.le_refl _)
  simp only [List.getD, List.getElem?_map, List.getElem?_eq_getElem hi, Option.map_some, Option.getD_some]
  exact bigT_raw _
theorem trimmed_last : ∀ {l : List Nat}, Trimmed l → 0 < l.length → l.getD (l.length - 1) 0 ≠ 0
  | [], _, h => absurd h (by decide)
  | [d], h, _ => h
  | _ :: d :: l, h, _ => trimmed_last (l := d :: l) h (by simp)
theorem validI_big (x : Int) : validI (rawOf x).1 (rawOf x).2 = true := by
  unfold validI rawOf
  simp only
  split
  · rename_i h
    have e := List.eq_nil_of_length_eq_zero h
    have : x.natAbs = 0 := by rw [← lv_digs x.natAbs, e]; rfl
    have : ¬ x < 0 := by omega
    simp [this]
  · rename_i h
    have := trimmed_last (trimmed_digs x.natAbs) (by omega)
    simpa using this
theorem sgnI_zero (x : Int) : sgnI x = 0 ↔ x = 0 := by
  unfold sgnI
  constructor
  · intro h; split at h
    · assumption
    · split at h <;> omega
  · intro h; rw [if_pos h]
theorem takeAll {α : Type} {p : α → Bool} {v : List α} {d : α} {i : Nat} (h : (v.take i).all p = true) (hi : i < v.length) (he : p (v.getD i d) = true) : (v.take (i + 1)).all p = true := by
  rw [List.take_add_one, List.all_append, h, List.getElem?_eq_getElem hi]
  simp only [List.getD, List.getElem?_eq_getElem hi, Option.getD_some] at he
  simp [he]
theorem notAll {α : Type} {p : α → Bool} {v : List α} {d : α} {i : Nat} (hi : i < v.length) (he : p (v.getD i d) = false) : v.all p = false := by
  simp only [List.getD, List.getElem?_eq_getElem hi, Option.getD_some] at he
  rw [List.all_eq_false]; exact ⟨_, List.getElem_mem hi, by simp [he]⟩
attribute [local irreducible] Tor.J Tor.PJ Tor.StepO Tor.one Tor.slT Tor.ptrT Tor.aggT Tor.tupT Tor.exT Tor.andT Tor.gT Tor.eP Tor.boxO Tor.sliO Tor.slV Tor.VT.le Tor.Ret Tor.anyT
attribute [local irreducible] bigT rawT
set_option maxHeartbeats 1000000 in
theorem rValidVec_ok (v : List (Bool × List Nat)) (hv : ∀ p ∈ v, p.2.length ≤ 4398046511104) : Ok Try.prog 74 [rawVecT v] (one (.bool (v.all fun p => validI p.1 p.2))) := by
  unfold rawVecT
  refine Ok.enter Try.func74 rfl Try.ntmps74 rfl (fun w O => ?_)
  refine J_fact (t := 0) rfl (fun _ _ => slT_bound) (fun hb => ?_)
  refine J_seq ?_
  refine J_reg ?_
  refine st (s_assign rfl) rfl ?_
  refine Run.nil ?_
  refine pj_then ?_
  refine J_seq ?_
  refine J_seq ?_
  refine J_reg ?_
  refine st (s_assign rfl) rfl ?_
  refine Run.nil ?_
  refine pj_then ?_
  refine J_block ?_
  refine J_loop (σ := Nat) (fun i => [(0, rawVecT v), (3, one (.int .i64 (i : Nat)))]) (fun _ => []) (fun i => i ≤ v.length ∧ (v.take i).all (fun p => validI p.1 p.2) = true) (fun i => v.length - i) 0 ⟨Nat.zero_le _, rfl⟩ (by repeat (first | exact SubG.nil | refine SubG.cons rfl (VT.le_refl _) ?_ | (refine SubG.cons rfl (one_le ?_) ?_; (congr 1; first | omega | (simp; omega) | simp)))) (SubM.refl _) (fun i ⟨hi, ht⟩ => ?_)
  unfold rawVecT
  refine J_seq ?_
  refine J_seq ?_
  refine J_reg ?_
  refine st (s_move rfl) rfl ?_
  refine st (s_move rfl) rfl ?_
  refine st (s_len rfl) rfl ?_
  refine st (s_lt rfl rfl) rfl ?_
  refine Run.nil ?_
  refine pj_then ?_
  refine J_cond rfl (fun hc => ?_) (fun hc => ?_) <;> simp at hc
  · have hm : (v.getD i (false, [])).2.length ≤ 4398046511104 := by
      simp only [List.getD, List.getElem?_eq_getElem hc, Option.getD_some]
      exact hv _ (List.getElem_mem hc)
    refine J_skip ?_
    refine pj_then ?_
    refine J_seq ?_
    refine J_block ?_
    refine J_seq ?_
    refine J_reg ?_
    refine st (s_move rfl) rfl ?_
    refine st (s_move rfl) rfl ?_
    (refine st (s_indexIN rfl rfl ?_) rfl ?_; omega)
    refine st (s_load rfl) rfl ?_
    refine st (s_callk (rValid_ok _ _ hm) rfl ⟨VT.le_refl _, trivial⟩) rfl ?_
    refine st (s_not rfl) rfl ?_
    refine Run.nil ?_
    refine pj_then ?_
    refine J_cond rfl (fun hc2 => ?_) (fun hc2 => ?_)
    · refine J_seq ?_
      refine J_reg ?_
      refine st (s_assign rfl) rfl ?_
      refine Run.nil ?_
      refine pj_then ?_
      refine J_ret ?_
      refine pr_block ?_
      refine pr_then ?_
      refine pr_then ?_
      refine pr_block ?_
      refine pr_then ?_
      refine retc1 Try.results74 (.tmp rfl (one_le ?_))
      rw [notAll (d := (false, [])) hc (by simpa using hc2)]
    · refine J_skip ?_
      refine pn_block ?_
      refine pj_then ?_
      refine J_reg ?_
      refine st (s_move rfl) rfl ?_
      (refine st (s_add rfl rfl (wrap_i64 ?_ ?_)) rfl ?_; omega; omega)
      refine st (s_assign rfl) rfl ?_
      refine Run.nil ?_
      exact pj_round (s := i) (i + 1) ⟨by omega, takeAll (d := (false, [])) ht hc (by simpa using hc2)⟩ (by show v.length - (i + 1) < v.length - i; omega) (by repeat (first | exact SubG.nil | refine SubG.cons rfl (VT.le_refl _) ?_ | (refine SubG.cons rfl (one_le ?_) ?_; (congr 1; first | omega | (simp; omega) | simp)))) (SubM.refl _)
  · refine J_exit ?_
    refine px_then ?_
    refine px_then ?_
    refine px_block ?_
    refine pj_then ?_
    refine J_seq ?_
    refine J_reg ?_
    refine st (s_assign rfl) rfl ?_
    refine Run.nil ?_
    refine pj_then ?_
    refine J_ret ?_
    refine retc1 Try.results74 (.tmp rfl (one_le ?_))
    rw [List.take_of_length_le (by omega)] at ht
    rw [ht]
end Tor
end

section
set_option linter.unusedVariables false
set_option linter.unusedSimpArgs false
namespace Tor
open Go Go.RowKit Go.Proofs
abbrev RawV := List (Bool × List Nat)
def rawRowsT (a : List RawV) : VT := slT .one a.length (fun i => rawVecT (a.getD i []))
def rawMatT (r c : Int) (a : List RawV) : VT := aggT 3 [(0, .one, one (.int .i64 r)), (1, .one, one (.int .i64 c)), (2, .one, rawRowsT a)]
def validV (c : Int) (v : RawV) : Bool := decide ((v.length : Int) = c) && v.all fun p => validI p.1 p.2
def validM (r c : Int) (a : List RawV) : Bool := decide (0 ≤ r ∧ 0 ≤ c ∧ (a.length : Int) = r) && a.all (validV c)
attribute [local irreducible] Tor.J Tor.PJ Tor.StepO Tor.one Tor.slT Tor.ptrT Tor.aggT Tor.tupT Tor.exT Tor.andT Tor.gT Tor.eP Tor.boxO Tor.sliO Tor.slV Tor.VT.le Tor.Ret Tor.anyT
attribute [local irreducible] bigT rawT rawVecT
set_option maxHeartbeats 2000000 in
theorem rValidMat_ok (r c : Int) (a : List RawV) (ha : a.length ≤ 281474976710656) (hv : ∀ v ∈ a, ∀ p ∈ v, p.2.length ≤ 4398046511104) : Ok Try.prog 47 [rawMatT r c a] (one (.bool (validM r c a))) := by
  unfold rawMatT rawRowsT
  refine Ok.enter Try.func47 rfl Try.ntmps47 rfl (fun w O => ?_)
  refine J_seq ?_
  refine J_reg ?_
  refine a_boxS rfl rfl (ltN rfl) (fun b => ?_)
  refine st (s_assign rfl) rfl ?_
  refine Run.nil ?_
  refine pj_then ?_
  refine J_seq ?_
  refine J_seq ?_
  refine J_reg ?_
  refine st (s_fieldAddr rfl) rfl ?_
  refine st (s_loadB 0 rfl rfl rfl) rfl ?_
  refine st (s_lt rfl rfl) rfl ?_
  refine st (s_move rfl) rfl ?_
  refine bsel (t := 6) rfl (fun bo hb => ?_)
  rw [hb]
  cases bo
  · have e1 : 0 ≤ r := by simpa using hb
    refine sg1 rfl rfl (s_fieldAddr rfl) rfl ?_
    refine sg1 rfl rfl (s_loadB 0 rfl rfl rfl) rfl ?_
    refine sg1 rfl rfl (s_lt rfl rfl) rfl ?_
    refine st (s_pickF rfl rfl) rfl ?_
    refine st (s_move rfl) rfl ?_
    refine bsel (t := 11) rfl (fun bo hb2 => ?_)
    rw [hb2]
    cases bo
    · have e2 : 0 ≤ c := by simpa using hb2
      refine sg1 rfl rfl (s_fieldAddr rfl) rfl ?_
      refine sg1 rfl rfl (s_loadB 0 rfl rfl rfl) rfl ?_
      refine sg1 rfl rfl (s_len rfl) rfl ?_
      refine sg1 rfl rfl (s_fieldAddr rfl) rfl ?_
      refine sg1 rfl rfl (s_loadB 0 rfl rfl rfl) rfl ?_
      refine sg1 rfl rfl (s_ne rfl rfl) rfl ?_
      refine st (s_pickF rfl rfl) rfl ?_
      refine Run.nil ?_
      refine pj_then ?_
      refine J_cond rfl (fun hc => ?_) (fun hc => ?_) <;> simp only [decide_eq_true_eq, decide_eq_false_iff_not, ne_eq, Decidable.not_not] at hc
      · refine J_seq ?_
        refine J_reg ?_
        refine st (s_assign rfl) rfl ?_
        refine Run.nil ?_
        refine pj_then ?_
        refine J_ret ?_
        refine pr_then ?_
        refine retc1 Try.results47 (.tmp rfl (one_le ?_))
        simp [validM, hc]
      · have e3 : (a.length : Int) = r := hc
        refine J_skip ?_
        refine pj_then ?_
        refine J_seq ?_
        refine J_seq ?_
        refine J_reg ?_
        refine st (s_assign rfl) rfl ?_
        refine Run.nil ?_
        refine pj_then ?_
        refine J_block ?_
        refine J_loop (σ := Nat) (fun i => [(1, one (.pointer (some ⟨b, 0, none⟩))), (3, one (.int .i64 (i : Nat)))])
          (fun _ => [boxO b 29 3 [(0, .one, one (.int .i64 r)), (1, .one, one (.int .i64 c)), (2, .one, rawRowsT a)]])
          (fun i => i ≤ a.length ∧ (a.take i).all (validV c) = true) (fun i => a.length - i) 0 ⟨Nat.zero_le _, rfl⟩ (by repeat (first | exact SubG.nil | refine SubG.cons rfl (VT.le_refl _) ?_ | (refine SubG.cons rfl (one_le ?_) ?_; (congr 1; first | omega | (simp; omega) | simp)))) (SubM.refl _) (fun i ⟨hi, ht⟩ => ?_)
        unfold rawRowsT
        refine J_seq ?_
        refine J_seq ?_
        refine J_reg ?_
        refine st (s_move rfl) rfl ?_
        refine st (s_fieldAddr rfl) rfl ?_
        refine st (s_loadB 0 rfl rfl rfl) rfl ?_
        refine st (s_len rfl) rfl ?_
        refine st (s_lt rfl rfl) rfl ?_
        refine Run.nil ?_
        refine pj_then ?_
        refine J_cond rfl (fun hc => ?_) (fun hc => ?_) <;> simp at hc
        · have hm : ∀ p ∈ a.getD i [], p.2.length ≤ 4398046511104 := by
            simp only [List.getD, List.getElem?_eq_getElem hc, Option.getD_some]
            exact hv _ (List.getElem_mem hc)
          refine J_skip ?_
          refine pj_then ?_
          refine J_seq ?_
          refine J_block ?_
          refine J_seq ?_
          refine J_regd 18 mixed (by kernel_rfl) (by decide) ?_
          unfold rawVecT
          refine st (s_fieldAddr rfl) rfl ?_
          refine st (s_loadB 0 rfl rfl rfl) rfl ?_
          refine st (s_move rfl) rfl ?_
          (refine st (s_indexIN rfl rfl ?_) rfl ?_; omega)
          refine st (s_load rfl) rfl ?_
          refine st (s_len rfl) rfl ?_
          refine st (s_fieldAddr rfl) rfl ?_
          refine st (s_loadB 0 rfl rfl rfl) rfl ?_
          refine st (s_ne rfl rfl) rfl ?_
          refine st (s_move rfl) rfl ?_
          refine bsel (t := 35) rfl (fun bo hb3 => ?_)
          rw [hb3]
          cases bo
          · refine sg1 rfl rfl (s_fieldAddr rfl) rfl ?_
            refine sg1 rfl rfl (s_loadB 0 rfl rfl rfl) rfl ?_
            refine sg1 rfl rfl (s_move rfl) rfl ?_
            (refine sg1 rfl rfl (s_indexIN rfl rfl ?_) rfl ?_; omega)
            refine sg1 rfl rfl (s_load rfl) rfl ?_
            refine sg1 rfl rfl (s_callk (rValidVec_ok _ hm) rfl ⟨(by unfold rawVecT; exact VT.le_refl _), trivial⟩) rfl ?_
            refine sg1 rfl rfl (s_not rfl) rfl ?_
            refine st (s_pickF rfl rfl) rfl ?_
            refine Run.nil ?_
            refine Run.nil ?_
            refine pj_then ?_
            refine J_cond rfl (fun hc2 => ?_) (fun hc2 => ?_)
            · refine J_seq ?_
              refine J_reg ?_
              refine st (s_assign rfl) rfl ?_
              refine Run.nil ?_
              refine pj_then ?_
              refine J_ret ?_
              refine pr_block ?_
              refine pr_then ?_
              refine pr_then ?_
              refine pr_block ?_
              refine pr_then ?_
              refine retc1 Try.results47 (.tmp rfl (one_le ?_))
              have := notAll (p := validV c) (d := []) hc (by simp only [validV, Bool.and_eq_false_iff]; right; simpa using hc2)
              simp [validM, this]
            · refine J_skip ?_
              refine pn_block ?_
              refine pj_then ?_
              refine J_reg ?_
              refine st (s_move rfl) rfl ?_
              (refine st (s_add rfl rfl (wrap_i64 ?_ ?_)) rfl ?_; omega; omega)
              refine st (s_assign rfl) rfl ?_
              refine Run.nil ?_
              exact pj_round (s := i) (i + 1) ⟨by omega, takeAll (d := []) ht hc (by simp only [validV, Bool.and_eq_true]; exact ⟨by simpa using hb3, by simpa using hc2⟩)⟩ (by show a.length - (i + 1) < a.length - i; omega) (by repeat (first | exact SubG.nil | refine SubG.cons rfl (VT.le_refl _) ?_ | (refine SubG.cons rfl (one_le ?_) ?_; (congr 1; first | omega | (simp; omega) | simp)))) (SubM.refl _)
          · refine sg0 rfl rfl rfl rfl ?_
            refine sg0 rfl rfl rfl rfl ?_
            refine sg0 rfl rfl rfl rfl ?_
            refine sg0 rfl rfl rfl rfl ?_
            refine sg0 rfl rfl rfl rfl ?_
            refine sg0 rfl rfl rfl rfl ?_
            refine sg0 rfl rfl rfl rfl ?_
            refine st (s_pickT rfl rfl) rfl ?_
            refine Run.nil ?_
            refine Run.nil ?_
            refine pj_then ?_
            refine J_cond rfl (fun hc2 => ?_) (fun hc2 => ?_)
            · refine J_seq ?_
              refine J_reg ?_
              refine st (s_assign rfl) rfl ?_
              refine Run.nil ?_
              refine pj_then ?_
              refine J_ret ?_
              refine pr_block ?_
              refine pr_then ?_
              refine pr_then ?_
              refine pr_block ?_
              refine pr_then ?_
              refine retc1 Try.results47 (.tmp rfl (one_le ?_))
              have := notAll (p := validV c) (d := []) hc (by simp only [validV, Bool.and_eq_false_iff]; left; simpa using hb3)
              simp [validM, this]
            · cases hc2
        · refine J_exit ?_
          refine px_then ?_
          refine px_then ?_
          refine px_block ?_
          refine pj_then ?_
          refine J_seq ?_
          refine J_reg ?_
          refine st (s_assign rfl) rfl ?_
          refine Run.nil ?_
          refine pj_then ?_
          refine J_ret ?_
          refine retc1 Try.results47 (.tmp rfl (one_le ?_))
          rw [List.take_of_length_le (by omega)] at ht
          simp [validM, ht, e1, e2, e3]
    · have e2 : ¬ 0 ≤ c := by simpa using hb2
      refine sg0 rfl rfl rfl rfl ?_
      refine sg0 rfl rfl rfl rfl ?_
      refine sg0 rfl rfl rfl rfl ?_
      refine sg0 rfl rfl rfl rfl ?_
      refine sg0 rfl rfl rfl rfl ?_
      refine sg0 rfl rfl rfl rfl ?_
      refine st (s_pickT rfl rfl) rfl ?_
      refine Run.nil ?_
      refine pj_then ?_
      refine J_cond rfl (fun hc => ?_) (fun hc => ?_)
      · refine J_seq ?_
        refine J_reg ?_
        refine st (s_assign rfl) rfl ?_
        refine Run.nil ?_
        refine pj_then ?_
        refine J_ret ?_
        refine pr_then ?_
        refine retc1 Try.results47 (.tmp rfl (one_le ?_))
        simp [validM, e2]
      · cases hc
  · have e1 : ¬ 0 ≤ r := by simpa using hb
    refine sg0 rfl rfl rfl rfl ?_
    refine sg0 rfl rfl rfl rfl ?_
    refine sg0 rfl rfl rfl rfl ?_
    refine st (s_pickT rfl rfl) rfl ?_
    refine st (s_move rfl) rfl ?_
    refine sg0 rfl rfl rfl rfl ?_
    refine sg0 rfl rfl rfl rfl ?_
    refine sg0 rfl rfl rfl rfl ?_
    refine sg0 rfl rfl rfl rfl ?_
    refine sg0 rfl rfl rfl rfl ?_
    refine sg0 rfl rfl rfl rfl ?_
    refine st (s_pickT rfl rfl) rfl ?_
    refine Run.nil ?_
    refine pj_then ?_
    refine J_cond rfl (fun hc => ?_) (fun hc => ?_)
    · refine J_seq ?_
      refine J_reg ?_
      refine st (s_assign rfl) rfl ?_
      refine Run.nil ?_
      refine pj_then ?_
      refine J_ret ?_
      refine pr_then ?_
      refine retc1 Try.results47 (.tmp rfl (one_le ?_))
      simp [validM, e1]
    · cases hc
end Tor
end

section
set_option linter.unusedVariables false
set_option linter.unusedSimpArgs false
namespace Tor
open Go Go.RowKit Go.Proofs
def tab (r c : Nat) (F : Nat → Nat → Int) : List (List Int) := (List.range r).map fun i => (List.range c).map (F i)
@[simp] theorem tab_length (r c : Nat) (F : Nat → Nat → Int) : (tab r c F).length = r := by simp [tab]
theorem tab_row {r c i : Nat} (F : Nat → Nat → Int) (hi : i < r) : (tab r c F).getD i [] = (List.range c).map (F i) := by simp [tab, List.getD, hi]
theorem row_at {c j : Nat} (f : Nat → Int) (hj : j < c) : ((List.range c).map f).getD j 0 = f j := by simp [List.getD, hj]
def rowF (c : Nat) (f : Nat → Int) : VT := slT (.agg 2) c (fun j => bigT (f j))
theorem rowF_vec (c : Nat) (f : Nat → Int) : VT.le (rowF c f) (vecT ((List.range c).map f)) := by
  unfold rowF vecT
  refine VT.le_trans (slT_le (ψ := fun j => bigT (((List.range c).map f).getD j 0)) (fun j hj => ?_)) (le_eq (by simp))
  rw [row_at f hj]; exact VT.le_refl _
def matF (r c : Nat) (F : Nat → Nat → Int) : VT := aggT 3 [(0, .one, one (.int .i64 r)), (1, .one, one (.int .i64 c)), (2, .one, slT .one r (fun i => rowF c (F i)))]
theorem matF_mat (r c : Nat) (F : Nat → Nat → Int) : VT.le (matF r c F) (matT r c (tab r c F)) := by
  unfold matF matT rowsT
  refine aggT_le (fun q hq => ?_)
  rcases List.mem_cons.1 hq with rfl | hq
  · exact ⟨_, List.mem_cons_self, VT.le_refl _⟩
  rcases List.mem_cons.1 hq with rfl | hq
  · exact ⟨_, List.mem_cons_of_mem _ List.mem_cons_self, VT.le_refl _⟩
  rcases List.mem_cons.1 hq with rfl | hq
  · refine ⟨_, List.mem_cons_of_mem _ (List.mem_cons_of_mem _ List.mem_cons_self), VT.le_trans (slT_le (ψ := fun i => vecT ((tab r c F).getD i [])) (fun i hi => ?_)) (le_eq (by simp))⟩
    rw [tab_row F hi]; exact rowF_vec _ _
  · cases hq
theorem matF_le {r c : Nat} {F G : Nat → Nat → Int} (h : ∀ i j, i < r → j < c → F i j = G i j) : VT.le (matF r c F) (matF r c G) := by
  unfold matF
  refine aggT_le (fun q hq => ?_)
  rcases List.mem_cons.1 hq with rfl | hq
  · exact ⟨_, List.mem_cons_self, VT.le_refl _⟩
  rcases List.mem_cons.1 hq with rfl | hq
  · exact ⟨_, List.mem_cons_of_mem _ List.mem_cons_self, VT.le_refl _⟩
  rcases List.mem_cons.1 hq with rfl | hq
  · refine ⟨_, List.mem_cons_of_mem _ (List.mem_cons_of_mem _ List.mem_cons_self), slT_le fun i hi => slT_le fun j hj => le_eq (by rw [h i j hi hj])⟩
  · cases hq
theorem zero_big : VT.le (one (.agg #[.bool false, .slice none 0 0])) (bigT 0) := by
  intro v h e
  have e : v = .agg #[.bool false, .slice none 0 0] := e
  subst e
  refine ⟨_, rfl, rfl, by simp [Value.oneCell'], fun q hq => ?_⟩
  rcases List.mem_cons.1 hq with rfl | hq
  · exact ⟨.bool false, rfl, rfl⟩
  · rcases List.mem_cons.1 hq with rfl | hq
    · exact ⟨.slice none 0 0, rfl, ⟨none, 0, rfl, Nat.le_refl _, by decide, fun i hi => absurd hi (Nat.not_lt_zero _)⟩⟩
    · cases hq
theorem sliO_none {sv : Option Nat} {T : TypeId} {L : Lay} {cap n : Nat} {φ : Nat → VT} {g : RH} {h : Hp} (hp : (sliO sv T L cap n φ).p g h) (he : sv = none) : n = 0 := by
  obtain ⟨h1, h2, h3, _⟩ := hp; have := h3 he; omega
theorem getq {bs : List Nat} {i : Nat} (h : i < bs.length) : bs[i]? = some (bs.getD i 0) := by simp [List.getD, h]
def outO (sv : Option Nat) (cap r c : Nat) (bs : List Nat) : Own := sliO sv 44 .one cap r (fun q => one (slV (some (bs.getD q 0)) c c))
def ownR (c : Nat) (bs : List Nat) (F : Nat → Nat → Int) : Own := rowsO 34 (.agg 2) c bs (fun q k => bigT (F q k))
theorem ownR_le {c : Nat} {bs : List Nat} {F G : Nat → Nat → Int} (h : ∀ i j, i < bs.length → j < c → F i j = G i j) : Own.le (ownR c bs F) (ownR c bs G) := rowsO_eq fun i j hi hj => by rw [h i j hi hj]
/-- What New gives: a matrix, its slice of rows and its rows. -/
abbrev NewS (r : Nat) := {s : List Nat × Option Nat × Nat // s.1.length = r ∧ (s.2.1 = none → r = 0)}
def newT (r c : Nat) (s : NewS r) : VT := aggT 3 [(0, .one, one (.int .i64 r)), (1, .one, one (.int .i64 c)), (2, .one, one (slV s.1.2.1 r s.1.2.2))]
theorem newT_open {r c : Nat} {sv : Option Nat} {cap : Nat} {bs : List Nat} {F : Nat → Nat → Int} {cs : Comps} (hb : bs.length = r) (hc : (0, Lay.one, one (.int .i64 r)) ∈ cs ∧ (1, Lay.one, one (.int .i64 c)) ∈ cs ∧ (2, Lay.one, one (slV sv r cap)) ∈ cs) :
    EntC [outO sv cap r c bs, ownR c bs F] cs [(0, .one, one (.int .i64 r)), (1, .one, one (.int .i64 c)), (2, .one, slT .one r (fun i => rowF c (F i)))] := by
  refine .cons hc.1 (Ent.refl _) (.cons hc.2.1 (Ent.refl _) (.cons hc.2.2 ?_ .nil))
  refine Ent.slE List.mem_cons_self fun q hq => ?_
  exact Ent.row (List.mem_cons_of_mem _ List.mem_cons_self) (getq (by omega))
attribute [local irreducible] Tor.J Tor.PJ Tor.StepO Tor.one Tor.slT Tor.ptrT Tor.aggT Tor.tupT Tor.exT Tor.andT Tor.gT Tor.eP Tor.boxO Tor.sliO Tor.slV Tor.VT.le Tor.Ret Tor.anyT
attribute [local irreducible] Tor.rowsO
set_option maxHeartbeats 2000000 in
theorem rNew_ok (r c : Nat) (hr : r ≤ 1048576) (hc : c ≤ 1048576) : OkM Try.prog 29 [one (.int .i64 r), one (.int .i64 c)] (newT r c) (fun s => [outO s.1.2.1 s.1.2.2 r c s.1.1, ownR c s.1.1 (fun _ _ => 0)]) := by
  refine OkM.enter Try.func29 rfl Try.ntmps29 rfl (fun w O => ?_)
  refine J_seq ?_
  refine J_reg ?_
  refine a_allocS (T := 29) rfl rfl rfl (fun b => ?_)
  refine Run.nil ?_
  refine pj_then ?_
  refine J_seq ?_
  refine J_reg ?_
  refine stSO (n := 0) rfl rfl rfl rfl rfl ?_
  refine PartsK.nil (fun b => ?_)
  refine st (s_assign rfl) rfl ?_
  refine Run.nil ?_
  refine pj_then ?_
  refine J_seq ?_
  refine J_seq ?_
  refine J_reg ?_
  refine st (s_assign rfl) rfl ?_
  refine Run.nil ?_
  refine pj_then ?_
  refine J_block ?_
  rename_i bc
  refine J_conv (ConvM.rows0 (T := 34) (L := .agg 2) (c := c) (φ := fun _ _ => bigT 0) _) ?_
  refine J_loop (σ := List Nat × Option Nat × Nat) (fun s => [(0, one (.int .i64 r)), (1, one (.int .i64 c)), (4, one (.pointer (some ⟨bc, 0, none⟩))), (5, one (slV s.2.1 s.1.length s.2.2)), (6, one (.int .i64 s.1.length))])
    (fun s => [sliO s.2.1 44 .one s.2.2 s.1.length (fun q => one (slV (some (s.1.getD q 0)) c c)), boxO bc 29 3 (zeroC #[Value.int IntKind.i64 0, Value.int IntKind.i64 0, Value.slice none 0 0] [(0, Lay.one), (1, Lay.one), (2, Lay.one)]), ownR c s.1 (fun _ _ => 0)])
    (fun s => s.1.length ≤ r) (fun s => r - s.1.length) ([], some b, 0) (Nat.zero_le _) (by repeat (first | exact SubG.nil | refine SubG.cons rfl (VT.le_refl _) ?_ | (refine SubG.cons rfl (one_le ?_) ?_; (congr 1; first | omega | (simp; omega) | simp)))) (.keep (sliO_eq (fun q hq => by omega)) (SubM.refl _)) (fun s hk => ?_)
  obtain ⟨bs, sv0, cap0⟩ := s
  simp only at hk ⊢
  refine J_seq ?_
  refine J_seq ?_
  refine J_reg ?_
  refine st (s_move rfl) rfl ?_
  refine st (s_move rfl) rfl ?_
  refine st (s_lt rfl rfl) rfl ?_
  refine Run.nil ?_
  refine pj_then ?_
  refine J_cond rfl (fun hc => ?_) (fun hc => ?_) <;> simp at hc
  · refine J_skip ?_
    refine pj_then ?_
    refine J_seq ?_
    refine J_block ?_
    refine J_reg ?_
    refine st (s_move rfl) rfl ?_
    refine st (s_move rfl) rfl ?_
    refine a_makeSlice c c rfl rfl rfl rfl (Nat.le_refl _) rfl rfl (by omega) rfl rfl (fun bz => ?_)
    refine stS1 rfl rfl rfl rfl ?_
    (refine a_append 1 rfl rfl rfl (leN rfl) ?_ ?_ rfl (ltN rfl) (fun sv cap => ?_); omega; omega)
    refine st (s_assign rfl) rfl ?_
    refine Run.nil ?_
    refine pn_block ?_
    refine pj_then ?_
    refine J_reg ?_
    refine st (s_move rfl) rfl ?_
    (refine st (s_add rfl rfl (wrap_i64 ?_ ?_)) rfl ?_; omega; omega)
    refine st (s_assign rfl) rfl ?_
    refine Run.nil ?_
    refine PJ_conv (ConvM.row (k := 2) rfl) ?_
    refine pj_round (s := (bs, sv0, cap0)) (bs ++ [bz], sv, cap) (by simp; omega) (by simp; omega) (.cons rfl (VT.le_refl _) (.cons rfl (VT.le_refl _) (.cons rfl (VT.le_refl _) (.cons rfl (slV_len (by simp)) (.cons rfl (one_le (by simp)) .nil))))) ?_
    refine .keep (sliO_len (by simp) (fun q hq => ?_)) (.keep (Own.le_refl _) (.keep (rowsO_le fun i j hi hj => ?_) .nil))
    · by_cases h : q < bs.length
      · rw [if_pos h]; simp [List.getElem?_append_left h]
      · have : q = bs.length := by omega
        subst this; rw [if_neg h]; simp
    · simp only
      split
      · exact VT.le_refl _
      · exact zero_big
  · have hlen : bs.length = r := by omega
    subst hlen
    refine J_factM (i := 0) (F := sv0 = none → bs.length = 0) rfl (fun g h hp he => sliO_none hp he) (fun hF => ?_)
    refine J_exit ?_
    refine px_then ?_
    refine px_then ?_
    refine px_block ?_
    refine pj_then ?_
    refine J_seq ?_
    refine J_reg ?_
    refine st (s_move rfl) rfl ?_
    refine st (s_move rfl) rfl ?_
    refine st (s_move rfl) rfl ?_
    refine stB rfl rfl rfl ?_
    refine BuildK.cons rfl rfl rfl ?_
    refine BuildK.cons rfl rfl rfl ?_
    refine BuildK.cons rfl rfl rfl ?_
    refine BuildK.nil ?_
    refine a_storeW 1 rfl rfl rfl rfl ?_
    refine Run.nil ?_
    refine pj_then ?_
    refine J_ret ?_
    refine retM1 ⟨(bs, sv0, cap0), rfl, hF⟩ Try.results29 (.cellW 1 rfl rfl (VT.le_refl _)) ?_
    exact .keep (Own.le_refl _) (.drop (SubM.refl _))
end Tor
end

section
set_option linter.unusedVariables false
set_option linter.unusedSimpArgs false
namespace Tor
open Go Go.RowKit Go.Proofs
attribute [local irreducible] Tor.J Tor.PJ Tor.StepO Tor.one Tor.slT Tor.ptrT Tor.aggT Tor.tupT Tor.exT Tor.andT Tor.gT Tor.eP Tor.boxO Tor.sliO Tor.slV Tor.VT.le Tor.Ret Tor.anyT
attribute [local irreducible] bigT Tor.rowsO
set_option maxHeartbeats 2000000 in
theorem rIdentity_ok (n : Nat) (hn : n ≤ 1048576) : Ok Try.prog 21 [one (.int .i64 n)] (matF n n (fun i j => if i = j then 1 else 0)) := by
  refine Ok.enter Try.func21 rfl Try.ntmps21 rfl (fun w O => ?_)
  refine J_seq ?_
  refine J_reg ?_
  refine a_allocS (T := 29) rfl rfl rfl (fun b => ?_)
  refine Run.nil ?_
  refine pj_then ?_
  refine J_seq ?_
  refine J_reg ?_
  refine st (s_move rfl) rfl ?_
  refine st (s_move rfl) rfl ?_
  refine a_callM (rNew_ok n n hn hn) rfl ⟨VT.le_refl _, VT.le_refl _, trivial⟩ rfl rfl (fun s => ?_)
  obtain ⟨⟨bs, sv1, cap1⟩, hlen, hsv⟩ := s
  simp only at hlen hsv
  unfold newT
  refine a_allocS (T := 29) rfl rfl rfl (fun b => ?_)
  refine a_storeW 0 rfl rfl rfl rfl ?_
  refine Run.nil ?_
  refine pj_then ?_
  refine J_seq ?_
  refine J_seq ?_
  refine J_reg ?_
  refine st (s_assign rfl) rfl ?_
  refine Run.nil ?_
  refine pj_then ?_
  refine J_block ?_
  rename_i b2
  refine J_loop (σ := Nat) (fun i => [(0, one (.int .i64 n)), (2, one (.pointer (some ⟨b2, 0, none⟩))), (3, one (.pointer (some ⟨b, 0, none⟩))), (4, one (.int .i64 (i : Nat)))])
    (fun i => [boxO b 29 3 [(0, .one, one (.int .i64 n)), (1, .one, one (.int .i64 n)), (2, .one, one (slV sv1 n cap1))], outO sv1 cap1 n n bs, ownR n bs (fun q k => if q < i then (if q = k then 1 else 0) else 0),
      boxO b2 29 3 (zeroC #[Value.int IntKind.i64 0, Value.int IntKind.i64 0, Value.slice none 0 0] [(0, Lay.one), (1, Lay.one), (2, Lay.one)])])
    (fun i => i ≤ n) (fun i => n - i) 0 (Nat.zero_le _) (by repeat (first | exact SubG.nil | refine SubG.cons rfl (VT.le_refl _) ?_ | (refine SubG.cons rfl (one_le ?_) ?_; (congr 1; first | omega | (simp; omega) | simp)))) (.keep (Own.le_refl _) (.keep (Own.le_refl _) (.keep (ownR_le fun i j hi hj => by simp) (SubM.refl _)))) (fun i hi => ?_)
  refine J_seq ?_
  refine J_seq ?_
  refine J_reg ?_
  refine st (s_move rfl) rfl ?_
  refine st (s_move rfl) rfl ?_
  refine st (s_lt rfl rfl) rfl ?_
  refine Run.nil ?_
  refine pj_then ?_
  refine J_cond rfl (fun hc => ?_) (fun hc => ?_) <;> simp at hc
  · obtain ⟨bo, rfl⟩ : ∃ bo, sv1 = some bo := by
      cases sv1 with
      | none => have := hsv rfl; omega
      | some bo => exact ⟨bo, rfl⟩
    refine J_skip ?_
    refine pj_then ?_
    refine J_seq ?_
    refine J_block ?_
    refine J_regd 8 mixed (by kernel_rfl) (by decide) ?_
    refine st (s_fieldAddr rfl) rfl ?_
    refine st (s_loadB 0 rfl rfl rfl) rfl ?_
    refine st (s_move rfl) rfl ?_
    (refine st (s_indexON rfl rfl ?_) rfl ?_; omega)
    (refine st (s_loadE 1 rfl rfl ?_) rfl ?_; omega)
    refine st (s_move rfl) rfl ?_
    refine st (s_callk (rOf_ok 1 (by decide) (by decide)) rfl ⟨VT.le_refl _, trivial⟩) rfl ?_
    (refine st (s_indexON rfl rfl ?_) rfl ?_; omega)
    refine Run.nil ?_
    (refine a_storeR 2 rfl rfl rfl (getq ?_) ?_ rfl ?_; omega; omega)
    refine Run.nil ?_
    refine pn_block ?_
    refine pj_then ?_
    refine J_reg ?_
    refine st (s_move rfl) rfl ?_
    (refine st (s_add rfl rfl (wrap_i64 ?_ ?_)) rfl ?_; omega; omega)
    refine st (s_assign rfl) rfl ?_
    refine Run.nil ?_
    refine pj_round (s := i) (i + 1) (show _ from by omega) (by omega) (by repeat (first | exact SubG.nil | refine SubG.cons rfl (VT.le_refl _) ?_ | (refine SubG.cons rfl (one_le ?_) ?_; (congr 1; first | omega | (simp; omega) | simp)))) (.keep (Own.le_refl _) (.keep (Own.le_refl _) (.keep (rowsO_eq fun q k hq hk => ?_) (SubM.refl _))))
    unfold upd2
    by_cases h : q = i
    · subst h
      by_cases h2 : k = q
      · subst h2; simp
      · have h3 : ¬ q = k := fun e => h2 e.symm
        simp [h2, h3]
    · have h3 : q < i + 1 ↔ q < i := by omega
      simp [h, h3]
  · have hin : i = n := by omega
    subst hin
    refine J_exit ?_
    refine px_then ?_
    refine px_then ?_
    refine px_block ?_
    refine pj_then ?_
    refine J_seq ?_
    refine J_reg ?_
    refine st (s_loadW 0 rfl rfl) rfl ?_
    refine a_storeW 3 rfl rfl rfl rfl ?_
    refine Run.nil ?_
    refine pj_then ?_
    refine J_ret ?_
    have hperm : ∀ (x y z u : Own), [x, y, z, u].Perm ([y, z] ++ [x, u]) := fun x y z u => (List.Perm.swap y x _).trans (List.Perm.cons y (List.Perm.swap z x _))
    refine PJ_open [outO sv1 cap1 i i bs, ownR i bs (fun q k => if q < i then (if q = k then 1 else 0) else 0)] (hperm _ _ _ _) (.keep (EntO.refl _) (.keep (EntO.box (newT_open hlen ⟨by simp, by simp, by simp⟩)) .nil)) (EntG.refl _) ?_
    refine retc1 Try.results21 (.cellW 1 rfl rfl ?_)
    exact matF_le fun a b ha hb => by simp [ha]
end Tor
end

section
set_option linter.unusedVariables false
set_option linter.unusedSimpArgs false
namespace Tor
open Go Go.RowKit Go.Proofs
def numT (k : IntKind) (l : List Int) : VT := slT .one l.length (fun i => one (.int k (l.getD i 0)))
theorem sv_some {sv : Option Nat} {r : Nat} (h : sv = none → r = 0) (hr : 0 < r) : ∃ b, sv = some b := by
  cases sv with
  | none => have := h rfl; omega
  | some b => exact ⟨b, rfl⟩
theorem toNat_mul_add (i c j : Nat) : ((i : Int) * c + j).toNat = i * c + j := by
  have : ((i : Int) * c + j) = ((i * c + j : Nat) : Int) := by simp
  rw [this, Int.toNat_natCast]
def fillF (f : Nat → Int) (c i j : Nat) : Nat → Nat → Int := fun q k => if q < i ∨ (q = i ∧ k < j) then f (q * c + k) else 0
theorem getD_mem {l : List Int} {i : Nat} {p : Int → Prop} (h : ∀ x ∈ l, p x) (h0 : p 0) : p (l.getD i 0) := by
  rcases Nat.lt_or_ge i l.length with hi | hi
  · simp only [List.getD, List.getElem?_eq_getElem hi, Option.getD_some]; exact h _ (List.getElem_mem hi)
  · simp only [List.getD, List.getElem?_eq_none hi, Option.getD_none]; exact h0
theorem upd_fill {T : TypeId} {c : Nat} {bs : List Nat} {f : Nat → Int} {i j : Nat} (x : Int) (hx : x = f (i * c + j)) :
    Own.le (rowsO T (.agg 2) c bs (upd2 (fun q k => bigT (fillF f c i j q k)) i j (bigT x))) (rowsO T (.agg 2) c bs (fun q k => bigT (fillF f c i (j + 1) q k))) := by
  subst hx
  refine rowsO_eq fun q k hq hk => ?_
  unfold upd2 fillF
  by_cases h : q = i ∧ k = j
  · obtain ⟨rfl, rfl⟩ := h; simp
  · rw [if_neg h]
    have e : (q < i ∨ q = i ∧ k < j + 1) ↔ (q < i ∨ q = i ∧ k < j) := by omega
    simp only [e]
attribute [local irreducible] Tor.J Tor.PJ Tor.StepO Tor.one Tor.slT Tor.ptrT Tor.aggT Tor.tupT Tor.exT Tor.andT Tor.gT Tor.eP Tor.boxO Tor.sliO Tor.slV Tor.VT.le Tor.Ret Tor.anyT
attribute [local irreducible] bigT Tor.rowsO
set_option maxHeartbeats 2000000 in
theorem rInts_ok (r c : Nat) (l : List Int) (hr0 : r ≤ 1048576) (hc0 : c ≤ 1048576) (hl : ∀ x ∈ l, -9223372036854775808 ≤ x ∧ x ≤ 9223372036854775807) : Ok Try.prog 28 [one (.int .i64 r), one (.int .i64 c), numT .i64 l] (matF r c (fun i j => l.getD (i * c + j) 0)) := by
  unfold numT
  refine Ok.enter Try.func28 rfl Try.ntmps28 rfl (fun w O => ?_)
  refine J_seq ?_
  refine J_reg ?_
  refine a_allocS (T := 29) rfl rfl rfl (fun b => ?_)
  refine Run.nil ?_
  refine pj_then ?_
  refine J_seq ?_
  refine J_reg ?_
  refine st (s_move rfl) rfl ?_
  refine st (s_move rfl) rfl ?_
  refine a_callM (rNew_ok r c hr0 hc0) rfl ⟨VT.le_refl _, VT.le_refl _, trivial⟩ rfl rfl (fun s => ?_)
  obtain ⟨⟨bs, sv1, cap1⟩, hlen, hsv⟩ := s
  simp only at hlen hsv
  unfold newT
  refine a_allocS (T := 29) rfl rfl rfl (fun b => ?_)
  refine a_storeW 0 rfl rfl rfl rfl ?_
  refine Run.nil ?_
  refine pj_then ?_
  refine J_seq ?_
  refine J_seq ?_
  refine J_reg ?_
  refine st (s_assign rfl) rfl ?_
  refine Run.nil ?_
  refine pj_then ?_
  refine J_block ?_
  rename_i b2
  refine J_loop (σ := Nat) (fun i => [(0, one (.int .i64 r)), (1, one (.int .i64 c)), (2, slT .one l.length (fun i => one (.int .i64 (l.getD i 0)))), (6, one (.pointer (some ⟨b2, 0, none⟩))), (7, one (.pointer (some ⟨b, 0, none⟩))), (8, one (.int .i64 (i : Nat)))])
    (fun i => [boxO b 29 3 [(0, .one, one (.int .i64 r)), (1, .one, one (.int .i64 c)), (2, .one, one (slV sv1 r cap1))], outO sv1 cap1 r c bs, ownR c bs (fillF (fun n => l.getD n 0) c i 0),
      boxO b2 29 3 (zeroC #[Value.int IntKind.i64 0, Value.int IntKind.i64 0, Value.slice none 0 0] [(0, Lay.one), (1, Lay.one), (2, Lay.one)])])
    (fun i => i ≤ r) (fun i => r - i) 0 (Nat.zero_le _) (by repeat (first | exact SubG.nil | refine SubG.cons rfl (VT.le_refl _) ?_ | (refine SubG.cons rfl (one_le ?_) ?_; (congr 1; first | omega | (simp; omega) | simp)))) (.keep (Own.le_refl _) (.keep (Own.le_refl _) (.keep (ownR_le fun i j hi hj => by simp [fillF]) (SubM.refl _)))) (fun i hi => ?_)
  refine J_seq ?_
  refine J_seq ?_
  refine J_reg ?_
  refine st (s_move rfl) rfl ?_
  refine st (s_move rfl) rfl ?_
  refine st (s_lt rfl rfl) rfl ?_
  refine Run.nil ?_
  refine pj_then ?_
  refine J_cond rfl (fun hc => ?_) (fun hc => ?_) <;> simp at hc
  · have hir : i < r := by omega
    obtain ⟨bo, rfl⟩ := sv_some hsv (by omega)
    refine J_skip ?_
    refine pj_then ?_
    refine J_seq ?_
    refine J_block ?_
    refine J_seq ?_
    refine J_reg ?_
    refine st (s_assign rfl) rfl ?_
    refine Run.nil ?_
    refine pj_then ?_
    refine J_block ?_
    refine J_loop (σ := Nat) (fun j => [(0, one (.int .i64 r)), (1, one (.int .i64 c)), (2, slT .one l.length (fun i => one (.int .i64 (l.getD i 0)))), (6, one (.pointer (some ⟨b2, 0, none⟩))), (7, one (.pointer (some ⟨b, 0, none⟩))), (8, one (.int .i64 (i : Nat))), (9, one (.int .i64 (j : Nat)))])
      (fun j => [boxO b 29 3 [(0, .one, one (.int .i64 r)), (1, .one, one (.int .i64 c)), (2, .one, one (slV (some bo) r cap1))], outO (some bo) cap1 r c bs, ownR c bs (fillF (fun n => l.getD n 0) c i j),
      boxO b2 29 3 (zeroC #[Value.int IntKind.i64 0, Value.int IntKind.i64 0, Value.slice none 0 0] [(0, Lay.one), (1, Lay.one), (2, Lay.one)])])
      (fun j => j ≤ c) (fun j => c - j) 0 (Nat.zero_le _) (by repeat (first | exact SubG.nil | refine SubG.cons rfl (VT.le_refl _) ?_ | (refine SubG.cons rfl (one_le ?_) ?_; (congr 1; first | omega | (simp; omega) | simp)))) (SubM.refl _) (fun j hj => ?_)
    have hm : i * c ≤ 1048576 * 1048576 := Nat.mul_le_mul (by omega) hc0
    have hm2 : (i : Int) * c ≤ 1099511627776 := by omega
    have hm3 : 0 ≤ (i : Int) * c := by have := Nat.zero_le (i * c); omega
    refine J_seq (J_seq ?_)
    refine J_join (σ := Unit) (fun _ => [(0, one (.int .i64 r)), (1, one (.int .i64 c)), (2, slT .one l.length (fun i => one (.int .i64 (l.getD i 0)))), (6, one (.pointer (some ⟨b2, 0, none⟩))), (7, one (.pointer (some ⟨b, 0, none⟩))), (8, one (.int .i64 (i : Nat))), (9, one (.int .i64 (j : Nat))), (30, one (.bool (decide (j < c ∧ i * c + j < l.length))))])
      (fun _ => [boxO b 29 3 [(0, .one, one (.int .i64 r)), (1, .one, one (.int .i64 c)), (2, .one, one (slV (some bo) r cap1))], outO (some bo) cap1 r c bs, ownR c bs (fillF (fun n => l.getD n 0) c i j),
      boxO b2 29 3 (zeroC #[Value.int IntKind.i64 0, Value.int IntKind.i64 0, Value.slice none 0 0] [(0, Lay.one), (1, Lay.one), (2, Lay.one)])]) (fun _ => True) ?_ (fun _ _ => ?_)
    · refine J_reg ?_
      refine st (s_move rfl) rfl ?_
      refine st (s_move rfl) rfl ?_
      refine st (s_lt rfl rfl) rfl ?_
      refine st (s_move rfl) rfl ?_
      refine bsel (t := 21) rfl (fun b h1 => ?_)
      rw [h1]
      cases b
      · simp at h1
        refine sg0 rfl rfl rfl rfl ?_
        refine sg0 rfl rfl rfl rfl ?_
        refine sg0 rfl rfl rfl rfl ?_
        refine sg0 rfl rfl rfl rfl ?_
        refine sg0 rfl rfl rfl rfl ?_
        refine sg0 rfl rfl rfl rfl ?_
        refine sg0 rfl rfl rfl rfl ?_
        refine sg0 rfl rfl rfl rfl ?_
        refine st (s_pickF rfl rfl) rfl ?_
        refine Run.nil ?_
        refine pj_cut () trivial (.cons rfl (VT.le_refl _) (.cons rfl (VT.le_refl _) (.cons rfl (VT.le_refl _) (.cons rfl (VT.le_refl _) (.cons rfl (VT.le_refl _) (.cons rfl (VT.le_refl _) (.cons rfl (VT.le_refl _) (.cons rfl (one_le ?_) .nil)))))))) (SubM.refl _)
        congr 1; symm; rw [decide_eq_false_iff_not]; omega
      · simp at h1
        refine sg1 rfl rfl (s_move rfl) rfl ?_
        refine sg1 rfl rfl (s_move rfl) rfl ?_
        (refine sg1 rfl rfl (s_mul rfl rfl (wrap_i64 ?_ ?_)) rfl ?_; omega; omega)
        refine sg1 rfl rfl (s_move rfl) rfl ?_
        (refine sg1 rfl rfl (s_add rfl rfl (wrap_i64 ?_ ?_)) rfl ?_; omega; omega)
        refine sg1 rfl rfl (s_move rfl) rfl ?_
        refine sg1 rfl rfl (s_len rfl) rfl ?_
        refine sg1 rfl rfl (s_lt rfl rfl) rfl ?_
        refine st (s_pickT rfl rfl) rfl ?_
        refine Run.nil ?_
        refine pj_cut () trivial (.cons rfl (VT.le_refl _) (.cons rfl (VT.le_refl _) (.cons rfl (VT.le_refl _) (.cons rfl (VT.le_refl _) (.cons rfl (VT.le_refl _) (.cons rfl (VT.le_refl _) (.cons rfl (VT.le_refl _) (.cons rfl (one_le ?_) .nil)))))))) (SubM.refl _)
        congr 1; rw [decide_eq_decide]
        have : ((i * c : Nat) : Int) = (i : Int) * c := by simp
        omega
    · refine pj_then ?_
      refine J_cond rfl (fun hc2 => ?_) (fun hc2 => ?_) <;> simp only [decide_eq_true_eq, decide_eq_false_iff_not] at hc2
      · have hm4 : ((i * c : Nat) : Int) = (i : Int) * c := by simp
        refine J_skip ?_
        refine pj_then ?_
        refine J_seq ?_
        refine J_block ?_
        refine J_regd 16 mixed (by kernel_rfl) (by decide) ?_
        refine st (s_fieldAddr rfl) rfl ?_
        refine st (s_loadB 0 rfl rfl rfl) rfl ?_
        refine st (s_move rfl) rfl ?_
        (refine st (s_indexON rfl rfl ?_) rfl ?_; omega)
        (refine st (s_loadE 1 rfl rfl ?_) rfl ?_; omega)
        refine st (s_move rfl) rfl ?_
        refine st (s_move rfl) rfl ?_
        refine st (s_move rfl) rfl ?_
        refine st (s_move rfl) rfl ?_
        (refine st (s_mul rfl rfl (wrap_i64 ?_ ?_)) rfl ?_; omega; omega)
        refine st (s_move rfl) rfl ?_
        (refine st (s_add rfl rfl (wrap_i64 ?_ ?_)) rfl ?_; omega; omega)
        (refine st (s_indexIN rfl rfl ?_) rfl ?_; omega)
        refine st (s_load rfl) rfl ?_
        have hv := getD_mem (i := ((i : Int) * c + j).toNat) hl (by decide)
        refine st (s_callk (rOf_ok _ hv.1 hv.2) rfl ⟨VT.le_refl _, trivial⟩) rfl ?_
        (refine st (s_indexON rfl rfl ?_) rfl ?_; omega)
        refine Run.nil ?_
        (refine a_storeR 2 rfl rfl rfl (getq ?_) ?_ rfl ?_; omega; omega)
        refine Run.nil ?_
        refine pn_block ?_
        refine pj_then ?_
        refine J_reg ?_
        refine st (s_move rfl) rfl ?_
        (refine st (s_add rfl rfl (wrap_i64 ?_ ?_)) rfl ?_; omega; omega)
        refine st (s_assign rfl) rfl ?_
        refine Run.nil ?_
        refine pj_round (s := j) (j + 1) (show _ from by omega) (by omega) (by repeat (first | exact SubG.nil | refine SubG.cons rfl (VT.le_refl _) ?_ | (refine SubG.cons rfl (one_le ?_) ?_; (congr 1; first | omega | (simp; omega) | simp)))) (.keep (Own.le_refl _) (.keep (Own.le_refl _) (.keep (upd_fill _ (by rw [toNat_mul_add])) (SubM.refl _))))
      · refine J_exit ?_
        refine px_then ?_
        refine px_then ?_
        refine px_block ?_
        refine pn_block ?_
        refine pj_then ?_
        refine J_reg ?_
        refine st (s_move rfl) rfl ?_
        (refine st (s_add rfl rfl (wrap_i64 ?_ ?_)) rfl ?_; omega; omega)
        refine st (s_assign rfl) rfl ?_
        refine Run.nil ?_
        refine pj_round (s := i) (i + 1) (show _ from by omega) (by omega) (by repeat (first | exact SubG.nil | refine SubG.cons rfl (VT.le_refl _) ?_ | (refine SubG.cons rfl (one_le ?_) ?_; (congr 1; first | omega | (simp; omega) | simp)))) (.keep (Own.le_refl _) (.keep (Own.le_refl _) (.keep (ownR_le fun q k hq hk => ?_) (SubM.refl _))))
        unfold fillF
        by_cases h : q < i ∨ (q = i ∧ k < j)
        · rw [if_pos h, if_pos (by omega)]
        · rw [if_neg h]
          by_cases h2 : q = i
          · subst h2; rw [if_pos (by omega)]
            have : l.length ≤ q * c + k := by omega
            simp [List.getD, List.getElem?_eq_none this]
          · rw [if_neg (by omega)]
  · have hin : i = r := by omega
    subst hin
    refine J_exit ?_
    refine px_then ?_
    refine px_then ?_
    refine px_block ?_
    refine pj_then ?_
    refine J_seq ?_
    refine J_reg ?_
    refine st (s_loadW 0 rfl rfl) rfl ?_
    refine a_storeW 3 rfl rfl rfl rfl ?_
    refine Run.nil ?_
    refine pj_then ?_
    refine J_ret ?_
    have hperm : ∀ (x y z u : Own), [x, y, z, u].Perm ([y, z] ++ [x, u]) := fun x y z u => (List.Perm.swap y x _).trans (List.Perm.cons y (List.Perm.swap z x _))
    refine PJ_open [outO sv1 cap1 i c bs, ownR c bs (fillF (fun n => l.getD n 0) c i 0)] (hperm _ _ _ _) (.keep (EntO.refl _) (.keep (EntO.box (newT_open hlen ⟨by simp, by simp, by simp⟩)) .nil)) (EntG.refl _) ?_
    refine retc1 Try.results28 (.cellW 1 rfl rfl ?_)
    exact matF_le fun a b ha hb => by simp [fillF, ha]
end Tor
end

section
set_option linter.unusedVariables false
set_option linter.unusedSimpArgs false
namespace Tor
open Go Go.RowKit Go.Proofs
theorem tmod10 (x : Int) : -10 < x.tmod 10 ∧ x.tmod 10 < 10 := ⟨by
  have := Int.tmod_lt_of_pos (-x) (show (0 : Int) < 10 by decide)
  rw [Int.neg_tmod] at this; omega, Int.tmod_lt_of_pos x (by decide)⟩
def dig (l : List Int) (n : Nat) : Int := (l.getD n 0).tmod 10
attribute [local irreducible] Tor.J Tor.PJ Tor.StepO Tor.one Tor.slT Tor.ptrT Tor.aggT Tor.tupT Tor.exT Tor.andT Tor.gT Tor.eP Tor.boxO Tor.sliO Tor.slV Tor.VT.le Tor.Ret Tor.anyT
attribute [local irreducible] bigT Tor.rowsO
set_option maxHeartbeats 2000000 in
theorem rFilledM_ok (r c : Nat) (l : List Int) (hr0 : r ≤ 16) (hc0 : c ≤ 16) : OkM Try.prog 7 [one (.int .i64 r), one (.int .i64 c), numT .i8 l] (newT r c) (fun s => [outO s.1.2.1 s.1.2.2 r c s.1.1, ownR c s.1.1 (fun i j => dig l (i * c + j))]) := by
  unfold numT
  refine OkM.enter Try.func7 rfl Try.ntmps7 rfl (fun w O => ?_)
  refine J_seq ?_
  refine J_reg ?_
  refine a_allocS (T := 29) rfl rfl rfl (fun b => ?_)
  refine Run.nil ?_
  refine pj_then ?_
  refine J_seq ?_
  refine J_reg ?_
  refine st (s_move rfl) rfl ?_
  refine st (s_max rfl rfl) rfl ?_
  refine st (s_min rfl rfl) rfl ?_
  refine st (s_move rfl) rfl ?_
  refine st (s_max rfl rfl) rfl ?_
  refine st (s_min rfl rfl) rfl ?_
  refine a_callM (rNew_ok r c (by omega) (by omega)) rfl ⟨one_le (by congr 1; omega), one_le (by congr 1; omega), trivial⟩ rfl rfl (fun s => ?_)
  obtain ⟨⟨bs, sv1, cap1⟩, hlen, hsv⟩ := s
  simp only at hlen hsv
  unfold newT
  refine a_allocS (T := 29) rfl rfl rfl (fun b => ?_)
  refine a_storeW 0 rfl rfl rfl rfl ?_
  refine Run.nil ?_
  refine pj_then ?_
  refine J_seq ?_
  refine J_seq ?_
  refine J_reg ?_
  refine st (s_assign rfl) rfl ?_
  refine Run.nil ?_
  refine pj_then ?_
  refine J_block ?_
  rename_i b2
  refine J_loop (σ := Nat) (fun i => [(2, slT .one l.length (fun i => one (.int .i8 (l.getD i 0)))), (6, one (.pointer (some ⟨b2, 0, none⟩))), (7, one (.pointer (some ⟨b, 0, none⟩))), (8, one (.int .i64 (i : Nat)))])
    (fun i => [boxO b 29 3 [(0, .one, one (.int .i64 r)), (1, .one, one (.int .i64 c)), (2, .one, one (slV sv1 r cap1))], outO sv1 cap1 r c bs, ownR c bs (fillF (dig l) c i 0),
      boxO b2 29 3 (zeroC #[Value.int IntKind.i64 0, Value.int IntKind.i64 0, Value.slice none 0 0] [(0, Lay.one), (1, Lay.one), (2, Lay.one)])])
    (fun i => i ≤ r) (fun i => r - i) 0 (Nat.zero_le _) (by repeat (first | exact SubG.nil | refine SubG.cons rfl (VT.le_refl _) ?_ | (refine SubG.cons rfl (one_le ?_) ?_; (congr 1; first | omega | (simp; omega) | simp)))) (.keep (Own.le_refl _) (.keep (Own.le_refl _) (.keep (ownR_le fun i j hi hj => by simp [fillF]) (SubM.refl _)))) (fun i hi => ?_)
  refine J_seq ?_
  refine J_seq ?_
  refine J_reg ?_
  refine st (s_move rfl) rfl ?_
  refine st (s_fieldAddr rfl) rfl ?_
  refine st (s_loadB 0 rfl rfl rfl) rfl ?_
  refine st (s_lt rfl rfl) rfl ?_
  refine Run.nil ?_
  refine pj_then ?_
  refine J_cond rfl (fun hc => ?_) (fun hc => ?_) <;> simp at hc
  · have hir : i < r := by omega
    obtain ⟨bo, rfl⟩ := sv_some hsv (by omega)
    refine J_skip ?_
    refine pj_then ?_
    refine J_seq ?_
    refine J_block ?_
    refine J_seq ?_
    refine J_reg ?_
    refine st (s_assign rfl) rfl ?_
    refine Run.nil ?_
    refine pj_then ?_
    refine J_block ?_
    refine J_loop (σ := Nat) (fun j => [(2, slT .one l.length (fun i => one (.int .i8 (l.getD i 0)))), (6, one (.pointer (some ⟨b2, 0, none⟩))), (7, one (.pointer (some ⟨b, 0, none⟩))), (8, one (.int .i64 (i : Nat))), (9, one (.int .i64 (j : Nat)))])
      (fun j => [boxO b 29 3 [(0, .one, one (.int .i64 r)), (1, .one, one (.int .i64 c)), (2, .one, one (slV (some bo) r cap1))], outO (some bo) cap1 r c bs, ownR c bs (fillF (dig l) c i j),
      boxO b2 29 3 (zeroC #[Value.int IntKind.i64 0, Value.int IntKind.i64 0, Value.slice none 0 0] [(0, Lay.one), (1, Lay.one), (2, Lay.one)])])
      (fun j => j ≤ c) (fun j => c - j) 0 (Nat.zero_le _) (by repeat (first | exact SubG.nil | refine SubG.cons rfl (VT.le_refl _) ?_ | (refine SubG.cons rfl (one_le ?_) ?_; (congr 1; first | omega | (simp; omega) | simp)))) (SubM.refl _) (fun j hj => ?_)
    have hm : i * c ≤ 16 * 16 := Nat.mul_le_mul (by omega) hc0
    have hm2 : (i : Int) * c ≤ 256 := by omega
    have hm3 : 0 ≤ (i : Int) * c := by have := Nat.zero_le (i * c); omega
    refine J_seq (J_seq ?_)
    refine J_join (σ := Unit) (fun _ => [(2, slT .one l.length (fun i => one (.int .i8 (l.getD i 0)))), (6, one (.pointer (some ⟨b2, 0, none⟩))), (7, one (.pointer (some ⟨b, 0, none⟩))), (8, one (.int .i64 (i : Nat))), (9, one (.int .i64 (j : Nat))), (37, one (.bool (decide (j < c ∧ i * c + j < l.length))))])
      (fun _ => [boxO b 29 3 [(0, .one, one (.int .i64 r)), (1, .one, one (.int .i64 c)), (2, .one, one (slV (some bo) r cap1))], outO (some bo) cap1 r c bs, ownR c bs (fillF (dig l) c i j),
      boxO b2 29 3 (zeroC #[Value.int IntKind.i64 0, Value.int IntKind.i64 0, Value.slice none 0 0] [(0, Lay.one), (1, Lay.one), (2, Lay.one)])]) (fun _ => True) ?_ (fun _ _ => ?_)
    · refine J_reg ?_
      refine st (s_move rfl) rfl ?_
      refine st (s_fieldAddr rfl) rfl ?_
      refine st (s_loadB 0 rfl rfl rfl) rfl ?_
      refine st (s_lt rfl rfl) rfl ?_
      refine st (s_move rfl) rfl ?_
      refine bsel (t := 27) rfl (fun b h1 => ?_)
      rw [h1]
      cases b
      · simp at h1
        refine sg0 rfl rfl rfl rfl ?_
        refine sg0 rfl rfl rfl rfl ?_
        refine sg0 rfl rfl rfl rfl ?_
        refine sg0 rfl rfl rfl rfl ?_
        refine sg0 rfl rfl rfl rfl ?_
        refine sg0 rfl rfl rfl rfl ?_
        refine sg0 rfl rfl rfl rfl ?_
        refine sg0 rfl rfl rfl rfl ?_
        refine sg0 rfl rfl rfl rfl ?_
        refine st (s_pickF rfl rfl) rfl ?_
        refine Run.nil ?_
        refine pj_cut () trivial (.cons rfl (VT.le_refl _) (.cons rfl (VT.le_refl _) (.cons rfl (VT.le_refl _) (.cons rfl (VT.le_refl _) (.cons rfl (VT.le_refl _) (.cons rfl (one_le ?_) .nil)))))) (SubM.refl _)
        congr 1; symm; rw [decide_eq_false_iff_not]; omega
      · simp at h1
        refine sg1 rfl rfl (s_move rfl) rfl ?_
        refine sg1 rfl rfl (s_fieldAddr rfl) rfl ?_
        refine sg1 rfl rfl (s_loadB 0 rfl rfl rfl) rfl ?_
        (refine sg1 rfl rfl (s_mul rfl rfl (wrap_i64 ?_ ?_)) rfl ?_; omega; omega)
        refine sg1 rfl rfl (s_move rfl) rfl ?_
        (refine sg1 rfl rfl (s_add rfl rfl (wrap_i64 ?_ ?_)) rfl ?_; omega; omega)
        refine sg1 rfl rfl (s_move rfl) rfl ?_
        refine sg1 rfl rfl (s_len rfl) rfl ?_
        refine sg1 rfl rfl (s_lt rfl rfl) rfl ?_
        refine st (s_pickT rfl rfl) rfl ?_
        refine Run.nil ?_
        refine pj_cut () trivial (.cons rfl (VT.le_refl _) (.cons rfl (VT.le_refl _) (.cons rfl (VT.le_refl _) (.cons rfl (VT.le_refl _) (.cons rfl (VT.le_refl _) (.cons rfl (one_le ?_) .nil)))))) (SubM.refl _)
        congr 1; rw [decide_eq_decide]
        have : ((i * c : Nat) : Int) = (i : Int) * c := by simp
        omega
    · refine pj_then ?_
      refine J_cond rfl (fun hc2 => ?_) (fun hc2 => ?_) <;> simp only [decide_eq_true_eq, decide_eq_false_iff_not] at hc2
      · have hm4 : ((i * c : Nat) : Int) = (i : Int) * c := by simp
        refine J_skip ?_
        refine pj_then ?_
        refine J_seq ?_
        refine J_block ?_
        refine J_regd 19 mixed (by kernel_rfl) (by decide) ?_
        refine st (s_fieldAddr rfl) rfl ?_
        refine st (s_loadB 0 rfl rfl rfl) rfl ?_
        refine st (s_move rfl) rfl ?_
        (refine st (s_indexON rfl rfl ?_) rfl ?_; omega)
        (refine st (s_loadE 1 rfl rfl ?_) rfl ?_; omega)
        refine st (s_move rfl) rfl ?_
        refine st (s_move rfl) rfl ?_
        refine st (s_move rfl) rfl ?_
        refine st (s_fieldAddr rfl) rfl ?_
        refine st (s_loadB 0 rfl rfl rfl) rfl ?_
        (refine st (s_mul rfl rfl (wrap_i64 ?_ ?_)) rfl ?_; omega; omega)
        refine st (s_move rfl) rfl ?_
        (refine st (s_add rfl rfl (wrap_i64 ?_ ?_)) rfl ?_; omega; omega)
        (refine st (s_indexIN rfl rfl ?_) rfl ?_; omega)
        refine st (s_load rfl) rfl ?_
        refine st (s_rem rfl rfl (by decide) rfl) rfl ?_
        have hv := tmod10 (l.getD (i * c + j) 0)
        refine st (s_toI64 rfl ?_ ?_) rfl ?_; · omega
        · omega
        refine st (s_callk (rOf_ok _ (by omega) (by omega)) rfl ⟨VT.le_refl _, trivial⟩) rfl ?_
        (refine st (s_indexON rfl rfl ?_) rfl ?_; omega)
        refine Run.nil ?_
        (refine a_storeR 2 rfl rfl rfl (getq ?_) ?_ rfl ?_; omega; omega)
        refine Run.nil ?_
        refine pn_block ?_
        refine pj_then ?_
        refine J_reg ?_
        refine st (s_move rfl) rfl ?_
        (refine st (s_add rfl rfl (wrap_i64 ?_ ?_)) rfl ?_; omega; omega)
        refine st (s_assign rfl) rfl ?_
        refine Run.nil ?_
        refine pj_round (s := j) (j + 1) (show _ from by omega) (by omega) (by repeat (first | exact SubG.nil | refine SubG.cons rfl (VT.le_refl _) ?_ | (refine SubG.cons rfl (one_le ?_) ?_; (congr 1; first | omega | (simp; omega) | simp)))) (.keep (Own.le_refl _) (.keep (Own.le_refl _) (.keep (upd_fill _ rfl) (SubM.refl _))))
      · refine J_exit ?_
        refine px_then ?_
        refine px_then ?_
        refine px_block ?_
        refine pn_block ?_
        refine pj_then ?_
        refine J_reg ?_
        refine st (s_move rfl) rfl ?_
        (refine st (s_add rfl rfl (wrap_i64 ?_ ?_)) rfl ?_; omega; omega)
        refine st (s_assign rfl) rfl ?_
        refine Run.nil ?_
        refine pj_round (s := i) (i + 1) (show _ from by omega) (by omega) (by repeat (first | exact SubG.nil | refine SubG.cons rfl (VT.le_refl _) ?_ | (refine SubG.cons rfl (one_le ?_) ?_; (congr 1; first | omega | (simp; omega) | simp)))) (.keep (Own.le_refl _) (.keep (Own.le_refl _) (.keep (ownR_le fun q k hq hk => ?_) (SubM.refl _))))
        unfold fillF
        by_cases h : q < i ∨ (q = i ∧ k < j)
        · rw [if_pos h, if_pos (by omega)]
        · rw [if_neg h]
          by_cases h2 : q = i
          · subst h2; rw [if_pos (by omega)]
            have : l.length ≤ q * c + k := by omega
            simp [dig, List.getD, List.getElem?_eq_none this]
          · rw [if_neg (by omega)]
  · have hin : i = r := by omega
    subst hin
    refine J_exit ?_
    refine px_then ?_
    refine px_then ?_
    refine px_block ?_
    refine pj_then ?_
    refine J_seq ?_
    refine J_reg ?_
    refine st (s_loadW 0 rfl rfl) rfl ?_
    refine a_storeW 3 rfl rfl rfl rfl ?_
    refine Run.nil ?_
    refine pj_then ?_
    refine J_ret ?_
    refine retM1 ⟨(bs, sv1, cap1), hlen, hsv⟩ Try.results7 (.cellW 3 rfl rfl ?_) ?_
    · show VT.le _ (newT i c _)
      unfold newT
      exact VT.le_refl _
    · refine .drop (.keep (Own.le_refl _) (.keep (ownR_le fun a b ha hb => ?_) (.drop .nil)))
      have : a < i := by have : a < bs.length := ha; omega
      simp [fillF, this]
theorem newT_mat {r c : Nat} (F : Nat → Nat → Int) (s : NewS r) : Ent [outO s.1.2.1 s.1.2.2 r c s.1.1, ownR c s.1.1 F] (newT r c s) (matF r c F) := by
  unfold newT matF
  exact Ent.agg (newT_open s.2.1 ⟨by simp, by simp, by simp⟩)
theorem rFilled_ok (r c : Nat) (l : List Int) (hr0 : r ≤ 16) (hc0 : c ≤ 16) : Ok Try.prog 7 [one (.int .i64 r), one (.int .i64 c), numT .i8 l] (matF r c (fun i j => dig l (i * c + j))) :=
  (rFilledM_ok r c l hr0 hc0).ok fun s => newT_mat _ s
end Tor
end

section
set_option linter.unusedVariables false
set_option linter.unusedSimpArgs false
namespace Tor
open Go Go.RowKit Go.Proofs
instance {neg : Bool} {l : List Nat} : Flat (rawT neg l) (.agg 2) := by unfold rawT; infer_instance
theorem rawT_bound {neg : Bool} {l : List Nat} {v : Value} {h : Hp} (H : (rawT neg l).p v h) : l.length ≤ 281474976710656 := by
  obtain ⟨c, _, _, _, h4⟩ := H
  obtain ⟨x, _, hp⟩ := h4 _ (List.mem_cons_of_mem _ List.mem_cons_self)
  exact slT_bound hp
theorem rawMatT_bound {r c : Int} {a : List RawV} {v : Value} {h : Hp} (H : (rawMatT r c a).p v h) : a.length ≤ 2 ^ 48 := by
  obtain ⟨c, _, _, _, h4⟩ := H
  obtain ⟨x, _, hp⟩ := h4 _ (List.mem_cons_of_mem _ (List.mem_cons_of_mem _ List.mem_cons_self))
  exact slT_bound hp
def rawTab (r c : Nat) (F : Nat → Nat → Int) : List RawV := (tab r c F).map (·.map rawOf)
theorem matF_raw (r c : Nat) (F : Nat → Nat → Int) : VT.le (matF r c F) (rawMatT r c (rawTab r c F)) := by
  refine VT.le_trans (matF_mat r c F) ?_
  unfold matT rawMatT
  refine aggT_le (fun q hq => ?_)
  rcases List.mem_cons.1 hq with rfl | hq
  · exact ⟨_, List.mem_cons_self, VT.le_refl _⟩
  rcases List.mem_cons.1 hq with rfl | hq
  · exact ⟨_, List.mem_cons_of_mem _ List.mem_cons_self, VT.le_refl _⟩
  rcases List.mem_cons.1 hq with rfl | hq
  · refine ⟨_, List.mem_cons_of_mem _ (List.mem_cons_of_mem _ List.mem_cons_self), ?_⟩
    unfold rowsT rawRowsT rawTab
    refine VT.le_trans (slT_le (ψ := fun i => rawVecT (((tab r c F).map (·.map rawOf)).getD i [])) (fun i hi => ?_)) (le_eq (by simp))
    refine VT.le_trans (vecT_raw _) (le_eq ?_)
    simp [List.getD, List.getElem?_eq_getElem hi]
  · cases hq
theorem validM_tab (r c : Nat) (F : Nat → Nat → Int) : validM r c (rawTab r c F) = true := by
  unfold validM rawTab
  simp only [List.length_map, tab_length, Bool.and_eq_true, decide_eq_true_eq, List.all_map]
  refine ⟨⟨by omega, by omega, trivial⟩, ?_⟩
  rw [List.all_eq_true]
  intro x hx
  simp only [tab, List.mem_map, List.mem_range] at hx
  obtain ⟨i, hi, rfl⟩ := hx
  simp only [validV, Function.comp, List.length_map, List.length_range, List.all_map, Bool.and_eq_true, decide_eq_true_eq]
  refine ⟨trivial, ?_⟩
  rw [List.all_eq_true]
  intro y hy
  exact validI_big _
attribute [local irreducible] Tor.J Tor.PJ Tor.StepO Tor.one Tor.slT Tor.ptrT Tor.aggT Tor.tupT Tor.exT Tor.andT Tor.gT Tor.eP Tor.boxO Tor.sliO Tor.slV Tor.VT.le Tor.Ret Tor.anyT
set_option maxHeartbeats 1000000 in
theorem Valid_ok (neg : Bool) (l : List Nat) : Ok Try.prog 67 [rawT neg l] (one (.bool (validI neg l))) := by
  refine Ok.enter Try.func67 rfl Try.ntmps67 rfl (fun w O => ?_)
  refine J_fact (t := 0) rfl (fun _ _ => rawT_bound) (fun hl => ?_)
  unfold rawT
  by_cases h0 : l.length = 0
  · refine J_seq ?_
    refine J_reg ?_
    refine a_boxS rfl rfl (ltN rfl) (fun b => ?_)
    refine st (s_assign rfl) rfl ?_
    refine Run.nil ?_
    refine pj_then ?_
    refine J_seq ?_
    refine J_seq ?_
    refine J_reg ?_
    refine st (s_fieldAddr rfl) rfl ?_
    refine st (s_loadB 0 rfl rfl rfl) rfl ?_
    refine st (s_len rfl) rfl ?_
    refine st (s_assign rfl) rfl ?_
    refine Run.nil ?_
    refine pj_then ?_
    refine J_seq ?_
    refine J_reg ?_
    refine st (s_move rfl) rfl ?_
    refine st (s_gt rfl rfl) rfl ?_
    refine Run.nil ?_
    refine pj_then ?_
    refine J_cond rfl (fun hc => ?_) (fun hc => ?_) <;> simp only [decide_eq_true_eq, decide_eq_false_iff_not, ne_eq, Decidable.not_not] at hc
    · omega
    · refine J_skip ?_
      refine pj_then ?_
      refine J_seq ?_
      refine J_reg ?_
      refine st (s_fieldAddr rfl) rfl ?_
      refine st (s_loadB 0 rfl rfl rfl) rfl ?_
      refine st (s_not rfl) rfl ?_
      refine st (s_assign rfl) rfl ?_
      refine Run.nil ?_
      refine pj_then ?_
      refine J_ret ?_
      exact retc1 Try.results67 (.tmp rfl (one_le (by unfold validI; rw [if_pos h0])))
  · refine J_seq ?_
    refine J_reg ?_
    refine a_boxS rfl rfl (ltN rfl) (fun b => ?_)
    refine st (s_assign rfl) rfl ?_
    refine Run.nil ?_
    refine pj_then ?_
    refine J_seq ?_
    refine J_seq ?_
    refine J_reg ?_
    refine st (s_fieldAddr rfl) rfl ?_
    refine st (s_loadB 0 rfl rfl rfl) rfl ?_
    refine st (s_len rfl) rfl ?_
    refine st (s_assign rfl) rfl ?_
    refine Run.nil ?_
    refine pj_then ?_
    refine J_seq ?_
    refine J_reg ?_
    refine st (s_move rfl) rfl ?_
    refine st (s_gt rfl rfl) rfl ?_
    refine Run.nil ?_
    refine pj_then ?_
    refine J_cond rfl (fun hc => ?_) (fun hc => ?_) <;> simp only [decide_eq_true_eq, decide_eq_false_iff_not, ne_eq, Decidable.not_not] at hc
    · refine J_seq ?_
      refine J_reg ?_
      refine st (s_fieldAddr rfl) rfl ?_
      refine st (s_loadB 0 rfl rfl rfl) rfl ?_
      refine st (s_move rfl) rfl ?_
      (refine st (s_sub rfl rfl (wrap_i64 ?_ ?_)) rfl ?_; omega; omega)
      (refine st (s_indexI rfl rfl ?_ ?_) rfl ?_; omega; omega)
      refine st (s_load rfl) rfl ?_
      refine st (s_ne rfl rfl) rfl ?_
      refine st (s_assign rfl) rfl ?_
      refine Run.nil ?_
      refine pj_then ?_
      refine J_ret ?_
      refine pr_then ?_
      refine retc1 Try.results67 (.tmp rfl (one_le ?_))
      have e : (↑l.length - 1 : Int).toNat = l.length - 1 := by omega
      unfold validI; rw [if_neg h0, e]; congr 1; rw [decide_eq_decide]; omega
    · omega
attribute [local irreducible] bigT rawT
attribute [local irreducible] rawVecT
set_option maxHeartbeats 2000000 in
theorem matValid_ok (r c : Int) (a : List RawV) : Ok Try.prog 39 [rawMatT r c a] (one (.bool (validM r c a))) := by
  refine Ok.enter Try.func39 rfl Try.ntmps39 rfl (fun w O => ?_)
  refine J_fact (t := 0) rfl (fun _ _ => rawMatT_bound) (fun ha => ?_)
  unfold rawMatT
  unfold rawRowsT
  refine J_seq ?_
  refine J_reg ?_
  refine a_boxS rfl rfl (ltN rfl) (fun b => ?_)
  refine st (s_assign rfl) rfl ?_
  refine Run.nil ?_
  refine pj_then ?_
  refine J_seq ?_
  refine J_seq ?_
  refine J_reg ?_
  refine st (s_fieldAddr rfl) rfl ?_
  refine st (s_loadB 0 rfl rfl rfl) rfl ?_
  refine st (s_lt rfl rfl) rfl ?_
  refine st (s_move rfl) rfl ?_
  refine bsel (t := 10) rfl (fun bo hb => ?_)
  rw [hb]
  cases bo
  · have e1 : 0 ≤ r := by simpa using hb
    refine sg1 rfl rfl (s_fieldAddr rfl) rfl ?_
    refine sg1 rfl rfl (s_loadB 0 rfl rfl rfl) rfl ?_
    refine sg1 rfl rfl (s_lt rfl rfl) rfl ?_
    refine st (s_pickF rfl rfl) rfl ?_
    refine st (s_move rfl) rfl ?_
    refine bsel (t := 15) rfl (fun bo hb2 => ?_)
    rw [hb2]
    cases bo
    · have e2 : 0 ≤ c := by simpa using hb2
      refine sg1 rfl rfl (s_fieldAddr rfl) rfl ?_
      refine sg1 rfl rfl (s_loadB 0 rfl rfl rfl) rfl ?_
      refine sg1 rfl rfl (s_len rfl) rfl ?_
      refine sg1 rfl rfl (s_fieldAddr rfl) rfl ?_
      refine sg1 rfl rfl (s_loadB 0 rfl rfl rfl) rfl ?_
      refine sg1 rfl rfl (s_ne rfl rfl) rfl ?_
      refine st (s_pickF rfl rfl) rfl ?_
      refine Run.nil ?_
      refine pj_then ?_
      refine J_cond rfl (fun hc => ?_) (fun hc => ?_) <;> simp only [decide_eq_true_eq, decide_eq_false_iff_not, ne_eq, Decidable.not_not] at hc
      · refine J_seq ?_
        refine J_reg ?_
        refine st (s_assign rfl) rfl ?_
        refine Run.nil ?_
        refine pj_then ?_
        refine J_ret ?_
        refine pr_then ?_
        refine retc1 Try.results39 (.tmp rfl (one_le ?_))
        simp [validM, hc]
      · have e3 : (a.length : Int) = r := hc
        refine J_skip ?_
        refine pj_then ?_
        refine J_seq ?_
        refine J_seq ?_
        refine J_reg ?_
        refine st (s_fieldAddr rfl) rfl ?_
        refine st (s_loadB 0 rfl rfl rfl) rfl ?_
        refine st (s_len rfl) rfl ?_
        refine st (s_move rfl) rfl ?_
        refine Run.nil ?_
        refine pj_then ?_
        refine J_block ?_
        refine J_loop (σ := Nat) (fun i => [(1, one (.pointer (some ⟨b, 0, none⟩))), (24, rawRowsT a), (25, one (.int .i64 a.length)), (26, one (.int .i64 (i : Nat)))])
          (fun _ => [boxO b 29 3 [(0, .one, one (.int .i64 r)), (1, .one, one (.int .i64 c)), (2, .one, rawRowsT a)]])
          (fun i => i ≤ a.length ∧ (a.take i).all (validV c) = true) (fun i => a.length - i) 0 ⟨Nat.zero_le _, rfl⟩ (by repeat (first | exact SubG.nil | refine SubG.cons rfl (VT.le_refl _) ?_ | (refine SubG.cons rfl (one_le ?_) ?_; (congr 1; first | omega | (simp; omega) | simp)))) (SubM.refl _) (fun i ⟨hi, ht⟩ => ?_)
        unfold rawRowsT
        refine J_seq ?_
        refine J_reg ?_
        refine st (s_lt rfl rfl) rfl ?_
        refine Run.nil ?_
        refine pj_then ?_
        refine J_seq ?_
        refine J_cond rfl (fun hc => ?_) (fun hc => ?_) <;> simp at hc
        · refine J_skip ?_
          refine pj_then ?_
          refine J_seq ?_
          refine J_block ?_
          refine J_seq ?_
          refine J_reg ?_
          (refine st (s_indexIN rfl rfl ?_) rfl ?_; omega)
          refine st (s_load rfl) rfl ?_
          refine st (s_assign rfl) rfl ?_
          refine Run.nil ?_
          refine pj_then ?_
          refine J_seq ?_
          refine J_seq ?_
          refine J_reg ?_
          refine st (s_move rfl) rfl ?_
          unfold rawVecT
          refine st (s_len rfl) rfl ?_
          refine st (s_fieldAddr rfl) rfl ?_
          refine st (s_loadB 0 rfl rfl rfl) rfl ?_
          refine st (s_ne rfl rfl) rfl ?_
          refine Run.nil ?_
          refine pj_then ?_
          refine J_cond rfl (fun hc2 => ?_) (fun hc2 => ?_) <;> simp only [decide_eq_true_eq, decide_eq_false_iff_not, ne_eq, Decidable.not_not] at hc2
          · refine J_seq ?_
            refine J_reg ?_
            refine st (s_assign rfl) rfl ?_
            refine Run.nil ?_
            refine pj_then ?_
            refine J_ret ?_
            refine pr_then ?_
            refine pr_block ?_
            refine pr_then ?_
            refine pr_then ?_
            refine pr_block ?_
            refine pr_then ?_
            refine retc1 Try.results39 (.tmp rfl (one_le ?_))
            have := notAll (p := validV c) (d := []) hc (by simp only [validV, Bool.and_eq_false_iff]; left; simpa using hc2)
            simp [validM, this]
          · refine J_fact (t := 29) rfl (fun _ _ => slT_bound) (fun hlb => ?_)
            refine J_skip ?_
            refine pj_then ?_
            refine J_seq ?_
            refine J_reg ?_
            refine st (s_move rfl) rfl ?_
            refine st (s_len rfl) rfl ?_
            refine st (s_move rfl) rfl ?_
            refine Run.nil ?_
            refine pj_then ?_
            refine J_block ?_
            refine J_loop (σ := Nat) (fun j => [(1, one (.pointer (some ⟨b, 0, none⟩))), (24, rawRowsT a), (25, one (.int .i64 a.length)), (26, one (.int .i64 (i : Nat))), (35, rawVecT (a.getD i [])), (36, one (.int .i64 (a.getD i []).length)), (37, one (.int .i64 (j : Nat)))])
              (fun _ => [boxO b 29 3 [(0, .one, one (.int .i64 r)), (1, .one, one (.int .i64 c)), (2, .one, rawRowsT a)]])
              (fun j => j ≤ (a.getD i []).length ∧ ((a.getD i []).take j).all (fun p => validI p.1 p.2) = true) (fun j => (a.getD i []).length - j) 0 ⟨Nat.zero_le _, rfl⟩ (by unfold rawRowsT rawVecT; repeat (first | exact SubG.nil | refine SubG.cons rfl (VT.le_refl _) ?_ | (refine SubG.cons rfl (one_le ?_) ?_; (congr 1; first | omega | (simp; omega) | simp)))) (by unfold rawRowsT rawVecT; exact SubM.refl _) (fun j ⟨hj, hu⟩ => ?_)
            unfold rawRowsT rawVecT
            refine J_seq ?_
            refine J_reg ?_
            refine st (s_lt rfl rfl) rfl ?_
            refine Run.nil ?_
            refine pj_then ?_
            refine J_seq ?_
            refine J_cond rfl (fun hc3 => ?_) (fun hc3 => ?_) <;> simp only [decide_eq_true_eq, decide_eq_false_iff_not, Int.ofNat_lt] at hc3
            · refine J_skip ?_
              refine pj_then ?_
              refine J_seq ?_
              refine J_block ?_
              refine J_seq ?_
              refine J_reg ?_
              (refine st (s_indexIN rfl rfl ?_) rfl ?_; omega)
              refine st (s_load rfl) rfl ?_
              refine a_alloc (T := 34) rfl (ltN rfl) (fun b => ?_)
              refine a_storeB 0 rfl rfl rfl rfl rfl (leN rfl) rfl ?_
              refine Run.nil ?_
              refine pj_then ?_
              refine J_seq ?_
              refine J_reg ?_
              refine st (s_loadB 0 rfl rfl rfl) rfl ?_
              refine st (s_callk (Valid_ok ((a.getD i []).getD j (false, [])).1 ((a.getD i []).getD j (false, [])).2) rfl ⟨VT.le_refl _, trivial⟩) rfl ?_
              refine st (s_not rfl) rfl ?_
              refine Run.nil ?_
              refine pj_then ?_
              refine J_cond rfl (fun hc4 => ?_) (fun hc4 => ?_)
              · refine J_seq ?_
                refine J_reg ?_
                refine st (s_assign rfl) rfl ?_
                refine Run.nil ?_
                refine pj_then ?_
                refine J_ret ?_
                refine pr_block ?_
                refine pr_then ?_
                refine pr_then ?_
                refine pr_block ?_
                refine pr_block ?_
                refine pr_then ?_
                refine pr_then ?_
                refine pr_block ?_
                refine pr_then ?_
                refine retc1 Try.results39 (.tmp rfl (one_le ?_))
                have h1 := notAll (p := fun p : Bool × List Nat => validI p.1 p.2) (d := (false, [])) (v := a.getD i []) hc3 (by simpa using hc4)
                have h2 := notAll (p := validV c) (d := []) hc (by simp only [validV, Bool.and_eq_false_iff]; right; exact h1)
                simp [validM, h2]
              · refine J_skip ?_
                refine pn_block ?_
                refine pj_then ?_
                refine J_reg ?_
                (refine st (s_add rfl rfl (wrap_i64 ?_ ?_)) rfl ?_; omega; omega)
                refine st (s_move rfl) rfl ?_
                refine Run.nil ?_
                exact pj_round (s := j) (j + 1) ⟨by omega, takeAll (d := (false, [])) hu hc3 (by simpa using hc4)⟩ (by show (a.getD i []).length - (j + 1) < (a.getD i []).length - j; omega) (by repeat (first | exact SubG.nil | refine SubG.cons rfl (VT.le_refl _) ?_ | (refine SubG.cons rfl (one_le ?_) ?_; (congr 1; first | omega | (simp; omega) | simp)))) (.drop (SubM.refl _))
            · refine J_exit ?_
              refine px_then ?_
              refine px_then ?_
              refine px_block ?_
              refine pn_block ?_
              refine pj_then ?_
              refine J_reg ?_
              (refine st (s_add rfl rfl (wrap_i64 ?_ ?_)) rfl ?_; omega; omega)
              refine st (s_move rfl) rfl ?_
              refine Run.nil ?_
              rw [List.take_of_length_le (by omega)] at hu
              exact pj_round (s := i) (i + 1) ⟨by omega, takeAll (d := []) ht hc (by simp only [validV, Bool.and_eq_true]; exact ⟨by simpa using hc2, hu⟩)⟩ (by show a.length - (i + 1) < a.length - i; omega) (by repeat (first | exact SubG.nil | refine SubG.cons rfl (VT.le_refl _) ?_ | (refine SubG.cons rfl (one_le ?_) ?_; (congr 1; first | omega | (simp; omega) | simp)))) (SubM.refl _)
        · refine J_exit ?_
          refine px_then ?_
          refine px_then ?_
          refine px_block ?_
          refine pj_then ?_
          refine J_seq ?_
          refine J_reg ?_
          refine st (s_assign rfl) rfl ?_
          refine Run.nil ?_
          refine pj_then ?_
          refine J_ret ?_
          refine retc1 Try.results39 (.tmp rfl (one_le ?_))
          rw [List.take_of_length_le (by omega)] at ht
          simp [validM, ht, e1, e2, e3]
    · have e2 : ¬ (0 ≤ r ∧ 0 ≤ c) := by simp at hb2; omega
      refine sg0 rfl rfl rfl rfl ?_
      refine sg0 rfl rfl rfl rfl ?_
      refine sg0 rfl rfl rfl rfl ?_
      refine sg0 rfl rfl rfl rfl ?_
      refine sg0 rfl rfl rfl rfl ?_
      refine sg0 rfl rfl rfl rfl ?_
      refine st (s_pickT rfl rfl) rfl ?_
      refine Run.nil ?_
      refine pj_then ?_
      refine J_cond rfl (fun hc => ?_) (fun hc => ?_)
      · refine J_seq ?_
        refine J_reg ?_
        refine st (s_assign rfl) rfl ?_
        refine Run.nil ?_
        refine pj_then ?_
        refine J_ret ?_
        refine pr_then ?_
        refine retc1 Try.results39 (.tmp rfl (one_le ?_))
        simp only [validM]; rw [decide_eq_false (by omega)]; rfl
      · cases hc
  · have e1 : ¬ 0 ≤ r := by simpa using hb
    refine sg0 rfl rfl rfl rfl ?_
    refine sg0 rfl rfl rfl rfl ?_
    refine sg0 rfl rfl rfl rfl ?_
    refine st (s_pickT rfl rfl) rfl ?_
    refine st (s_move rfl) rfl ?_
    refine sg0 rfl rfl rfl rfl ?_
    refine sg0 rfl rfl rfl rfl ?_
    refine sg0 rfl rfl rfl rfl ?_
    refine sg0 rfl rfl rfl rfl ?_
    refine sg0 rfl rfl rfl rfl ?_
    refine sg0 rfl rfl rfl rfl ?_
    refine st (s_pickT rfl rfl) rfl ?_
    refine Run.nil ?_
    refine pj_then ?_
    refine J_cond rfl (fun hc => ?_) (fun hc => ?_)
    · refine J_seq ?_
      refine J_reg ?_
      refine st (s_assign rfl) rfl ?_
      refine Run.nil ?_
      refine pj_then ?_
      refine J_ret ?_
      refine pr_then ?_
      refine retc1 Try.results39 (.tmp rfl (one_le ?_))
      simp [validM, e1]
    · cases hc
end Tor
end

section
set_option linter.unusedVariables false
set_option linter.unusedSimpArgs false
namespace Tor
open Go Go.RowKit Go.Proofs
def small (x : Int) : Prop := (digs x.natAbs).length ≤ 1099511627776
theorem small_lt {x : Int} (h : x.natAbs < 2 ^ 2048) : small x := by
  have : (digs x.natAbs).length ≤ 64 := digs_len_le (Nat.lt_of_lt_of_le h (by decide +kernel))
  unfold small; omega
theorem AddI_ok (x y : Int) (hx : small x) (hy : small y) : Ok Try.prog 37 [bigT x, bigT y] (bigT (x + y)) := by
  have h := Add_ok (decide (x < 0)) (decide (y < 0)) x.natAbs y.natAbs hx hy
  rw [sv_big, sv_big] at h
  exact h.le ⟨bigT_sg _, bigT_sg _, trivial⟩ (VT.le_refl _)
theorem SubI_ok (x y : Int) (hx : small x) (hy : small y) : Ok Try.prog 94 [bigT x, bigT y] (bigT (x - y)) := by
  have h := Sub_ok (decide (x < 0)) (decide (y < 0)) x.natAbs y.natAbs hx hy
  rw [sv_big, sv_big] at h
  exact h.le ⟨bigT_sg _, bigT_sg _, trivial⟩ (VT.le_refl _)
theorem MulI_ok (x y : Int) (hx : small x) (hy : small y) : Ok Try.prog 93 [bigT x, bigT y] (bigT (x * y)) := by
  have h := Mul_ok (decide (x < 0)) (decide (y < 0)) x.natAbs y.natAbs hx hy
  rw [sv_big, sv_big] at h
  exact h.le ⟨bigT_sg _, bigT_sg _, trivial⟩ (VT.le_refl _)
theorem SignI_ok (x : Int) : Ok Try.prog 50 [bigT x] (one (.int .i64 (sgnI x))) := by
  have h := Sign_ok (decide (x < 0)) x.natAbs
  rw [sv_big] at h
  exact h.le ⟨bigT_sg _, trivial⟩ (VT.le_refl _)
theorem rAddI_ok (x y : Int) (hx : small x) (hy : small y) : Ok Try.prog 66 [bigT x, bigT y] (bigT (x + y)) := by
  have h := rAdd_ok (decide (x < 0)) (decide (y < 0)) x.natAbs y.natAbs hx hy
  rw [sv_big, sv_big] at h
  exact h.le ⟨bigT_sg _, bigT_sg _, trivial⟩ (VT.le_refl _)
theorem rMulI_ok (x y : Int) (hx : small x) (hy : small y) : Ok Try.prog 16 [bigT x, bigT y] (bigT (x * y)) := by
  have h := rMul_ok (decide (x < 0)) (decide (y < 0)) x.natAbs y.natAbs hx hy
  rw [sv_big, sv_big] at h
  exact h.le ⟨bigT_sg _, bigT_sg _, trivial⟩ (VT.le_refl _)
def mod4 (x : Int) : Prop := x.natAbs ≤ 2 ^ 400
theorem mod4_mul {x y : Int} (hx : mod4 x) (hy : mod4 y) : (x * y).natAbs ≤ 2 ^ 800 := by
  rw [Int.natAbs_mul]
  exact Nat.le_trans (Nat.mul_le_mul hx hy) (by decide +kernel)
theorem small_le {x : Int} {n : Nat} (h : x.natAbs ≤ n) (hn : n < 2 ^ 2048) : small x := small_lt (Nat.lt_of_le_of_lt h hn)
theorem mod4_small {x : Int} (hx : mod4 x) : small x := small_le hx (by decide +kernel)
theorem small_one : small 1 := small_lt (by decide +kernel)
theorem small_neg {x : Int} (h : small x) : small (-x) := by unfold small at *; rw [Int.natAbs_neg]; exact h
theorem le_any (φ : VT) : VT.le φ anyT := fun _ _ _ => trivial
instance {neg : Bool} {l : List Nat} : Flat (rawT neg l) (.agg 2) := by unfold rawT; infer_instance
instance {neg : Bool} {v : Nat} : Flat (sgT neg v) (.agg 2) := by unfold sgT; infer_instance
attribute [local irreducible] Tor.J Tor.PJ Tor.StepO Tor.one Tor.slT Tor.ptrT Tor.aggT Tor.tupT Tor.exT Tor.andT Tor.gT Tor.eP Tor.boxO Tor.sliO Tor.slV Tor.VT.le Tor.Ret Tor.anyT
set_option maxHeartbeats 1000000 in
theorem Clone_ok (l : List Nat) (hl : l.length ≤ 1099511627776) : Ok Try.prog 61 [limT l] (limT l) := by
  unfold limT
  refine Ok.enter Try.func61 rfl Try.ntmps61 rfl (fun w O => ?_)
  refine J_seq ?_
  refine J_reg ?_
  refine st (s_assign rfl) rfl ?_
  refine Run.nil ?_
  refine pj_then ?_
  refine J_seq ?_
  refine J_seq ?_
  refine J_reg ?_
  refine st (s_move rfl) rfl ?_
  refine st (s_eqNil rfl) rfl ?_
  refine Run.nil ?_
  refine pj_then ?_
  refine J_ex (t := 4) rfl (fun b => ?_)
  refine J_and (t := 4) rfl (fun hb => ?_)
  refine J_cond rfl (fun hc => ?_) (fun hc => ?_)
  · have h0 := hb hc
    refine J_seq ?_
    refine J_reg ?_
    refine st (s_assign rfl) rfl ?_
    refine Run.nil ?_
    refine pj_then ?_
    refine J_ret ?_
    refine pr_then ?_
    refine retc1 Try.results61 (.tmp rfl (by (rw [h0]; exact nil_slT)))
  · refine J_skip ?_
    refine pj_then ?_
    refine J_seq ?_
    refine J_reg ?_
    refine stSO (n := 0) rfl rfl rfl rfl rfl ?_
    refine PartsK.nil (fun bl => ?_)
    refine st (s_move rfl) rfl ?_
    (refine a_append 0 rfl rfl rfl (leN rfl) ?_ ?_ rfl (ltN rfl) (fun sv7 cap7 => ?_); omega; omega)
    refine st (s_assign rfl) rfl ?_
    refine Run.nil ?_
    refine pj_then ?_
    refine J_ret ?_
    refine PJ_freeze (t := 2) (i := 0) rfl rfl ?_
    refine retc1 Try.results61 (.tmp rfl (slT_le' (by simp) (fun i hi => by simp)))
set_option maxHeartbeats 1000000 in
theorem NegI_ok (x : Int) (hx : small x) : Ok Try.prog 36 [bigT x] (bigT (-x)) := by
  have hcl := Clone_ok (digs x.natAbs) hx
  have hv := (value_ok (!decide (x < 0)) x.natAbs).le (leAll_refl _) (bigT_eq (y := -x) (by by_cases h : x < 0 <;> simp [h] <;> omega))
  unfold bigT at *
  refine Ok.enter Try.func36 rfl Try.ntmps36 rfl (fun w O => ?_)
  refine J_seq ?_
  refine J_reg ?_
  refine a_boxS rfl rfl (ltN rfl) (fun b1 => ?_)
  refine a_alloc (T := 34) rfl (ltN rfl) (fun b2 => ?_)
  refine Run.nil ?_
  refine pj_then ?_
  refine J_seq ?_
  refine J_regd 7 mixed (by kernel_rfl) (by decide) ?_
  refine st (s_fieldAddr rfl) rfl ?_
  refine st (s_loadB 1 rfl rfl rfl) rfl ?_
  refine st (s_not rfl) rfl ?_
  refine st (s_fieldAddr rfl) rfl ?_
  refine st (s_loadB 1 rfl rfl rfl) rfl ?_
  refine st (s_callk (hcl ) rfl ⟨VT.le_refl _, trivial⟩) rfl ?_
  refine st (s_callk (hv ) rfl ⟨VT.le_refl _, (natT_digs _), trivial⟩) rfl ?_
  refine Run.nil ?_
  refine a_storeB 0 rfl rfl rfl rfl rfl (leN rfl) rfl ?_
  refine Run.nil ?_
  refine pj_then ?_
  refine J_ret ?_
  refine retc1 Try.results36 (.cellB 0 rfl rfl rfl (VT.le_refl _))
theorem natS_digs {n : Nat} (h : (digs n).length ≤ 1099511627776) : VT.le (limT (digs n)) (natS n) := natS_of (limbs_digs n) (lv_digs n) (by omega)
set_option maxHeartbeats 1000000 in
theorem rNegI_ok (x : Int) (hx : small x) : Ok Try.prog 14 [bigT x] (bigT (-x)) := by
  have hv := (rMade_ok (!decide (x < 0)) x.natAbs).le (leAll_refl _) (bigT_eq (y := -x) (by by_cases h : x < 0 <;> simp [h] <;> omega))
  have hx : (digs x.natAbs).length ≤ 1099511627776 := hx
  unfold bigT at *
  refine Ok.enter Try.func14 rfl Try.ntmps14 rfl (fun w O => ?_)
  refine J_seq ?_
  refine J_reg ?_
  refine a_boxS rfl rfl (ltN rfl) (fun b1 => ?_)
  refine a_alloc (T := 34) rfl (ltN rfl) (fun b2 => ?_)
  refine Run.nil ?_
  refine pj_then ?_
  refine J_seq ?_
  refine J_reg ?_
  refine st (s_fieldAddr rfl) rfl ?_
  refine st (s_loadB 1 rfl rfl rfl) rfl ?_
  refine st (s_fieldAddr rfl) rfl ?_
  refine st (s_loadB 1 rfl rfl rfl) rfl ?_
  refine st (s_not rfl) rfl ?_
  refine st (s_callk (hv ) rfl ⟨(natS_digs hx), VT.le_refl _, trivial⟩) rfl ?_
  refine a_storeB 0 rfl rfl rfl rfl rfl (leN rfl) rfl ?_
  refine Run.nil ?_
  refine pj_then ?_
  refine J_ret ?_
  refine retc1 Try.results14 (.cellB 0 rfl rfl rfl (VT.le_refl _))
theorem rSignI_ok (x : Int) : Ok Try.prog 17 [bigT x] (one (.int .i64 (sgnI x))) := by
  have h := rSign_ok (decide (x < 0)) x.natAbs
  rw [sv_big] at h
  exact h.le ⟨bigT_sg _, trivial⟩ (VT.le_refl _)
set_option maxHeartbeats 1000000 in
theorem rSubI_ok (x y : Int) (hx : small x) (hy : small y) : Ok Try.prog 79 [bigT x, bigT y] (bigT (x - y)) := by
  have hv := (rAddI_ok x (-y) hx (small_neg hy)).le (leAll_refl _) (bigT_eq (y := x - y) (by omega))
  refine Ok.enter Try.func79 rfl Try.ntmps79 rfl (fun w O => ?_)
  refine J_seq ?_
  refine J_reg ?_
  refine a_boxS rfl rfl (ltN rfl) (fun b2 => ?_)
  refine a_boxS rfl rfl (ltN rfl) (fun b3 => ?_)
  refine a_alloc (T := 34) rfl (ltN rfl) (fun b4 => ?_)
  refine Run.nil ?_
  refine pj_then ?_
  refine J_seq ?_
  refine J_regd 4 mixed (by kernel_rfl) (by decide) ?_
  refine st (s_loadW 2 rfl rfl) rfl ?_
  refine st (s_loadW 1 rfl rfl) rfl ?_
  refine st (s_callk (rNegI_ok _ (by assumption)) rfl ⟨VT.le_refl _, trivial⟩) rfl ?_
  refine st (s_callk (hv ) rfl ⟨VT.le_refl _, VT.le_refl _, trivial⟩) rfl ?_
  refine Run.nil ?_
  refine a_storeB 0 rfl rfl rfl rfl rfl (leN rfl) rfl ?_
  refine Run.nil ?_
  refine pj_then ?_
  refine J_ret ?_
  refine retc1 Try.results79 (.cellB 0 rfl rfl rfl (VT.le_refl _))
end Tor
end

section
set_option linter.unusedVariables false
set_option linter.unusedSimpArgs false
namespace Tor
open Go Go.RowKit Go.Proofs
def mat2T (φ ψ : VT) : VT := slT (.agg 3) 2 (fun i => if i = 0 then φ else ψ)
theorem two_mat2 {φ ψ : VT} : VT.le (slT (.agg 3) 2 (fun q => [φ, ψ].getD q anyT)) (mat2T φ ψ) := by
  unfold mat2T
  refine slT_le fun i hi => ?_
  rcases i with _ | _ | i
  · exact VT.le_refl _
  · exact VT.le_refl _
  · omega
instance {r c : Nat} {F : Nat → Nat → Int} : Flat (matF r c F) (.agg 3) := by unfold matF; infer_instance
attribute [local irreducible] Tor.J Tor.PJ Tor.StepO Tor.one Tor.slT Tor.ptrT Tor.aggT Tor.tupT Tor.exT Tor.andT Tor.gT Tor.eP Tor.boxO Tor.sliO Tor.slV Tor.VT.le Tor.Ret Tor.anyT
attribute [local irreducible] bigT matF
set_option maxHeartbeats 1000000 in
theorem matValidF_ok (r c : Nat) (F : Nat → Nat → Int) : Ok Try.prog 39 [matF r c F] (one (.bool true)) := by
  have h := matValid_ok r c (rawTab r c F)
  rw [validM_tab] at h
  exact h.le ⟨matF_raw r c F, trivial⟩ (VT.le_refl _)
set_option maxHeartbeats 1000000 in
theorem valid2_ok (ra ca : Nat) (F : Nat → Nat → Int) (rb cb : Nat) (G : Nat → Nat → Int) : Ok Try.prog 69 [mat2T (matF ra ca F) (matF rb cb G)] (one (.bool true)) := by
  unfold mat2T
  refine Ok.enter Try.func69 rfl Try.ntmps69 rfl (fun w O => ?_)
  refine J_seq ?_
  refine J_reg ?_
  refine st (s_assign rfl) rfl ?_
  refine Run.nil ?_
  refine pj_then ?_
  refine J_seq ?_
  refine J_seq ?_
  refine J_reg ?_
  refine st (s_move rfl) rfl ?_
  refine st (s_len rfl) rfl ?_
  refine st (s_move rfl) rfl ?_
  refine Run.nil ?_
  refine pj_then ?_
  refine J_block ?_
  refine J_loop (σ := Nat) (fun i => [(5, slT (.agg 3) 2 (fun i => if i = 0 then matF ra ca F else matF rb cb G)), (6, one (.int .i64 (2 : Nat))), (7, one (.int .i64 (i : Nat)))]) (fun _ => []) (fun i => i ≤ 2) (fun i => 2 - i) 0 (Nat.zero_le _) (by repeat (first | exact SubG.nil | refine SubG.cons rfl (VT.le_refl _) ?_ | (refine SubG.cons rfl (one_le ?_) ?_; (congr 1; first | omega | (simp; omega) | simp)))) (SubM.refl _) (fun i hi => ?_)
  refine J_seq ?_
  refine J_reg ?_
  refine st (s_lt rfl rfl) rfl ?_
  refine Run.nil ?_
  refine pj_then ?_
  refine J_seq ?_
  refine J_cond rfl (fun hc => ?_) (fun hc => ?_) <;> simp only [decide_eq_true_eq, decide_eq_false_iff_not, ne_eq, Decidable.not_not] at hc
  · have h2 : i < 2 := by omega
    have hF : Flat (if i = 0 then matF ra ca F else matF rb cb G) (.agg 3) := by split <;> infer_instance
    refine J_skip ?_
    refine pj_then ?_
    refine J_seq ?_
    refine J_block ?_
    refine J_seq ?_
    refine J_reg ?_
    (refine st (s_indexIN rfl rfl ?_) rfl ?_; omega)
    refine st (s_load rfl) rfl ?_
    refine a_allocS (T := 29) rfl rfl rfl (fun b => ?_)
    refine a_storeV 0 rfl rfl rfl rfl ?_
    refine Run.nil ?_
    refine pj_then ?_
    refine J_seq ?_
    refine J_reg ?_
    refine st (s_loadB 0 rfl rfl rfl) rfl ?_
    have hcall : Ok Try.prog 39 [if i = 0 then matF ra ca F else matF rb cb G] (one (.bool true)) := by
      split
      · exact matValidF_ok _ _ _
      · exact matValidF_ok _ _ _
    refine st (s_callk hcall rfl ⟨VT.le_refl _, trivial⟩) rfl ?_
    refine st (s_not rfl) rfl ?_
    refine Run.nil ?_
    refine pj_then ?_
    refine J_cond rfl (fun hc2 => ?_) (fun hc2 => ?_)
    · cases hc2
    · refine J_skip ?_
      refine pn_block ?_
      refine pj_then ?_
      refine J_reg ?_
      (refine st (s_add rfl rfl (wrap_i64 ?_ ?_)) rfl ?_; omega; omega)
      refine st (s_move rfl) rfl ?_
      refine Run.nil ?_
      exact pj_round (s := i) (i + 1) (show _ from by omega) (by show 2 - (i + 1) < 2 - i; omega) (by repeat (first | exact SubG.nil | refine SubG.cons rfl (VT.le_refl _) ?_ | (refine SubG.cons rfl (one_le ?_) ?_; (congr 1; first | omega | (simp; omega) | simp)))) (.drop .nil)
  · refine J_exit ?_
    refine px_then ?_
    refine px_then ?_
    refine px_block ?_
    refine pj_then ?_
    refine J_seq ?_
    refine J_reg ?_
    refine st (s_assign rfl) rfl ?_
    refine Run.nil ?_
    refine pj_then ?_
    refine J_ret ?_
    exact retc1 Try.results69 (.tmp rfl (VT.le_refl _))
end Tor
end

section
set_option linter.unusedVariables false
set_option linter.unusedSimpArgs false
namespace Tor
open Go Go.RowKit Go.Proofs
attribute [local irreducible] Tor.J Tor.PJ Tor.StepO Tor.one Tor.slT Tor.ptrT Tor.aggT Tor.tupT Tor.exT Tor.andT Tor.gT Tor.eP Tor.boxO Tor.sliO Tor.slV Tor.VT.le Tor.Ret Tor.anyT
set_option maxHeartbeats 1000000 in
theorem own_ok (x : Int) (hx : small x) : Ok Try.prog 68 [bigT x] (bigT x) := by
  unfold bigT
  refine Ok.enter Try.func68 rfl Try.ntmps68 rfl (fun w O => ?_)
  refine J_seq ?_
  refine J_reg ?_
  refine a_boxS rfl rfl (ltN rfl) (fun b => ?_)
  refine a_alloc (T := 34) rfl (ltN rfl) (fun b => ?_)
  refine Run.nil ?_
  refine pj_then ?_
  refine J_seq ?_
  refine J_regd 6 mixed (by kernel_rfl) (by decide) ?_
  refine st (s_fieldAddr rfl) rfl ?_
  refine st (s_loadB 1 rfl rfl rfl) rfl ?_
  refine st (s_fieldAddr rfl) rfl ?_
  refine st (s_loadB 1 rfl rfl rfl) rfl ?_
  refine st (s_callk (Clone_ok _ hx) rfl ⟨VT.le_refl _, trivial⟩) rfl ?_
  refine stB rfl rfl rfl ?_
  refine BuildK.cons rfl rfl rfl ?_
  refine BuildK.cons rfl rfl rfl ?_
  refine BuildK.nil ?_
  refine Run.nil ?_
  refine a_storeB 0 rfl rfl rfl rfl rfl (leN rfl) rfl ?_
  refine Run.nil ?_
  refine pj_then ?_
  refine J_ret ?_
  refine retc1 Try.results68 (.cellB 0 rfl rfl rfl (VT.le_refl _))
attribute [local irreducible] bigT
set_option maxHeartbeats 2000000 in
theorem ownRow_ok (n m : Nat) (f g : Nat → Int) (hn : n ≤ 1048576) (hm : m ≤ 1048576) (hf : ∀ i, small (f i)) (hg : ∀ i, small (g i)) : Ok Try.prog 71 [rowF n f, rowF m g] (rowF (n + m) (fun k => if k < n then f k else g (k - n))) := by
  unfold rowF
  refine Ok.enter Try.func71 rfl Try.ntmps71 rfl (fun w O => ?_)
  refine J_seq ?_
  refine J_reg ?_
  refine st (s_assign rfl) rfl ?_
  refine Run.nil ?_
  refine pj_then ?_
  refine J_seq ?_
  refine J_reg ?_
  refine st (s_move rfl) rfl ?_
  refine st (s_len rfl) rfl ?_
  refine st (s_move rfl) rfl ?_
  refine st (s_len rfl) rfl ?_
  (refine st (s_add rfl rfl (wrap_i64 ?_ ?_)) rfl ?_; omega; omega)
  refine a_makeSlice 0 (n + m) rfl rfl rfl (by simp) (Nat.zero_le _) rfl rfl (by omega) rfl rfl (fun bz => ?_)
  refine st (s_assign rfl) rfl ?_
  refine Run.nil ?_
  refine pj_then ?_
  refine J_seq ?_
  refine J_seq ?_
  refine J_reg ?_
  refine st (s_move rfl) rfl ?_
  refine st (s_len rfl) rfl ?_
  refine st (s_move rfl) rfl ?_
  refine Run.nil ?_
  refine pj_then ?_
  refine J_block ?_
  refine J_loop (σ := Nat × Option Nat × Nat) (fun s => [(1, slT (.agg 2) m (fun j => bigT (g j))), (5, one (slV s.2.1 s.1 s.2.2)), (16, slT (.agg 2) n (fun j => bigT (f j))), (17, one (.int .i64 n)), (18, one (.int .i64 (s.1 : Nat)))])
    (fun s => [sliO s.2.1 34 (.agg 2) s.2.2 s.1 (fun q => bigT (f q))]) (fun s => s.1 ≤ n) (fun s => n - s.1) (0, some bz, n + m) (Nat.zero_le _) (by repeat (first | exact SubG.nil | refine SubG.cons rfl (VT.le_refl _) ?_ | (refine SubG.cons rfl (one_le ?_) ?_; (congr 1; first | omega | (simp; omega) | simp)))) (.keep (sliO_eq fun q hq => by omega) .nil) (fun s hs => ?_)
  obtain ⟨k, sv0, cap0⟩ := s
  simp only at hs ⊢
  refine J_seq ?_
  refine J_reg ?_
  refine st (s_lt rfl rfl) rfl ?_
  refine Run.nil ?_
  refine pj_then ?_
  refine J_seq ?_
  refine J_cond rfl (fun hc => ?_) (fun hc => ?_) <;> simp only [decide_eq_true_eq, decide_eq_false_iff_not, ne_eq, Decidable.not_not] at hc
  · refine J_skip ?_
    refine pj_then ?_
    refine J_seq ?_
    refine J_block ?_
    refine J_seq ?_
    refine J_reg ?_
    (refine st (s_indexIN rfl rfl ?_) rfl ?_; omega)
    refine st (s_load rfl) rfl ?_
    refine a_alloc (T := 34) rfl (ltN rfl) (fun b => ?_)
    refine a_storeB 0 rfl rfl rfl rfl rfl (leN rfl) rfl ?_
    refine Run.nil ?_
    refine pj_then ?_
    refine J_reg ?_
    refine st (s_move rfl) rfl ?_
    refine st (s_loadB 0 rfl rfl rfl) rfl ?_
    refine st (s_callk (own_ok (f k) (hf k)) rfl ⟨VT.le_refl _, trivial⟩) rfl ?_
    refine stS1 rfl rfl rfl rfl ?_
    (refine a_append 1 rfl rfl rfl (leN rfl) ?_ ?_ rfl (ltN rfl) (fun sv cap => ?_); omega; omega)
    refine st (s_assign rfl) rfl ?_
    refine Run.nil ?_
    refine pn_block ?_
    refine pj_then ?_
    refine J_reg ?_
    (refine st (s_add rfl rfl (wrap_i64 ?_ ?_)) rfl ?_; omega; omega)
    refine st (s_move rfl) rfl ?_
    refine Run.nil ?_
    refine pj_round (s := (k, sv0, cap0)) (k + 1, sv, cap) (show _ from by simp only; omega) (by show n - (k + 1) < n - k; omega) (by repeat (first | exact SubG.nil | refine SubG.cons rfl (VT.le_refl _) ?_ | (refine SubG.cons rfl (one_le ?_) ?_; (congr 1; first | omega | (simp; omega) | simp)))) (.drop (.keep (sliO_eq fun q hq => ?_) .nil))
    by_cases h : q < k
    · rw [if_pos h]
    · have : q = k := by omega
      subst this; rw [if_neg h]
  · have hk : k = n := by omega
    subst hk
    refine J_exit ?_
    refine px_then ?_
    refine px_then ?_
    refine px_block ?_
    refine pj_then ?_
    refine J_seq ?_
    refine J_seq ?_
    refine J_reg ?_
    refine st (s_move rfl) rfl ?_
    refine st (s_len rfl) rfl ?_
    refine st (s_move rfl) rfl ?_
    refine Run.nil ?_
    refine pj_then ?_
    refine J_block ?_
    refine J_loop (σ := Nat × Option Nat × Nat) (fun s => [(5, one (slV s.2.1 (k + s.1) s.2.2)), (28, slT (.agg 2) m (fun j => bigT (g j))), (29, one (.int .i64 m)), (30, one (.int .i64 (s.1 : Nat)))])
      (fun s => [sliO s.2.1 34 (.agg 2) s.2.2 (k + s.1) (fun q => bigT (if q < k then f q else g (q - k)))]) (fun s => s.1 ≤ m) (fun s => m - s.1) (0, sv0, cap0) (Nat.zero_le _) (by repeat (first | exact SubG.nil | refine SubG.cons rfl (VT.le_refl _) ?_ | (refine SubG.cons rfl (one_le ?_) ?_; (congr 1; first | omega | (simp; omega) | simp)))) (.keep (sliO_eq fun q hq => by rw [if_pos hq]) .nil) (fun s hs => ?_)
    obtain ⟨j, sv1, cap1⟩ := s
    simp only at hs ⊢
    refine J_seq ?_
    refine J_reg ?_
    refine st (s_lt rfl rfl) rfl ?_
    refine Run.nil ?_
    refine pj_then ?_
    refine J_seq ?_
    refine J_cond rfl (fun hc2 => ?_) (fun hc2 => ?_) <;> simp only [decide_eq_true_eq, decide_eq_false_iff_not] at hc2
    · refine J_skip ?_
      refine pj_then ?_
      refine J_seq ?_
      refine J_block ?_
      refine J_seq ?_
      refine J_reg ?_
      (refine st (s_indexIN rfl rfl ?_) rfl ?_; omega)
      refine st (s_load rfl) rfl ?_
      refine a_alloc (T := 34) rfl (ltN rfl) (fun b => ?_)
      refine a_storeB 0 rfl rfl rfl rfl rfl (leN rfl) rfl ?_
      refine Run.nil ?_
      refine pj_then ?_
      refine J_reg ?_
      refine st (s_move rfl) rfl ?_
      refine st (s_loadB 0 rfl rfl rfl) rfl ?_
      refine st (s_callk (own_ok (g j) (hg j)) rfl ⟨VT.le_refl _, trivial⟩) rfl ?_
      refine stS1 rfl rfl rfl rfl ?_
      (refine a_append 1 rfl rfl rfl (leN rfl) ?_ ?_ rfl (ltN rfl) (fun sv cap => ?_); omega; omega)
      refine st (s_assign rfl) rfl ?_
      refine Run.nil ?_
      refine pn_block ?_
      refine pj_then ?_
      refine J_reg ?_
      (refine st (s_add rfl rfl (wrap_i64 ?_ ?_)) rfl ?_; omega; omega)
      refine st (s_move rfl) rfl ?_
      refine Run.nil ?_
      refine pj_round (s := (j, sv1, cap1)) (j + 1, sv, cap) (show _ from by simp only; omega) (by show m - (j + 1) < m - j; omega) (by repeat (first | exact SubG.nil | refine SubG.cons rfl (VT.le_refl _) ?_ | (refine SubG.cons rfl (one_le ?_) ?_; (congr 1; first | omega | (simp; omega) | simp)))) (.drop (.keep (sliO_eq fun q hq => ?_) .nil))
      by_cases h : q < k + j
      · rw [if_pos h]
      · have : q = k + j := by omega
        subst this; rw [if_neg h, if_neg (by omega)]; simp
    · have hk : j = m := by omega
      subst hk
      refine J_exit ?_
      refine px_then ?_
      refine px_then ?_
      refine px_block ?_
      refine pj_then ?_
      refine J_seq ?_
      refine J_reg ?_
      refine st (s_move rfl) rfl ?_
      refine st (s_assign rfl) rfl ?_
      refine Run.nil ?_
      refine pj_then ?_
      refine J_ret ?_
      refine PJ_freeze (t := 4) (i := 0) rfl rfl ?_
      refine retc1 Try.results71 (.tmp rfl (VT.le_refl _))
end Tor
end

section
set_option linter.unusedVariables false
set_option linter.unusedSimpArgs false
namespace Tor
open Go Go.RowKit Go.Proofs
attribute [local irreducible] Tor.J Tor.PJ Tor.StepO Tor.one Tor.slT Tor.ptrT Tor.aggT Tor.tupT Tor.exT Tor.andT Tor.gT Tor.eP Tor.boxO Tor.sliO Tor.slV Tor.VT.le Tor.Ret Tor.anyT
set_option maxHeartbeats 1000000 in
theorem combR_ok (n : Nat) (φ ψ χ : Nat → VT) [hF : ∀ i, Flat (χ i) .one] (cl : VT) (hn : n ≤ 1048576) (hC : ∀ i, i < n → Callable Try.prog cl [φ i, ψ i] (χ i)) : Ok Try.prog 70 [slT .one n φ, slT .one n ψ, cl] (slT .one n χ) := by
  refine Ok.enter Try.func70 rfl Try.ntmps70 rfl (fun w O => ?_)
  refine J_seq ?_
  refine J_reg ?_
  refine st (s_assign rfl) rfl ?_
  refine Run.nil ?_
  refine pj_then ?_
  refine J_seq ?_
  refine J_reg ?_
  refine st (s_move rfl) rfl ?_
  refine st (s_len rfl) rfl ?_
  refine a_makeSlice n n rfl rfl rfl rfl (Nat.le_refl _) rfl rfl (by omega) rfl rfl (fun bz => ?_)
  refine st (s_assign rfl) rfl ?_
  refine Run.nil ?_
  refine pj_then ?_
  refine J_seq ?_
  refine J_seq ?_
  refine J_reg ?_
  refine st (s_move rfl) rfl ?_
  refine st (s_lenO rfl) rfl ?_
  refine st (s_move rfl) rfl ?_
  refine Run.nil ?_
  refine pj_then ?_
  refine J_block ?_
  refine J_loop (σ := Nat) (fun i => [(0, slT .one n φ), (1, slT .one n ψ), (2, cl), (7, one (slV (some bz) n n)), (13, one (.int .i64 n)), (14, one (.int .i64 (i : Nat)))])
    (fun i => [sliO (some bz) 44 .one n n (fun q => if q < i then χ q else anyT)]) (fun i => i ≤ n) (fun i => n - i) 0 (Nat.zero_le _) (by repeat (first | exact SubG.nil | refine SubG.cons rfl (VT.le_refl _) ?_ | (refine SubG.cons rfl (one_le ?_) ?_; (congr 1; first | omega | (simp; omega) | simp)))) (.keep (sliO_le fun q hq => by rw [if_neg (by omega)]; exact le_any _) .nil) (fun i hi => ?_)
  refine J_seq ?_
  refine J_reg ?_
  refine st (s_lt rfl rfl) rfl ?_
  refine Run.nil ?_
  refine pj_then ?_
  refine J_seq ?_
  refine J_cond rfl (fun hc => ?_) (fun hc => ?_) <;> simp only [decide_eq_true_eq, decide_eq_false_iff_not, ne_eq, Decidable.not_not] at hc
  · refine J_skip ?_
    refine pj_then ?_
    refine J_seq ?_
    refine J_block ?_
    refine J_seq ?_
    refine J_reg ?_
    refine st (s_move rfl) rfl ?_
    refine st (s_assign rfl) rfl ?_
    refine Run.nil ?_
    refine pj_then ?_
    refine J_regd 13 mixed (by kernel_rfl) (by decide) ?_
    refine st (s_move rfl) rfl ?_
    refine st (s_move rfl) rfl ?_
    refine st (s_move rfl) rfl ?_
    refine st (s_move rfl) rfl ?_
    refine st (s_move rfl) rfl ?_
    (refine st (s_indexIN rfl rfl ?_) rfl ?_; omega)
    refine st (s_load rfl) rfl ?_
    refine st (s_move rfl) rfl ?_
    refine st (s_move rfl) rfl ?_
    (refine st (s_indexIN rfl rfl ?_) rfl ?_; omega)
    refine st (s_load rfl) rfl ?_
    refine st (s_callF (hC i (by omega)) rfl rfl ⟨VT.le_refl _, VT.le_refl _, trivial⟩) rfl ?_
    (refine st (s_indexON rfl rfl ?_) rfl ?_; omega)
    refine Run.nil ?_
    (refine a_storeE 0 rfl rfl rfl ?_ rfl ?_; omega)
    refine Run.nil ?_
    refine pn_block ?_
    refine pj_then ?_
    refine J_reg ?_
    (refine st (s_add rfl rfl (wrap_i64 ?_ ?_)) rfl ?_; omega; omega)
    refine st (s_move rfl) rfl ?_
    refine Run.nil ?_
    refine pj_round (s := i) (i + 1) (show _ from by omega) (by show n - (i + 1) < n - i; omega) (by repeat (first | exact SubG.nil | refine SubG.cons rfl (VT.le_refl _) ?_ | (refine SubG.cons rfl (one_le ?_) ?_; (congr 1; first | omega | (simp; omega) | simp)))) (.keep (sliO_eq fun q hq => ?_) .nil)
    unfold upd
    by_cases h : q = i
    · subst h; rw [if_pos rfl, if_pos (by omega)]
    · rw [if_neg h]
      have e : q < i + 1 ↔ q < i := by omega
      simp only [e]
  · have hk : i = n := by omega
    subst hk
    refine J_exit ?_
    refine px_then ?_
    refine px_then ?_
    refine px_block ?_
    refine pj_then ?_
    refine J_seq ?_
    refine J_reg ?_
    refine st (s_move rfl) rfl ?_
    refine st (s_assign rfl) rfl ?_
    refine Run.nil ?_
    refine pj_then ?_
    refine J_ret ?_
    refine PJ_freeze (t := 6) (i := 0) rfl rfl ?_
    refine retc1 Try.results70 (.tmp rfl (slT_le fun q hq => ?_))
    rw [if_pos hq]; exact VT.le_refl _
set_option maxHeartbeats 1000000 in
theorem IndexFunc_ok (l : List Int) (p : Int → Bool) (cl : VT) (hC : ∀ x ∈ l, Callable Try.prog cl [one (.int .i64 x)] (one (.bool (p x)))) : Ok Try.prog 97 [numT .i64 l, cl] (exT fun k : Int => andT ((0 ≤ k ↔ l.any p = true) ∧ -1 ≤ k ∧ k ≤ 2 ^ 48) (one (.int .i64 k))) := by
  unfold numT
  refine Ok.enter Try.func97 rfl Try.ntmps97 rfl (fun w O => ?_)
  refine J_fact (t := 0) rfl (fun _ _ => slT_bound) (fun hb => ?_)
  refine J_seq ?_
  refine J_reg ?_
  refine st (s_assign rfl) rfl ?_
  refine Run.nil ?_
  refine pj_then ?_
  refine J_seq ?_
  refine J_seq ?_
  refine J_reg ?_
  refine st (s_move rfl) rfl ?_
  refine st (s_len rfl) rfl ?_
  refine st (s_move rfl) rfl ?_
  refine Run.nil ?_
  refine pj_then ?_
  refine J_block ?_
  refine J_loop (σ := Nat) (fun i => [(0, slT .one l.length (fun i => one (.int .i64 (l.getD i 0)))), (1, cl), (7, one (.int .i64 l.length)), (8, one (.int .i64 (i : Nat)))]) (fun _ => []) (fun i => i ≤ l.length ∧ (l.take i).any p = false) (fun i => l.length - i) 0 ⟨Nat.zero_le _, rfl⟩ (by repeat (first | exact SubG.nil | refine SubG.cons rfl (VT.le_refl _) ?_ | (refine SubG.cons rfl (one_le ?_) ?_; (congr 1; first | omega | (simp; omega) | simp)))) (SubM.refl _) (fun i ⟨hi, ht⟩ => ?_)
  refine J_seq ?_
  refine J_reg ?_
  refine st (s_lt rfl rfl) rfl ?_
  refine Run.nil ?_
  refine pj_then ?_
  refine J_seq ?_
  refine J_cond rfl (fun hc => ?_) (fun hc => ?_) <;> simp only [decide_eq_true_eq, decide_eq_false_iff_not, Int.ofNat_lt] at hc
  · refine J_skip ?_
    refine pj_then ?_
    refine J_seq ?_
    refine J_block ?_
    refine J_seq ?_
    refine J_reg ?_
    refine st (s_move rfl) rfl ?_
    refine st (s_assign rfl) rfl ?_
    refine Run.nil ?_
    refine pj_then ?_
    refine J_seq ?_
    refine J_reg ?_
    refine st (s_move rfl) rfl ?_
    refine st (s_move rfl) rfl ?_
    refine st (s_move rfl) rfl ?_
    (refine st (s_indexIN rfl rfl ?_) rfl ?_; omega)
    refine st (s_load rfl) rfl ?_
    have hm : l.getD i 0 ∈ l := by
      simp only [List.getD, List.getElem?_eq_getElem hc, Option.getD_some]; exact List.getElem_mem hc
    refine st (s_callF (hC _ hm) rfl rfl ⟨VT.le_refl _, trivial⟩) rfl ?_
    refine Run.nil ?_
    refine pj_then ?_
    refine J_cond rfl (fun hc2 => ?_) (fun hc2 => ?_)
    · refine J_seq ?_
      refine J_reg ?_
      refine st (s_move rfl) rfl ?_
      refine st (s_assign rfl) rfl ?_
      refine Run.nil ?_
      refine pj_then ?_
      refine J_ret ?_
      refine pr_block ?_
      refine pr_then ?_
      refine pr_then ?_
      refine pr_block ?_
      refine pr_then ?_
      refine retc1 Try.results97 (.tmp rfl (le_exT (i : Int) (le_andT ⟨?_, by omega, by omega⟩ (VT.le_refl _))))
      have : l.any p = true := List.any_eq_true.2 ⟨_, hm, hc2⟩
      simp [this]
    · refine J_skip ?_
      refine pn_block ?_
      refine pj_then ?_
      refine J_reg ?_
      (refine st (s_add rfl rfl (wrap_i64 ?_ ?_)) rfl ?_; omega; omega)
      refine st (s_move rfl) rfl ?_
      refine Run.nil ?_
      refine pj_round (s := i) (i + 1) ⟨by omega, ?_⟩ (by show l.length - (i + 1) < l.length - i; omega) (by repeat (first | exact SubG.nil | refine SubG.cons rfl (VT.le_refl _) ?_ | (refine SubG.cons rfl (one_le ?_) ?_; (congr 1; first | omega | (simp; omega) | simp)))) .nil
      rw [List.take_add_one, List.any_append, ht, List.getElem?_eq_getElem hc]
      simp only [List.getD, List.getElem?_eq_getElem hc, Option.getD_some] at hc2
      simp [hc2]
  · refine J_exit ?_
    refine px_then ?_
    refine px_then ?_
    refine px_block ?_
    refine pj_then ?_
    refine J_seq ?_
    refine J_reg ?_
    refine st (s_assign rfl) rfl ?_
    refine Run.nil ?_
    refine pj_then ?_
    refine J_ret ?_
    refine retc1 Try.results97 (.tmp rfl (le_exT (-1 : Int) (le_andT ⟨?_, by omega, by omega⟩ (VT.le_refl _))))
    rw [List.take_of_length_le (by omega)] at ht
    simp [ht]
set_option maxHeartbeats 1000000 in
theorem ContainsFunc_ok (l : List Int) (p : Int → Bool) (cl : VT) (hC : ∀ x ∈ l, Callable Try.prog cl [one (.int .i64 x)] (one (.bool (p x)))) : Ok Try.prog 88 [numT .i64 l, cl] (one (.bool (l.any p))) := by
  refine Ok.enter Try.func88 rfl Try.ntmps88 rfl (fun w O => ?_)
  refine J_seq ?_
  refine J_reg ?_
  refine st (s_assign rfl) rfl ?_
  refine Run.nil ?_
  refine pj_then ?_
  refine J_seq ?_
  refine J_reg ?_
  refine st (s_move rfl) rfl ?_
  refine st (s_move rfl) rfl ?_
  refine a_callM (IndexFunc_ok l p cl hC).toM rfl ⟨VT.le_refl _, VT.le_refl _, trivial⟩ rfl rfl (fun k => ?_)
  obtain ⟨k, hk⟩ := k
  refine st (s_ge rfl rfl) rfl ?_
  refine st (s_assign rfl) rfl ?_
  refine Run.nil ?_
  refine pj_then ?_
  refine J_ret ?_
  refine retc1 Try.results88 (.tmp rfl (one_le ?_))
  have := hk.1
  show Value.bool (decide (0 ≤ k)) = _
  cases h : l.any p
  · rw [h] at this; simp at this; simp [this]
  · rw [h] at this; simp at this; simp [this]
def capT (n : Int) : VT := ptrT .one (one (.int .i64 n))
set_option maxHeartbeats 1000000 in
theorem Pick11_ok (x n : Int) : Ok Try.prog 87 [one (.int .i64 x), capT n] (one (.bool (decide (x < 0 ∨ n ≤ x)))) := by
  unfold capT
  refine Ok.enter Try.func87 rfl Try.ntmps87 rfl (fun w O => ?_)
  refine J_seq ?_
  refine J_reg ?_
  refine st (s_assign rfl) rfl ?_
  refine Run.nil ?_
  refine pj_then ?_
  refine J_seq ?_
  refine J_reg ?_
  refine st (s_move rfl) rfl ?_
  refine st (s_lt rfl rfl) rfl ?_
  refine st (s_move rfl) rfl ?_
  refine bsel (t := 6) rfl (fun b h1 => ?_)
  rw [h1]
  cases b
  · simp at h1
    refine sg1 rfl rfl (s_move rfl) rfl ?_
    refine sg1 rfl rfl (s_load rfl) rfl ?_
    refine sg1 rfl rfl (s_ge rfl rfl) rfl ?_
    refine st (s_pickF rfl rfl) rfl ?_
    refine st (s_assign rfl) rfl ?_
    refine Run.nil ?_
    refine pj_then ?_
    refine J_ret ?_
    refine retc1 Try.results87 (.tmp rfl (one_le ?_))
    congr 1; rw [decide_eq_decide]; omega
  · simp at h1
    refine sg0 rfl rfl rfl rfl ?_
    refine sg0 rfl rfl rfl rfl ?_
    refine sg0 rfl rfl rfl rfl ?_
    refine st (s_pickT rfl rfl) rfl ?_
    refine st (s_assign rfl) rfl ?_
    refine Run.nil ?_
    refine pj_then ?_
    refine J_ret ?_
    refine retc1 Try.results87 (.tmp rfl (one_le ?_))
    congr 1; symm; rw [decide_eq_true_eq]; omega
set_option maxHeartbeats 1000000 in
theorem Pick1_ok (n : Int) : Ok Try.prog 86 [one (.int .i64 n)] (cloT 87 [capT n]) := by
  refine Ok.enter Try.func86 rfl Try.ntmps86 rfl (fun w O => ?_)
  refine J_seq ?_
  refine J_reg ?_
  refine a_box rfl rfl (ltN rfl) (fun b => ?_)
  refine st (s_assign rfl) rfl ?_
  refine Run.nil ?_
  refine pj_then ?_
  refine J_seq ?_
  refine J_reg ?_
  refine st (s_makeFunc rfl) rfl ?_
  refine st (s_assign rfl) rfl ?_
  refine Run.nil ?_
  refine pj_then ?_
  refine J_ret ?_
  refine PJ_open [boxO b 3 1 [(0, .one, one (.int .i64 n))]] (List.Perm.refl _) .nil (EntG.set (t := 2) rfl (Ent.clo1 (Ent.ptr (T := 3) (L := .one) List.mem_cons_self List.mem_cons_self))) ?_
  refine retc1 Try.results86 (.tmp rfl (VT.le_refl _))
end Tor
end

section
set_option linter.unusedVariables false
set_option linter.unusedSimpArgs false
namespace Tor
open Go Go.RowKit Go.Proofs
def sumF : Nat → (Nat → Int) → Int
  | 0, _ => 0
  | n + 1, f => sumF n f + f n
theorem sumF_congr {n : Nat} {f g : Nat → Int} (h : ∀ i, i < n → f i = g i) : sumF n f = sumF n g := by
  induction n with
  | zero => rfl
  | succ n ih => rw [sumF, sumF, ih (fun i hi => h i (by omega)), h n (by omega)]
theorem sumF_bound {n B : Nat} {f : Nat → Int} (h : ∀ i, (f i).natAbs ≤ B) : (sumF n f).natAbs ≤ n * B := by
  induction n with
  | zero => simp [sumF]
  | succ n ih =>
    rw [sumF, Nat.succ_mul]
    have := h n
    omega
theorem sum_small {n : Nat} {f : Nat → Int} (hn : n ≤ 1048576) (h : ∀ i, (f i).natAbs ≤ 2 ^ 800) : small (sumF n f) :=
  small_le (sumF_bound h) (Nat.lt_of_le_of_lt (Nat.mul_le_mul_right _ hn) (by decide +kernel))
def mulF (n : Nat) (F G : Nat → Nat → Int) : Nat → Nat → Int := fun i j => sumF n (fun k => F i k * G k j)
theorem sumF_step {n : Nat} {f : Nat → Int} : sumF (n + 1) f = sumF n f + f n := rfl
attribute [local irreducible] Tor.J Tor.PJ Tor.StepO Tor.one Tor.slT Tor.ptrT Tor.aggT Tor.tupT Tor.exT Tor.andT Tor.gT Tor.eP Tor.boxO Tor.sliO Tor.slV Tor.VT.le Tor.Ret Tor.anyT
attribute [local irreducible] bigT
end Tor
end

section
set_option linter.unusedVariables false
set_option linter.unusedSimpArgs false
namespace Tor
open Go Go.RowKit Go.Proofs
instance : Idle Try.prog 72 := Idle.of Try.func72 rfl Try.ntmps72 Try.results72
attribute [local irreducible] Tor.J Tor.PJ Tor.StepO Tor.one Tor.slT Tor.ptrT Tor.aggT Tor.tupT Tor.exT Tor.andT Tor.gT Tor.eP Tor.boxO Tor.sliO Tor.slV Tor.VT.le Tor.Ret Tor.anyT
attribute [local irreducible] Tor.rowsO
set_option maxHeartbeats 2000000 in
theorem New_ok (r c : Nat) (hr : r ≤ 1048576) (hc0 : c ≤ 1048576) : OkM Try.prog 45 [one (.int .i64 r), one (.int .i64 c)] (newT r c) (fun s => [outO s.1.2.1 s.1.2.2 r c s.1.1, ownR c s.1.1 (fun _ _ => 0)]) := by
  refine OkM.enterD Try.func45 rfl Try.ntmps45 rfl (fun w O => ?_)
  have e1 : max (r : Int) 0 = r := by omega
  have e2 : max (c : Int) 0 = c := by omega
  refine J_seq ?_
  refine J_reg ?_
  refine a_allocS (T := 29) rfl rfl rfl (fun b => ?_)
  refine Run.nil ?_
  refine pj_then ?_
  refine J_seq ?_
  refine J_reg ?_
  refine a_defer rfl ?_
  refine Run.nil ?_
  refine pj_then ?_
  refine J_seq ?_
  refine J_reg ?_
  refine st (s_move rfl) rfl ?_
  refine st (s_max rfl rfl) rfl ?_
  refine st (s_move rfl) rfl ?_
  refine st (s_max rfl rfl) rfl ?_
  refine st (s_assign rfl) rfl ?_
  refine st (s_assign rfl) rfl ?_
  refine Run.nil ?_
  refine pj_then ?_
  refine J_seq ?_
  refine J_reg ?_
  refine st (s_move rfl) rfl ?_
  rw [e1, e2]
  refine a_makeSlice r r rfl rfl rfl rfl (Nat.le_refl _) rfl rfl (by omega) rfl rfl (fun bo => ?_)
  refine st (s_assign rfl) rfl ?_
  refine Run.nil ?_
  refine pj_then ?_
  refine J_seq ?_
  refine J_seq ?_
  refine J_reg ?_
  refine st (s_move rfl) rfl ?_
  refine st (s_lenO rfl) rfl ?_
  refine st (s_move rfl) rfl ?_
  refine Run.nil ?_
  refine pj_then ?_
  refine J_block ?_
  refine J_conv (ConvM.rows0 (T := 34) (L := .agg 2) (c := c) (φ := fun _ _ => bigT 0) _) ?_
  refine J_loop (σ := List Nat) (fun s => [(0, one (.int .i64 r)), (1, one (.int .i64 c)), (4, one (.pointer (some ⟨b, 0, none⟩))), (5, one (slV (some bo) r r)), (14, one (.int .i64 r)), (15, one (.int .i64 s.length))])
    (fun s => [sliO (some bo) 44 .one r r (fun q => if q < s.length then one (slV (some (s.getD q 0)) c c) else anyT), boxO b 29 3 (zeroC #[Value.int IntKind.i64 0, Value.int IntKind.i64 0, Value.slice none 0 0] [(0, Lay.one), (1, Lay.one), (2, Lay.one)]), ownR c s (fun _ _ => 0)])
    (fun s => s.length ≤ r) (fun s => r - s.length) [] (Nat.zero_le _) (by repeat (first | exact SubG.nil | refine SubG.cons rfl (VT.le_refl _) ?_ | (refine SubG.cons rfl (one_le ?_) ?_; (congr 1; first | omega | (simp; omega) | simp)))) (.keep (sliO_le fun q hq => by rw [if_neg (by simp)]; exact le_any _) (SubM.refl _)) (fun bs hk => ?_)
  refine J_seq ?_
  refine J_reg ?_
  refine st (s_lt rfl rfl) rfl ?_
  refine Run.nil ?_
  refine pj_then ?_
  refine J_seq ?_
  refine J_cond rfl (fun hc => ?_) (fun hc => ?_) <;> simp only [decide_eq_true_eq, decide_eq_false_iff_not, ne_eq, Decidable.not_not] at hc
  · refine J_skip ?_
    refine pj_then ?_
    refine J_seq ?_
    refine J_block ?_
    refine J_seq ?_
    refine J_reg ?_
    refine st (s_move rfl) rfl ?_
    refine st (s_assign rfl) rfl ?_
    refine Run.nil ?_
    refine pj_then ?_
    refine J_reg ?_
    refine st (s_move rfl) rfl ?_
    refine st (s_move rfl) rfl ?_
    refine st (s_move rfl) rfl ?_
    refine a_makeSlice c c rfl rfl rfl rfl (Nat.le_refl _) rfl rfl (by omega) rfl rfl (fun bz => ?_)
    (refine st (s_indexON rfl rfl ?_) rfl ?_; omega)
    (refine a_storeE 1 rfl rfl rfl ?_ rfl ?_; omega)
    refine Run.nil ?_
    refine pn_block ?_
    refine pj_then ?_
    refine J_reg ?_
    (refine st (s_add rfl rfl (wrap_i64 ?_ ?_)) rfl ?_; omega; omega)
    refine st (s_move rfl) rfl ?_
    refine Run.nil ?_
    refine PJ_conv (ConvM.row (k := 2) rfl) ?_
    refine pj_round (s := bs) (bs ++ [bz]) (by simp; omega) (by simp; omega) (.cons rfl (VT.le_refl _) (.cons rfl (VT.le_refl _) (.cons rfl (VT.le_refl _) (.cons rfl (VT.le_refl _) (.cons rfl (VT.le_refl _) (.cons rfl (one_le (by simp)) .nil)))))) ?_
    refine .keep (sliO_eq (fun q hq => ?_)) (.keep (Own.le_refl _) (.keep (rowsO_le fun i j hi hj => ?_) .nil))
    · unfold upd
      by_cases h : q = bs.length
      · subst h; simp
      · rw [if_neg h]
        show (if q < bs.length then one (slV (some (bs.getD q 0)) c c) else anyT) = _
        by_cases h2 : q < bs.length
        · rw [if_pos h2, if_pos (by simp; omega)]; simp [List.getElem?_append_left h2]
        · rw [if_neg h2, if_neg (by simp; omega)]
    · simp only
      split
      · exact VT.le_refl _
      · exact zero_big
  · have hlen : bs.length = r := by omega
    subst hlen
    refine J_exit ?_
    refine px_then ?_
    refine px_then ?_
    refine px_block ?_
    refine pj_then ?_
    refine J_seq ?_
    refine J_reg ?_
    refine st (s_move rfl) rfl ?_
    refine st (s_move rfl) rfl ?_
    refine st (s_move rfl) rfl ?_
    refine stB rfl rfl rfl ?_
    refine BuildK.cons rfl rfl rfl ?_
    refine BuildK.cons rfl rfl rfl ?_
    refine BuildK.cons rfl rfl rfl ?_
    refine BuildK.nil ?_
    refine a_storeW 1 rfl rfl rfl rfl ?_
    refine Run.nil ?_
    refine pj_then ?_
    refine J_ret ?_
    refine pj_idle (retM1 ⟨(bs, some bo, bs.length), rfl, fun h => by cases h⟩ Try.results45 (.cellW 1 rfl rfl (VT.le_refl _)) ?_)
    refine .keep (sliO_eq fun q hq => ?_) (.drop (SubM.refl _))
    rw [if_pos hq]
attribute [local irreducible] bigT
set_option maxHeartbeats 2000000 in
theorem Identity_ok (n : Nat) (hn : n ≤ 1048576) : Ok Try.prog 44 [one (.int .i64 n)] (matF n n (fun i j => if i = j then 1 else 0)) := by
  refine Ok.enter Try.func44 rfl Try.ntmps44 rfl (fun w O => ?_)
  refine J_seq ?_
  refine J_reg ?_
  refine a_allocS (T := 29) rfl rfl rfl (fun b => ?_)
  refine Run.nil ?_
  refine pj_then ?_
  refine J_seq ?_
  refine J_reg ?_
  refine st (s_move rfl) rfl ?_
  refine st (s_move rfl) rfl ?_
  refine a_callM (New_ok n n hn hn) rfl ⟨VT.le_refl _, VT.le_refl _, trivial⟩ rfl rfl (fun s => ?_)
  obtain ⟨⟨bs, sv1, cap1⟩, hlen, hsv⟩ := s
  simp only at hlen hsv
  unfold newT
  refine a_allocS (T := 29) rfl rfl rfl (fun b => ?_)
  refine a_storeW 0 rfl rfl rfl rfl ?_
  refine Run.nil ?_
  refine pj_then ?_
  refine J_seq ?_
  refine J_seq ?_
  refine J_reg ?_
  refine st (s_fieldAddr rfl) rfl ?_
  refine st (s_loadB 0 rfl rfl rfl) rfl ?_
  refine st (s_lenO rfl) rfl ?_
  refine st (s_move rfl) rfl ?_
  refine Run.nil ?_
  refine pj_then ?_
  refine J_block ?_
  rename_i b2
  refine J_loop (σ := Nat) (fun i => [(2, one (.pointer (some ⟨b2, 0, none⟩))), (3, one (.pointer (some ⟨b, 0, none⟩))), (10, one (.int .i64 n)), (11, one (.int .i64 (i : Nat)))])
    (fun i => [boxO b 29 3 [(0, .one, one (.int .i64 n)), (1, .one, one (.int .i64 n)), (2, .one, one (slV sv1 n cap1))], outO sv1 cap1 n n bs, ownR n bs (fun q k => if q < i then (if q = k then 1 else 0) else 0),
      boxO b2 29 3 (zeroC #[Value.int IntKind.i64 0, Value.int IntKind.i64 0, Value.slice none 0 0] [(0, Lay.one), (1, Lay.one), (2, Lay.one)])])
    (fun i => i ≤ n) (fun i => n - i) 0 (Nat.zero_le _) (by repeat (first | exact SubG.nil | refine SubG.cons rfl (VT.le_refl _) ?_ | (refine SubG.cons rfl (one_le ?_) ?_; (congr 1; first | omega | (simp; omega) | simp)))) (.keep (Own.le_refl _) (.keep (Own.le_refl _) (.keep (ownR_le fun i j hi hj => by simp) (SubM.refl _)))) (fun i hi => ?_)
  refine J_seq ?_
  refine J_reg ?_
  refine st (s_lt rfl rfl) rfl ?_
  refine Run.nil ?_
  refine pj_then ?_
  refine J_seq ?_
  refine J_cond rfl (fun hc => ?_) (fun hc => ?_) <;> simp only [decide_eq_true_eq, decide_eq_false_iff_not, ne_eq, Decidable.not_not] at hc
  · obtain ⟨bo, rfl⟩ := sv_some hsv (by omega)
    refine J_skip ?_
    refine pj_then ?_
    refine J_seq ?_
    refine J_block ?_
    refine J_seq ?_
    refine J_reg ?_
    refine st (s_move rfl) rfl ?_
    refine st (s_assign rfl) rfl ?_
    refine Run.nil ?_
    refine pj_then ?_
    refine J_regd 8 mixed (by kernel_rfl) (by decide) ?_
    refine st (s_fieldAddr rfl) rfl ?_
    refine st (s_loadB 0 rfl rfl rfl) rfl ?_
    refine st (s_move rfl) rfl ?_
    (refine st (s_indexON rfl rfl ?_) rfl ?_; omega)
    (refine st (s_loadE 1 rfl rfl ?_) rfl ?_; omega)
    refine st (s_move rfl) rfl ?_
    refine st (s_callk (Of_ok 1 (by decide) (by decide)) rfl ⟨VT.le_refl _, trivial⟩) rfl ?_
    (refine st (s_indexON rfl rfl ?_) rfl ?_; omega)
    refine Run.nil ?_
    (refine a_storeR 2 rfl rfl rfl (getq ?_) ?_ rfl ?_; omega; omega)
    refine Run.nil ?_
    refine pn_block ?_
    refine pj_then ?_
    refine J_reg ?_
    (refine st (s_add rfl rfl (wrap_i64 ?_ ?_)) rfl ?_; omega; omega)
    refine st (s_move rfl) rfl ?_
    refine Run.nil ?_
    refine pj_round (s := i) (i + 1) (show _ from by omega) (by omega) (by repeat (first | exact SubG.nil | refine SubG.cons rfl (VT.le_refl _) ?_ | (refine SubG.cons rfl (one_le ?_) ?_; (congr 1; first | omega | (simp; omega) | simp)))) (.keep (Own.le_refl _) (.keep (Own.le_refl _) (.keep (rowsO_eq fun q k hq hk => ?_) (SubM.refl _))))
    unfold upd2
    by_cases h : q = i
    · subst h
      by_cases h2 : k = q
      · subst h2; simp
      · have h3 : ¬ q = k := fun e => h2 e.symm
        simp [h2, h3]
    · have h3 : q < i + 1 ↔ q < i := by omega
      simp [h, h3]
  · have hin : i = n := by omega
    subst hin
    refine J_exit ?_
    refine px_then ?_
    refine px_then ?_
    refine px_block ?_
    refine pj_then ?_
    refine J_seq ?_
    refine J_reg ?_
    refine st (s_loadW 0 rfl rfl) rfl ?_
    refine a_storeW 3 rfl rfl rfl rfl ?_
    refine Run.nil ?_
    refine pj_then ?_
    refine J_ret ?_
    have hperm : ∀ (x y z u : Own), [x, y, z, u].Perm ([y, z] ++ [x, u]) := fun x y z u => (List.Perm.swap y x _).trans (List.Perm.cons y (List.Perm.swap z x _))
    refine PJ_open [outO sv1 cap1 i i bs, ownR i bs (fun q k => if q < i then (if q = k then 1 else 0) else 0)] (hperm _ _ _ _) (.keep (EntO.refl _) (.keep (EntO.box (newT_open hlen ⟨by simp, by simp, by simp⟩)) .nil)) (EntG.refl _) ?_
    refine retc1 Try.results44 (.cellW 1 rfl rfl ?_)
    exact matF_le fun a b ha hb => by simp [ha]
end Tor
end

section
set_option linter.unusedVariables false
set_option linter.unusedSimpArgs false
namespace Tor
open Go Go.RowKit Go.Proofs
def resMT (ok : Bool) (e : Int) (r c : Nat) (F : Nat → Nat → Int) : VT := tupT [matF (if ok then r else 0) (if ok then c else 0) F, one (.int .i64 (if ok then 0 else e))]
theorem zero_mat (F : Nat → Nat → Int) : VT.le (aggT 3 (zeroC #[Value.int IntKind.i64 0, Value.int IntKind.i64 0, Value.slice none 0 0] [(0, Lay.one), (1, Lay.one), (2, Lay.one)])) (matF 0 0 F) := by
  unfold matF
  refine aggT_le (fun q hq => ?_)
  rcases List.mem_cons.1 hq with rfl | hq
  · exact ⟨_, List.mem_cons_self, VT.le_refl _⟩
  rcases List.mem_cons.1 hq with rfl | hq
  · exact ⟨_, List.mem_cons_of_mem _ List.mem_cons_self, VT.le_refl _⟩
  rcases List.mem_cons.1 hq with rfl | hq
  · exact ⟨_, List.mem_cons_of_mem _ (List.mem_cons_of_mem _ List.mem_cons_self), nil_slT⟩
  · cases hq
theorem zero_bigC : VT.le (aggT 2 (zeroC #[Value.bool false, Value.slice none 0 0] [(0, Lay.one), (1, Lay.one)])) (bigT 0) := by
  unfold bigT
  refine aggT_le (fun q hq => ?_)
  rcases List.mem_cons.1 hq with rfl | hq
  · exact ⟨_, List.mem_cons_self, VT.le_refl _⟩
  rcases List.mem_cons.1 hq with rfl | hq
  · exact ⟨_, List.mem_cons_of_mem _ List.mem_cons_self, nil_slT⟩
  · cases hq
attribute [local irreducible] Tor.J Tor.PJ Tor.StepO Tor.one Tor.slT Tor.ptrT Tor.aggT Tor.tupT Tor.exT Tor.andT Tor.gT Tor.eP Tor.boxO Tor.sliO Tor.slV Tor.VT.le Tor.Ret Tor.anyT
attribute [local irreducible] bigT
set_option maxHeartbeats 2000000 in
theorem Beside_ok (ra ca : Nat) (F : Nat → Nat → Int) (rb cb : Nat) (G : Nat → Nat → Int) (h1 : ra ≤ 1048576) (h2 : ca ≤ 1048576) (h4 : cb ≤ 1048576) (hF : ∀ i j, small (F i j)) (hG : ∀ i j, small (G i j)) :
    Ok Try.prog 43 [matF ra ca F, matF rb cb G] (resMT (decide (ra = rb)) 50 ra (ca + cb) (fun i k => if k < ca then F i k else G i (k - ca))) := by
  unfold resMT
  refine Ok.enter Try.func43 rfl Try.ntmps43 rfl (fun w O => ?_)
  have hI : ∀ (φ : VT), φ = φ := fun _ => rfl
  unfold matF
  refine J_seq ?_
  refine J_reg ?_
  refine a_boxS rfl rfl (ltN rfl) (fun b => ?_)
  refine a_boxS rfl rfl (ltN rfl) (fun b => ?_)
  refine a_allocS (T := 29) rfl rfl rfl (fun b => ?_)
  refine st (s_assign rfl) rfl ?_
  refine Run.nil ?_
  refine pj_then ?_
  refine J_seq ?_
  refine J_seq ?_
  refine J_reg ?_
  refine st (s_loadW 2 rfl rfl) rfl ?_
  refine st (s_loadW 1 rfl rfl) rfl ?_
  refine stS rfl rfl rfl rfl ?_
  refine PartsK.cons rfl ?_
  refine PartsK.cons rfl ?_
  refine PartsK.nil ?_
  refine st (s_callk (valid2_ok ra ca F rb cb G) rfl ⟨two_mat2, trivial⟩) rfl ?_
  refine st (s_not rfl) rfl ?_
  refine st (s_move rfl) rfl ?_
  refine sg1 rfl rfl (s_fieldAddr rfl) rfl ?_
  refine sg1 rfl rfl (s_loadB 2 rfl rfl rfl) rfl ?_
  refine sg1 rfl rfl (s_fieldAddr rfl) rfl ?_
  refine sg1 rfl rfl (s_loadB 1 rfl rfl rfl) rfl ?_
  refine sg1 rfl rfl (s_ne rfl rfl) rfl ?_
  refine st (s_pickF rfl rfl) rfl ?_
  refine Run.nil ?_
  refine pj_then ?_
  refine J_cond rfl (fun hc => ?_) (fun hc => ?_) <;> simp only [decide_eq_true_eq, decide_eq_false_iff_not, ne_eq, Decidable.not_not] at hc
  · have hne : ¬ ra = rb := by omega
    refine J_seq ?_
    refine J_reg ?_
    refine stB rfl rfl rfl ?_
    refine BuildK.nil ?_
    refine a_storeW 0 rfl rfl rfl rfl ?_
    refine st (s_assign rfl) rfl ?_
    refine Run.nil ?_
    refine pj_then ?_
    refine J_ret ?_
    refine pr_then ?_
    refine retc2 Try.results43 (.cellW 0 rfl rfl ?_) (.tmp rfl (one_le ?_))
    · rw [decide_eq_false hne]; exact zero_mat _
    · rw [decide_eq_false hne]; rfl
  · have he : ra = rb := by omega
    subst he
    refine J_skip ?_
    refine pj_then ?_
    refine J_seq ?_
    refine J_regd 13 mixed (by kernel_rfl) (by decide) ?_
    refine st (s_fieldAddr rfl) rfl ?_
    refine st (s_loadB 2 rfl rfl rfl) rfl ?_
    refine st (s_fieldAddr rfl) rfl ?_
    refine st (s_loadB 2 rfl rfl rfl) rfl ?_
    refine st (s_fieldAddr rfl) rfl ?_
    refine st (s_loadB 1 rfl rfl rfl) rfl ?_
    (refine st (s_add rfl rfl (wrap_i64 ?_ ?_)) rfl ?_; omega; omega)
    refine st (s_fieldAddr rfl) rfl ?_
    refine st (s_loadB 2 rfl rfl rfl) rfl ?_
    refine st (s_fieldAddr rfl) rfl ?_
    refine st (s_loadB 1 rfl rfl rfl) rfl ?_
    refine st (s_callk (combR_ok ra (fun i => rowF ca (F i)) (fun i => rowF cb (G i)) (fun i => rowF (ca + cb) (fun k => if k < ca then F i k else G i (k - ca))) (hF := fun i => by unfold rowF; infer_instance) (one (.func (.func 71) #[] #[])) h1 (fun i hi => Callable.fn (ownRow_ok ca cb (F i) (G i) h2 h4 (hF i) (hG i)))) rfl ⟨VT.le_refl _, VT.le_refl _, VT.le_refl _, trivial⟩) rfl ?_
    refine stB rfl rfl rfl ?_
    refine BuildK.cons rfl rfl rfl ?_
    refine BuildK.cons rfl rfl rfl ?_
    refine BuildK.cons rfl rfl rfl ?_
    refine BuildK.nil ?_
    refine Run.nil ?_
    refine a_storeW 0 rfl rfl rfl rfl ?_
    refine st (s_assign rfl) rfl ?_
    refine Run.nil ?_
    refine pj_then ?_
    refine J_ret ?_
    refine retc2 Try.results43 (.cellW 0 rfl rfl ?_) (.tmp rfl (one_le ?_))
    · simp only [decide_true, if_true]
      exact VT.le_refl _
    · simp
end Tor
end

section
set_option linter.unusedVariables false
set_option linter.unusedSimpArgs false
namespace Tor
open Go Go.RowKit Go.Proofs
def outs (n : Nat) (l : List Int) : Bool := l.any fun x => decide (x < 0 ∨ (n : Int) ≤ x)
theorem outs_at {n : Nat} {l : List Int} (h : outs n l = false) {i : Nat} (hi : i < l.length) : 0 ≤ l.getD i 0 ∧ l.getD i 0 < n := by
  have := List.any_eq_false.1 h (l.getD i 0) (by simp only [List.getD, List.getElem?_eq_getElem hi, Option.getD_some]; exact List.getElem_mem hi)
  simp only [decide_eq_true_eq] at this; omega
def pickF (l m : List Int) (F : Nat → Nat → Int) : Nat → Nat → Int := fun i j => F (l.getD i 0).toNat (m.getD j 0).toNat
theorem getD_cast {l : List Int} {n i : Nat} (h : outs n l = false) (hi : i < l.length) : ∃ k : Nat, k < n ∧ l.getD i 0 = (k : Int) := ⟨(l.getD i 0).toNat, by have := outs_at h hi; omega, by have := outs_at h hi; omega⟩
def fill2 (F : Nat → Nat → Int) (i j : Nat) : Nat → Nat → Int := fun q k => if q < i ∨ (q = i ∧ k < j) then F q k else 0
theorem upd_fill2 {T : TypeId} {c : Nat} {bs : List Nat} {F : Nat → Nat → Int} {i j : Nat} (x : Int) (hx : x = F i j) :
    Own.le (rowsO T (.agg 2) c bs (upd2 (fun q k => bigT (fill2 F i j q k)) i j (bigT x))) (rowsO T (.agg 2) c bs (fun q k => bigT (fill2 F i (j + 1) q k))) := by
  subst hx
  refine rowsO_eq fun q k hq hk => ?_
  unfold upd2 fill2
  by_cases h : q = i ∧ k = j
  · obtain ⟨rfl, rfl⟩ := h; simp
  · rw [if_neg h]
    have e : (q < i ∨ q = i ∧ k < j + 1) ↔ (q < i ∨ q = i ∧ k < j) := by omega
    simp only [e]
theorem next_fill2 {c : Nat} {bs : List Nat} {F : Nat → Nat → Int} {i : Nat} : Own.le (ownR c bs (fill2 F i c)) (ownR c bs (fill2 F (i + 1) 0)) := by
  refine ownR_le fun q k hq hk => ?_
  unfold fill2
  have e : (q < i ∨ q = i ∧ k < c) ↔ (q < i + 1 ∨ q = i + 1 ∧ k < 0) := by omega
  simp only [e]
attribute [local irreducible] Tor.J Tor.PJ Tor.StepO Tor.one Tor.slT Tor.ptrT Tor.aggT Tor.tupT Tor.exT Tor.andT Tor.gT Tor.eP Tor.boxO Tor.sliO Tor.slV Tor.VT.le Tor.Ret Tor.anyT
attribute [local irreducible] bigT Tor.rowsO
set_option maxHeartbeats 8000000 in
theorem Pick_ok (r c : Nat) (F : Nat → Nat → Int) (l m : List Int) (hl : l.length ≤ 1048576) (hm : m.length ≤ 1048576) (hF : ∀ i j, small (F i j)) :
    Ok Try.prog 73 [matF r c F, numT .i64 l, numT .i64 m] (resMT (!(outs r l || outs c m)) 1 l.length m.length (pickF l m F)) := by
  unfold resMT matF numT
  refine Ok.enter Try.func73 rfl Try.ntmps73 rfl (fun w O => ?_)
  have hcl : ∀ (n : Nat) (l : List Int), ∀ x ∈ l, Callable Try.prog (cloT 87 [capT (n : Int)]) [one (.int .i64 x)] (one (.bool (decide (x < 0 ∨ (n : Int) ≤ x)))) := fun n l x hx => Callable.clo (Pick11_ok x n)
  have hcont : ∀ (n : Nat) (l : List Int), Ok Try.prog 88 [slT .one l.length (fun i => one (.int .i64 (l.getD i 0))), cloT 87 [capT (n : Int)]] (one (.bool (outs n l))) := fun n l => ContainsFunc_ok l _ _ (hcl n l)
  refine J_seq ?_
  refine J_reg ?_
  refine a_boxS rfl rfl (ltN rfl) (fun b => ?_)
  refine a_allocS (T := 29) rfl rfl rfl (fun b => ?_)
  refine st (s_assign rfl) rfl ?_
  refine Run.nil ?_
  refine pj_then ?_
  refine J_seq ?_
  refine J_reg ?_
  refine st (s_assign rfl) rfl ?_
  refine Run.nil ?_
  refine pj_then ?_
  refine J_seq ?_
  refine J_seq ?_
  refine J_reg ?_
  refine st (s_loadW 1 rfl rfl) rfl ?_
  rename_i ba
  refine st (s_callk (matValidF_ok r c F) rfl ⟨VT.le_refl _, trivial⟩) rfl ?_
  refine st (s_not rfl) rfl ?_
  refine st (s_move rfl) rfl ?_
  refine sg1 rfl rfl (s_move rfl) rfl ?_
  refine sg1 rfl rfl (s_move rfl) rfl ?_
  refine sg1 rfl rfl (s_fieldAddr rfl) rfl ?_
  refine sg1 rfl rfl (s_loadB 1 rfl rfl rfl) rfl ?_
  refine sg1 rfl rfl (s_callF (Callable.fn (Pick1_ok (r : Int))) rfl rfl ⟨VT.le_refl _, trivial⟩) rfl ?_
  refine sg1 rfl rfl (s_callk (hcont r l) rfl ⟨VT.le_refl _, VT.le_refl _, trivial⟩) rfl ?_
  refine st (s_pickF rfl rfl) rfl ?_
  refine st (s_move rfl) rfl ?_
  refine bsel (t := 25) rfl (fun o1 h1 => ?_)
  rw [h1]
  cases o1
  · refine sg1 rfl rfl (s_move rfl) rfl ?_
    refine sg1 rfl rfl (s_move rfl) rfl ?_
    refine sg1 rfl rfl (s_fieldAddr rfl) rfl ?_
    refine sg1 rfl rfl (s_loadB 1 rfl rfl rfl) rfl ?_
    refine sg1 rfl rfl (s_callF (Callable.fn (Pick1_ok (c : Int))) rfl rfl ⟨VT.le_refl _, trivial⟩) rfl ?_
    refine sg1 rfl rfl (s_callk (hcont c m) rfl ⟨VT.le_refl _, VT.le_refl _, trivial⟩) rfl ?_
    refine st (s_pickF rfl rfl) rfl ?_
    refine Run.nil ?_
    refine pj_then ?_
    refine J_cond rfl (fun h2 => ?_) (fun h2 => ?_)
    · refine J_seq ?_
      refine J_reg ?_
      refine stB rfl rfl rfl ?_
      refine BuildK.nil ?_
      refine a_storeW 0 rfl rfl rfl rfl ?_
      refine st (s_assign rfl) rfl ?_
      refine Run.nil ?_
      refine pj_then ?_
      refine J_ret ?_
      refine pr_then ?_
      refine retc2 Try.results73 (.cellW 0 rfl rfl ?_) (.tmp rfl (one_le ?_))
      · rw [h2]; simp only [Bool.or_true, Bool.not_true, Bool.false_eq_true, if_false]; exact zero_mat _
      · rw [h2]; simp
    · refine J_skip ?_
      refine pj_then ?_
      refine J_seq ?_
      refine J_reg ?_
      refine st (s_move rfl) rfl ?_
      refine st (s_len rfl) rfl ?_
      refine st (s_move rfl) rfl ?_
      refine st (s_len rfl) rfl ?_
      refine a_callM (New_ok l.length m.length hl hm) rfl ⟨VT.le_refl _, VT.le_refl _, trivial⟩ rfl rfl (fun s => ?_)
      obtain ⟨⟨bs, sv1, cap1⟩, hlen, hsv⟩ := s
      simp only at hlen hsv
      unfold newT
      refine a_allocS (T := 29) rfl rfl rfl (fun b => ?_)
      refine a_storeW 0 rfl rfl rfl rfl ?_
      refine Run.nil ?_
      refine pj_then ?_
      refine J_seq ?_
      refine J_seq ?_
      refine J_reg ?_
      refine st (s_move rfl) rfl ?_
      refine st (s_len rfl) rfl ?_
      refine st (s_move rfl) rfl ?_
      refine Run.nil ?_
      refine pj_then ?_
      refine J_block ?_
      rename_i b6
      refine J_loop (σ := Nat) (fun i => [(2, slT .one m.length (fun i => one (.int .i64 (m.getD i 0)))), (3, one (.pointer (some ⟨ba, 0, none⟩))), (6, one (.pointer (some ⟨b6, 0, none⟩))), (9, one (.pointer (some ⟨b, 0, none⟩))), (39, slT .one l.length (fun i => one (.int .i64 (l.getD i 0)))), (40, one (.int .i64 l.length)), (41, one (.int .i64 (i : Nat)))])
        (fun i => [boxO b 29 3 [(0, .one, one (.int .i64 l.length)), (1, .one, one (.int .i64 m.length)), (2, .one, one (slV sv1 l.length cap1))], outO sv1 cap1 l.length m.length bs, ownR m.length bs (fill2 (pickF l m F) i 0),
          boxO b6 29 3 (zeroC #[Value.int IntKind.i64 0, Value.int IntKind.i64 0, Value.slice none 0 0] [(0, Lay.one), (1, Lay.one), (2, Lay.one)]),
          boxO ba 29 3 [(0, .one, one (.int .i64 r)), (1, .one, one (.int .i64 c)), (2, .one, slT .one r (fun i => rowF c (F i)))]])
        (fun i => i ≤ l.length) (fun i => l.length - i) 0 (Nat.zero_le _) (by repeat (first | exact SubG.nil | refine SubG.cons rfl (VT.le_refl _) ?_ | (refine SubG.cons rfl (one_le ?_) ?_; (congr 1; first | omega | (simp; omega) | simp)))) (.keep (Own.le_refl _) (.keep (Own.le_refl _) (.keep (ownR_le fun i j hi hj => by simp [fill2]) (SubM.refl _)))) (fun i hi => ?_)
      refine J_seq ?_
      refine J_reg ?_
      refine st (s_lt rfl rfl) rfl ?_
      refine Run.nil ?_
      refine pj_then ?_
      refine J_seq ?_
      refine J_cond rfl (fun hc => ?_) (fun hc => ?_) <;> simp only [decide_eq_true_eq, decide_eq_false_iff_not, Int.ofNat_lt] at hc
      · obtain ⟨bo, rfl⟩ := sv_some hsv (by omega)
        obtain ⟨x, hx, ex⟩ := getD_cast h1 hc
        refine J_skip ?_
        refine pj_then ?_
        refine J_seq ?_
        refine J_block ?_
        refine J_seq ?_
        refine J_reg ?_
        refine st (s_move rfl) rfl ?_
        (refine st (s_indexIN rfl rfl ?_) rfl ?_; omega)
        refine st (s_load rfl) rfl ?_
        refine st (s_assign rfl) rfl ?_
        refine st (s_assign rfl) rfl ?_
        refine Run.nil ?_
        refine pj_then ?_
        refine J_seq ?_
        refine J_reg ?_
        refine st (s_move rfl) rfl ?_
        refine st (s_len rfl) rfl ?_
        refine st (s_move rfl) rfl ?_
        refine Run.nil ?_
        refine pj_then ?_
        refine J_block ?_
        rw [ex]
        skip
        refine J_loop (σ := Nat) (fun j => [(2, slT .one m.length (fun i => one (.int .i64 (m.getD i 0)))), (3, one (.pointer (some ⟨ba, 0, none⟩))), (6, one (.pointer (some ⟨b6, 0, none⟩))), (9, one (.pointer (some ⟨b, 0, none⟩))), (10, one (.int .i64 (i : Nat))), (11, one (.int .i64 (x : Nat))), (39, slT .one l.length (fun i => one (.int .i64 (l.getD i 0)))), (40, one (.int .i64 l.length)), (41, one (.int .i64 (i : Nat))), (46, slT .one m.length (fun i => one (.int .i64 (m.getD i 0)))), (47, one (.int .i64 m.length)), (48, one (.int .i64 (j : Nat)))])
          (fun j => [boxO b 29 3 [(0, .one, one (.int .i64 l.length)), (1, .one, one (.int .i64 m.length)), (2, .one, one (slV (some bo) l.length cap1))], outO (some bo) cap1 l.length m.length bs, ownR m.length bs (fill2 (pickF l m F) i j),
          boxO b6 29 3 (zeroC #[Value.int IntKind.i64 0, Value.int IntKind.i64 0, Value.slice none 0 0] [(0, Lay.one), (1, Lay.one), (2, Lay.one)]),
          boxO ba 29 3 [(0, .one, one (.int .i64 r)), (1, .one, one (.int .i64 c)), (2, .one, slT .one r (fun i => rowF c (F i)))]])
          (fun j => j ≤ m.length) (fun j => m.length - j) 0 (Nat.zero_le _) (by repeat (first | exact SubG.nil | refine SubG.cons rfl (VT.le_refl _) ?_ | (refine SubG.cons rfl (one_le ?_) ?_; (congr 1; first | omega | (simp; omega) | simp)))) (SubM.refl _) (fun j hj => ?_)
        refine J_seq ?_
        refine J_reg ?_
        refine st (s_lt rfl rfl) rfl ?_
        refine Run.nil ?_
        refine pj_then ?_
        refine J_seq ?_
        refine J_cond rfl (fun hc2 => ?_) (fun hc2 => ?_) <;> simp only [decide_eq_true_eq, decide_eq_false_iff_not, Int.ofNat_lt] at hc2
        · obtain ⟨y, hy, ey⟩ := getD_cast h2 hc2
          refine J_skip ?_
          refine pj_then ?_
          refine J_seq ?_
          refine J_block ?_
          refine J_seq ?_
          refine J_reg ?_
          refine st (s_move rfl) rfl ?_
          (refine st (s_indexIN rfl rfl ?_) rfl ?_; omega)
          refine st (s_load rfl) rfl ?_
          refine st (s_assign rfl) rfl ?_
          refine st (s_assign rfl) rfl ?_
          refine Run.nil ?_
          refine pj_then ?_
          rw [ey]
          skip
          refine J_regd 16 mixed (by kernel_rfl) (by decide) ?_
          unfold rowF
          refine st (s_fieldAddr rfl) rfl ?_
          refine st (s_loadB 0 rfl rfl rfl) rfl ?_
          refine st (s_move rfl) rfl ?_
          (refine st (s_indexON rfl rfl ?_) rfl ?_; omega)
          (refine st (s_loadE 1 rfl rfl ?_) rfl ?_; omega)
          refine st (s_move rfl) rfl ?_
          refine st (s_fieldAddr rfl) rfl ?_
          refine st (s_loadB 4 rfl rfl rfl) rfl ?_
          refine st (s_move rfl) rfl ?_
          (refine st (s_indexIN rfl rfl ?_) rfl ?_; omega)
          refine st (s_load rfl) rfl ?_
          refine st (s_move rfl) rfl ?_
          (refine st (s_indexIN rfl rfl ?_) rfl ?_; omega)
          refine st (s_load rfl) rfl ?_
          refine st (s_callk (own_ok (F x y) (hF x y)) rfl ⟨VT.le_refl _, trivial⟩) rfl ?_
          (refine st (s_indexON rfl rfl ?_) rfl ?_; omega)
          refine Run.nil ?_
          (refine a_storeR 2 rfl rfl rfl (getq ?_) ?_ rfl ?_; omega; omega)
          refine Run.nil ?_
          refine pn_block ?_
          refine pj_then ?_
          refine J_reg ?_
          (refine st (s_add rfl rfl (wrap_i64 ?_ ?_)) rfl ?_; omega; omega)
          refine st (s_move rfl) rfl ?_
          refine Run.nil ?_
          refine pj_round (s := j) (j + 1) (show _ from by omega) (by show m.length - (j + 1) < m.length - j; omega) (by repeat (first | exact SubG.nil | refine SubG.cons rfl (VT.le_refl _) ?_ | (refine SubG.cons rfl (one_le ?_) ?_; (congr 1; first | omega | (simp; omega) | simp)))) (.keep (Own.le_refl _) (.keep (Own.le_refl _) (.keep (upd_fill2 _ ?_) (SubM.refl _))))
          unfold pickF; rw [ex, ey]; rfl
        · have hjm : j = m.length := by omega
          subst hjm
          refine J_exit ?_
          refine px_then ?_
          refine px_then ?_
          refine px_block ?_
          refine pn_block ?_
          refine pj_then ?_
          refine J_reg ?_
          (refine st (s_add rfl rfl (wrap_i64 ?_ ?_)) rfl ?_; omega; omega)
          refine st (s_move rfl) rfl ?_
          refine Run.nil ?_
          exact pj_round (s := i) (i + 1) (show _ from by omega) (by show l.length - (i + 1) < l.length - i; omega) (by repeat (first | exact SubG.nil | refine SubG.cons rfl (VT.le_refl _) ?_ | (refine SubG.cons rfl (one_le ?_) ?_; (congr 1; first | omega | (simp; omega) | simp)))) (.keep (Own.le_refl _) (.keep (Own.le_refl _) (.keep next_fill2 (SubM.refl _))))
      · have hin : i = l.length := by omega
        subst hin
        refine J_exit ?_
        refine px_then ?_
        refine px_then ?_
        refine px_block ?_
        refine pj_then ?_
        refine J_seq ?_
        refine J_reg ?_
        refine st (s_loadW 0 rfl rfl) rfl ?_
        refine a_storeW 3 rfl rfl rfl rfl ?_
        refine st (s_assign rfl) rfl ?_
        refine Run.nil ?_
        refine pj_then ?_
        refine J_ret ?_
        have hperm : ∀ (x y z u t : Own), [x, y, z, u, t].Perm ([y, z] ++ [x, u, t]) := fun x y z u t => (List.Perm.swap y x _).trans (List.Perm.cons y (List.Perm.swap z x _))
        refine PJ_open [outO sv1 cap1 l.length m.length bs, ownR m.length bs (fill2 (pickF l m F) l.length 0)] (hperm _ _ _ _ _) (.keep (EntO.refl _) (.keep (EntO.box (newT_open hlen ⟨by simp, by simp, by simp⟩)) (.keep (EntO.refl _) .nil))) (EntG.refl _) ?_
        refine retc2 Try.results73 (.cellW 1 rfl rfl ?_) (.tmp rfl (one_le ?_))
        · rw [h2]; simp only [h1, Bool.or_self, Bool.not_false, if_true]; exact matF_le fun a b ha hb => by simp [fill2, ha]
        · rw [h2]; simp [h1]
  · refine sg0 rfl rfl rfl rfl ?_
    refine sg0 rfl rfl rfl rfl ?_
    refine sg0 rfl rfl rfl rfl ?_
    refine sg0 rfl rfl rfl rfl ?_
    refine sg0 rfl rfl rfl rfl ?_
    refine sg0 rfl rfl rfl rfl ?_
    refine st (s_pickT rfl rfl) rfl ?_
    refine Run.nil ?_
    refine pj_then ?_
    refine J_cond rfl (fun h2 => ?_) (fun h2 => ?_)
    · refine J_seq ?_
      refine J_reg ?_
      refine stB rfl rfl rfl ?_
      refine BuildK.nil ?_
      refine a_storeW 0 rfl rfl rfl rfl ?_
      refine st (s_assign rfl) rfl ?_
      refine Run.nil ?_
      refine pj_then ?_
      refine J_ret ?_
      refine pr_then ?_
      refine retc2 Try.results73 (.cellW 0 rfl rfl ?_) (.tmp rfl (one_le ?_))
      · simp only [Bool.true_or, Bool.not_true, Bool.false_eq_true, if_false]; exact zero_mat _
      · simp
    · cases h2
end Tor
end

section
set_option linter.unusedVariables false
set_option linter.unusedSimpArgs false
namespace Tor
open Go Go.RowKit Go.Proofs
attribute [local irreducible] Tor.J Tor.PJ Tor.StepO Tor.one Tor.slT Tor.ptrT Tor.aggT Tor.tupT Tor.exT Tor.andT Tor.gT Tor.eP Tor.boxO Tor.sliO Tor.slV Tor.VT.le Tor.Ret Tor.anyT
end Tor
end

section
set_option linter.unusedVariables false
set_option linter.unusedSimpArgs false
namespace Tor
open Go Go.RowKit Go.Proofs
attribute [local irreducible] Tor.J Tor.PJ Tor.StepO Tor.one Tor.slT Tor.ptrT Tor.aggT Tor.tupT Tor.exT Tor.andT Tor.gT Tor.eP Tor.boxO Tor.sliO Tor.slV Tor.VT.le Tor.Ret Tor.anyT
end Tor
end

section
set_option linter.unusedVariables false
set_option linter.unusedSimpArgs false
namespace Tor
open Go Go.RowKit Go.Proofs
attribute [local irreducible] Tor.J Tor.PJ Tor.StepO Tor.one Tor.slT Tor.ptrT Tor.aggT Tor.tupT Tor.exT Tor.andT Tor.gT Tor.eP Tor.boxO Tor.sliO Tor.slV Tor.VT.le Tor.Ret Tor.anyT
attribute [local irreducible] bigT Tor.rowsO
set_option maxHeartbeats 4000000 in
theorem rScale_ok (r c : Nat) (F : Nat → Nat → Int) (k : Int) (hr0 : r ≤ 1048576) (hc0 : c ≤ 1048576) (hF : ∀ i j, small (F i j)) (hk : small k) : Ok Try.prog 20 [matF r c F, bigT k] (matF r c (fun i j => F i j * k)) := by
  unfold matF
  refine Ok.enter Try.func20 rfl Try.ntmps20 rfl (fun w O => ?_)
  refine J_seq ?_
  refine J_reg ?_
  refine a_boxS rfl rfl (ltN rfl) (fun b => ?_)
  refine a_box rfl rfl (ltN rfl) (fun b => ?_)
  refine a_allocS (T := 29) rfl rfl rfl (fun b => ?_)
  refine Run.nil ?_
  refine pj_then ?_
  refine J_seq ?_
  refine J_reg ?_
  refine st (s_fieldAddr rfl) rfl ?_
  refine st (s_loadB 2 rfl rfl rfl) rfl ?_
  refine st (s_fieldAddr rfl) rfl ?_
  refine st (s_loadB 2 rfl rfl rfl) rfl ?_
  refine a_callM (rNew_ok r c hr0 hc0) rfl ⟨VT.le_refl _, VT.le_refl _, trivial⟩ rfl rfl (fun s => ?_)
  obtain ⟨⟨bs, sv1, cap1⟩, hlen, hsv⟩ := s
  simp only at hlen hsv
  unfold newT
  refine a_allocS (T := 29) rfl rfl rfl (fun b => ?_)
  refine a_storeW 0 rfl rfl rfl rfl ?_
  refine Run.nil ?_
  refine pj_then ?_
  refine J_seq ?_
  refine J_seq ?_
  refine J_reg ?_
  refine st (s_assign rfl) rfl ?_
  refine Run.nil ?_
  refine pj_then ?_
  refine J_block ?_
  rename_i b2 b3 b4
  refine J_loop (σ := Nat) (fun i => [(2, one (.pointer (some ⟨b2, 0, none⟩))), (3, one (.pointer (some ⟨b3, 0, none⟩))), (4, one (.pointer (some ⟨b4, 0, none⟩))), (5, one (.pointer (some ⟨b, 0, none⟩))), (6, one (.int .i64 (i : Nat)))])
    (fun i => [boxO b 29 3 [(0, .one, one (.int .i64 r)), (1, .one, one (.int .i64 c)), (2, .one, one (slV sv1 r cap1))], outO sv1 cap1 r c bs, ownR c bs (fill2 (fun i j => F i j * k) i 0),
      boxO b4 29 3 (zeroC #[Value.int IntKind.i64 0, Value.int IntKind.i64 0, Value.slice none 0 0] [(0, Lay.one), (1, Lay.one), (2, Lay.one)]),
      boxO b3 34 2 [(0, .agg 2, bigT k)],
      boxO b2 29 3 [(0, .one, one (.int .i64 r)), (1, .one, one (.int .i64 c)), (2, .one, slT .one r (fun i => rowF c (F i)))]])
    (fun i => i ≤ r) (fun i => r - i) 0 (Nat.zero_le _) (by repeat (first | exact SubG.nil | refine SubG.cons rfl (VT.le_refl _) ?_ | (refine SubG.cons rfl (one_le ?_) ?_; (congr 1; first | omega | (simp; omega) | simp)))) (.keep (Own.le_refl _) (.keep (Own.le_refl _) (.keep (ownR_le fun i j hi hj => by simp [fill2]) (SubM.refl _)))) (fun i hi => ?_)
  refine J_seq ?_
  refine J_seq ?_
  refine J_reg ?_
  refine st (s_move rfl) rfl ?_
  refine st (s_fieldAddr rfl) rfl ?_
  refine st (s_loadB 5 rfl rfl rfl) rfl ?_
  refine st (s_lt rfl rfl) rfl ?_
  refine Run.nil ?_
  refine pj_then ?_
  refine J_cond rfl (fun hc => ?_) (fun hc => ?_) <;> simp only [decide_eq_true_eq, decide_eq_false_iff_not, Int.ofNat_lt] at hc
  · obtain ⟨bo, rfl⟩ := sv_some hsv (by omega)
    refine J_skip ?_
    refine pj_then ?_
    refine J_seq ?_
    refine J_block ?_
    refine J_seq ?_
    refine J_reg ?_
    refine st (s_assign rfl) rfl ?_
    refine Run.nil ?_
    refine pj_then ?_
    refine J_block ?_
    refine J_loop (σ := Nat) (fun j => [(2, one (.pointer (some ⟨b2, 0, none⟩))), (3, one (.pointer (some ⟨b3, 0, none⟩))), (4, one (.pointer (some ⟨b4, 0, none⟩))), (5, one (.pointer (some ⟨b, 0, none⟩))), (6, one (.int .i64 (i : Nat))), (7, one (.int .i64 (j : Nat)))])
      (fun j => [boxO b 29 3 [(0, .one, one (.int .i64 r)), (1, .one, one (.int .i64 c)), (2, .one, one (slV (some bo) r cap1))], outO (some bo) cap1 r c bs, ownR c bs (fill2 (fun i j => F i j * k) i j),
      boxO b4 29 3 (zeroC #[Value.int IntKind.i64 0, Value.int IntKind.i64 0, Value.slice none 0 0] [(0, Lay.one), (1, Lay.one), (2, Lay.one)]),
      boxO b3 34 2 [(0, .agg 2, bigT k)],
      boxO b2 29 3 [(0, .one, one (.int .i64 r)), (1, .one, one (.int .i64 c)), (2, .one, slT .one r (fun i => rowF c (F i)))]])
      (fun j => j ≤ c) (fun j => c - j) 0 (Nat.zero_le _) (by repeat (first | exact SubG.nil | refine SubG.cons rfl (VT.le_refl _) ?_ | (refine SubG.cons rfl (one_le ?_) ?_; (congr 1; first | omega | (simp; omega) | simp)))) (SubM.refl _) (fun j hj => ?_)
    refine J_seq ?_
    refine J_seq ?_
    refine J_reg ?_
    refine st (s_move rfl) rfl ?_
    refine st (s_fieldAddr rfl) rfl ?_
    refine st (s_loadB 5 rfl rfl rfl) rfl ?_
    refine st (s_lt rfl rfl) rfl ?_
    refine Run.nil ?_
    refine pj_then ?_
    refine J_cond rfl (fun hc2 => ?_) (fun hc2 => ?_) <;> simp only [decide_eq_true_eq, decide_eq_false_iff_not, Int.ofNat_lt] at hc2
    · refine J_skip ?_
      refine pj_then ?_
      refine J_seq ?_
      refine J_block ?_
      refine J_regd 17 mixed (by kernel_rfl) (by decide) ?_
      unfold rowF
      refine st (s_fieldAddr rfl) rfl ?_
      refine st (s_loadB 0 rfl rfl rfl) rfl ?_
      refine st (s_move rfl) rfl ?_
      (refine st (s_indexON rfl rfl ?_) rfl ?_; omega)
      (refine st (s_loadE 1 rfl rfl ?_) rfl ?_; omega)
      refine st (s_move rfl) rfl ?_
      refine st (s_fieldAddr rfl) rfl ?_
      refine st (s_loadB 5 rfl rfl rfl) rfl ?_
      refine st (s_move rfl) rfl ?_
      (refine st (s_indexIN rfl rfl ?_) rfl ?_; omega)
      refine st (s_load rfl) rfl ?_
      refine st (s_move rfl) rfl ?_
      (refine st (s_indexIN rfl rfl ?_) rfl ?_; omega)
      refine st (s_load rfl) rfl ?_
      refine st (s_loadB 4 rfl rfl rfl) rfl ?_
      refine st (s_callk (rMulI_ok (F i j) k (hF i j) hk) rfl ⟨VT.le_refl _, VT.le_refl _, trivial⟩) rfl ?_
      (refine st (s_indexON rfl rfl ?_) rfl ?_; omega)
      refine Run.nil ?_
      (refine a_storeR 2 rfl rfl rfl (getq ?_) ?_ rfl ?_; omega; omega)
      refine Run.nil ?_
      refine pn_block ?_
      refine pj_then ?_
      refine J_reg ?_
      refine st (s_move rfl) rfl ?_
      (refine st (s_add rfl rfl (wrap_i64 ?_ ?_)) rfl ?_; omega; omega)
      refine st (s_assign rfl) rfl ?_
      refine Run.nil ?_
      exact pj_round (s := j) (j + 1) (show _ from by omega) (by show c - (j + 1) < c - j; omega) (by repeat (first | exact SubG.nil | refine SubG.cons rfl (VT.le_refl _) ?_ | (refine SubG.cons rfl (one_le ?_) ?_; (congr 1; first | omega | (simp; omega) | simp)))) (.keep (Own.le_refl _) (.keep (Own.le_refl _) (.keep (upd_fill2 _ rfl) (SubM.refl _))))
    · have hjm : j = c := by omega
      subst hjm
      refine J_exit ?_
      refine px_then ?_
      refine px_then ?_
      refine px_block ?_
      refine pn_block ?_
      refine pj_then ?_
      refine J_reg ?_
      refine st (s_move rfl) rfl ?_
      (refine st (s_add rfl rfl (wrap_i64 ?_ ?_)) rfl ?_; omega; omega)
      refine st (s_assign rfl) rfl ?_
      refine Run.nil ?_
      exact pj_round (s := i) (i + 1) (show _ from by omega) (by show r - (i + 1) < r - i; omega) (by repeat (first | exact SubG.nil | refine SubG.cons rfl (VT.le_refl _) ?_ | (refine SubG.cons rfl (one_le ?_) ?_; (congr 1; first | omega | (simp; omega) | simp)))) (.keep (Own.le_refl _) (.keep (Own.le_refl _) (.keep next_fill2 (SubM.refl _))))
  · have hin : i = r := by omega
    subst hin
    refine J_exit ?_
    refine px_then ?_
    refine px_then ?_
    refine px_block ?_
    refine pj_then ?_
    refine J_seq ?_
    refine J_reg ?_
    refine st (s_loadW 0 rfl rfl) rfl ?_
    refine a_storeW 3 rfl rfl rfl rfl ?_
    refine Run.nil ?_
    refine pj_then ?_
    refine J_ret ?_
    have hperm : ∀ (x y z u t s : Own), [x, y, z, u, t, s].Perm ([y, z] ++ [x, u, t, s]) := fun x y z u t s => (List.Perm.swap y x _).trans (List.Perm.cons y (List.Perm.swap z x _))
    refine PJ_open [outO sv1 cap1 i c bs, ownR c bs (fill2 (fun i j => F i j * k) i 0)] (hperm _ _ _ _ _ _) (.keep (EntO.refl _) (.keep (EntO.box (newT_open hlen ⟨by simp, by simp, by simp⟩)) (.keep (EntO.refl _) (.keep (EntO.refl _) .nil)))) (EntG.refl _) ?_
    refine retc1 Try.results20 (.cellW 1 rfl rfl ?_)
    exact matF_le fun a b ha hb => by simp [fill2, ha]
end Tor
end

section
set_option linter.unusedVariables false
set_option linter.unusedSimpArgs false
namespace Tor
open Go Go.RowKit Go.Proofs
attribute [local irreducible] Tor.J Tor.PJ Tor.StepO Tor.one Tor.slT Tor.ptrT Tor.aggT Tor.tupT Tor.exT Tor.andT Tor.gT Tor.eP Tor.boxO Tor.sliO Tor.slV Tor.VT.le Tor.Ret Tor.anyT
attribute [local irreducible] bigT Tor.rowsO
end Tor
end
