/-
  package integer: Valid on raw integers; package matrix: Zero, Valid, valid.
-/
import Derived.Test.YtmpnikllhpagcaaFwD
import Derived.Test.YtmpnikllhpagcaaM4
set_option linter.unusedVariables false
set_option linter.unusedSimpArgs false
namespace Tor
open Go Go.RowKit Go.Proofs
instance {neg : Bool} {l : List Nat} : Flat (rawT neg l) (.agg 2) := by unfold rawT; infer_instance
theorem rawT_bound {neg : Bool} {l : List Nat} {v : Value} {h : Hp} (H : (rawT neg l).p v h) : l.length ≤ 281474976710656 := by
  obtain ⟨c, _, _, _, h4⟩ := H
  obtain ⟨x, _, hp⟩ := h4 _ (List.mem_cons_of_mem _ List.mem_cons_self)
  exact slT_bound hp
theorem rawMatT_bound {r c : Int} {a : List RawV} {v : Value} {h : Hp} (H : (rawMatT r c a).p v h) : a.length ≤ 2 ^ 48 := by
  obtain ⟨c, _, _, _, h4⟩ := H
  obtain ⟨x, _, hp⟩ := h4 _ (List.mem_cons_of_mem _ (List.mem_cons_of_mem _ List.mem_cons_self))
  exact slT_bound hp
/-- A matrix of numbers, seen as a raw one. -/
def rawTab (r c : Nat) (F : Nat → Nat → Int) : List RawV := (tab r c F).map (·.map rawOf)
theorem matF_raw (r c : Nat) (F : Nat → Nat → Int) : VT.le (matF r c F) (rawMatT r c (rawTab r c F)) := by
  refine VT.le_trans (matF_mat r c F) ?_
  unfold matT rawMatT
  refine aggT_le (fun q hq => ?_)
  rcases List.mem_cons.1 hq with rfl | hq
  · exact ⟨_, List.mem_cons_self, VT.le_refl _⟩
  rcases List.mem_cons.1 hq with rfl | hq
  · exact ⟨_, List.mem_cons_of_mem _ List.mem_cons_self, VT.le_refl _⟩
  rcases List.mem_cons.1 hq with rfl | hq
  · refine ⟨_, List.mem_cons_of_mem _ (List.mem_cons_of_mem _ List.mem_cons_self), ?_⟩
    unfold rowsT rawRowsT rawTab
    refine VT.le_trans (slT_le (ψ := fun i => rawVecT (((tab r c F).map (·.map rawOf)).getD i [])) (fun i hi => ?_)) (le_eq (by simp))
    refine VT.le_trans (vecT_raw _) (le_eq ?_)
    simp [List.getD, List.getElem?_eq_getElem hi]
  · cases hq
theorem validM_tab (r c : Nat) (F : Nat → Nat → Int) : validM r c (rawTab r c F) = true := by
  unfold validM rawTab
  simp only [List.length_map, tab_length, Bool.and_eq_true, decide_eq_true_eq, List.all_map]
  refine ⟨⟨by omega, by omega, trivial⟩, ?_⟩
  rw [List.all_eq_true]
  intro x hx
  simp only [tab, List.mem_map, List.mem_range] at hx
  obtain ⟨i, hi, rfl⟩ := hx
  simp only [validV, Function.comp, List.length_map, List.length_range, List.all_map, Bool.and_eq_true, decide_eq_true_eq]
  refine ⟨trivial, ?_⟩
  rw [List.all_eq_true]
  intro y hy
  exact validI_big _
attribute [local irreducible] Tor.J Tor.PJ Tor.StepO Tor.one Tor.slT Tor.ptrT Tor.aggT Tor.tupT Tor.exT Tor.andT Tor.gT Tor.eP Tor.boxO Tor.sliO Tor.slV Tor.VT.le Tor.Ret Tor.anyT
set_option maxHeartbeats 1000000 in
theorem Valid_ok (neg : Bool) (l : List Nat) : Ok Try.prog 54 [rawT neg l] (one (.bool (validI neg l))) := by
  refine Ok.enter Try.func54 rfl Try.ntmps54 rfl (fun w O => ?_)
  refine J_fact (t := 0) rfl (fun _ _ => rawT_bound) (fun hl => ?_)
  unfold rawT
  by_cases h0 : l.length = 0
  · refine J_seq ?_
    refine J_reg ?_
    refine a_boxS rfl rfl (ltN rfl) (fun b => ?_)
    refine st (s_assign rfl) rfl ?_
    refine Run.nil ?_
    refine pj_then ?_
    refine J_seq ?_
    refine J_seq ?_
    refine J_reg ?_
    refine st (s_fieldAddr rfl) rfl ?_
    refine st (s_loadB 0 rfl rfl rfl) rfl ?_
    refine st (s_len rfl) rfl ?_
    refine st (s_assign rfl) rfl ?_
    refine Run.nil ?_
    refine pj_then ?_
    refine J_seq ?_
    refine J_reg ?_
    refine st (s_move rfl) rfl ?_
    refine st (s_gt rfl rfl) rfl ?_
    refine Run.nil ?_
    refine pj_then ?_
    refine J_cond rfl (fun hc => ?_) (fun hc => ?_) <;> simp only [decide_eq_true_eq, decide_eq_false_iff_not, ne_eq, Decidable.not_not] at hc
    · omega
    · refine J_skip ?_
      refine pj_then ?_
      refine J_seq ?_
      refine J_reg ?_
      refine st (s_fieldAddr rfl) rfl ?_
      refine st (s_loadB 0 rfl rfl rfl) rfl ?_
      refine st (s_not rfl) rfl ?_
      refine st (s_assign rfl) rfl ?_
      refine Run.nil ?_
      refine pj_then ?_
      refine J_ret ?_
      exact retc1 Try.results54 (.tmp rfl (one_le (by unfold validI; rw [if_pos h0])))
  · refine J_seq ?_
    refine J_reg ?_
    refine a_boxS rfl rfl (ltN rfl) (fun b => ?_)
    refine st (s_assign rfl) rfl ?_
    refine Run.nil ?_
    refine pj_then ?_
    refine J_seq ?_
    refine J_seq ?_
    refine J_reg ?_
    refine st (s_fieldAddr rfl) rfl ?_
    refine st (s_loadB 0 rfl rfl rfl) rfl ?_
    refine st (s_len rfl) rfl ?_
    refine st (s_assign rfl) rfl ?_
    refine Run.nil ?_
    refine pj_then ?_
    refine J_seq ?_
    refine J_reg ?_
    refine st (s_move rfl) rfl ?_
    refine st (s_gt rfl rfl) rfl ?_
    refine Run.nil ?_
    refine pj_then ?_
    refine J_cond rfl (fun hc => ?_) (fun hc => ?_) <;> simp only [decide_eq_true_eq, decide_eq_false_iff_not, ne_eq, Decidable.not_not] at hc
    · refine J_seq ?_
      refine J_reg ?_
      refine st (s_fieldAddr rfl) rfl ?_
      refine st (s_loadB 0 rfl rfl rfl) rfl ?_
      refine st (s_move rfl) rfl ?_
      (refine st (s_sub rfl rfl (wrap_i64 ?_ ?_)) rfl ?_; omega; omega)
      (refine st (s_indexI rfl rfl ?_ ?_) rfl ?_; omega; omega)
      refine st (s_load rfl) rfl ?_
      refine st (s_ne rfl rfl) rfl ?_
      refine st (s_assign rfl) rfl ?_
      refine Run.nil ?_
      refine pj_then ?_
      refine J_ret ?_
      refine pr_then ?_
      refine retc1 Try.results54 (.tmp rfl (one_le ?_))
      have e : (↑l.length - 1 : Int).toNat = l.length - 1 := by omega
      unfold validI; rw [if_neg h0, e]; congr 1; rw [decide_eq_decide]; omega
    · omega
attribute [local irreducible] bigT rawT
set_option maxHeartbeats 2000000 in
theorem Zero_ok (v : List Int) : Ok Try.prog 36 [vecT v] (one (.bool (v.all fun x => decide (x = 0)))) := by
  unfold vecT
  refine Ok.enter Try.func36 rfl Try.ntmps36 rfl (fun w O => ?_)
  refine J_fact (t := 0) rfl (fun _ _ => slT_bound) (fun hb => ?_)
  refine J_seq ?_
  refine J_reg ?_
  refine st (s_assign rfl) rfl ?_
  refine Run.nil ?_
  refine pj_then ?_
  refine J_seq ?_
  refine J_seq ?_
  refine J_reg ?_
  refine st (s_move rfl) rfl ?_
  refine st (s_len rfl) rfl ?_
  refine st (s_move rfl) rfl ?_
  refine Run.nil ?_
  refine pj_then ?_
  refine J_block ?_
  refine J_loop (σ := Nat) (fun i => [(5, vecT v), (6, one (.int .i64 v.length)), (7, one (.int .i64 (i : Nat)))]) (fun _ => []) (fun i => i ≤ v.length ∧ (v.take i).all (fun x => decide (x = 0)) = true) (fun i => v.length - i) 0 ⟨Nat.zero_le _, rfl⟩ (by repeat (first | exact SubG.nil | refine SubG.cons rfl (VT.le_refl _) ?_ | (refine SubG.cons rfl (one_le ?_) ?_; (congr 1; first | omega | (simp; omega) | simp)))) (SubM.refl _) (fun i ⟨hi, ht⟩ => ?_)
  unfold vecT
  refine J_seq ?_
  refine J_reg ?_
  refine st (s_lt rfl rfl) rfl ?_
  refine Run.nil ?_
  refine pj_then ?_
  refine J_seq ?_
  refine J_cond rfl (fun hc => ?_) (fun hc => ?_) <;> simp at hc
  · refine J_skip ?_
    refine pj_then ?_
    refine J_seq ?_
    refine J_block ?_
    refine J_seq ?_
    refine J_reg ?_
    (refine st (s_indexIN rfl rfl ?_) rfl ?_; omega)
    refine st (s_load rfl) rfl ?_
    refine a_alloc (T := 29) rfl (ltN rfl) (fun b => ?_)
    refine a_storeB 0 rfl rfl rfl rfl rfl (leN rfl) rfl ?_
    refine Run.nil ?_
    refine pj_then ?_
    refine J_seq ?_
    refine J_reg ?_
    refine st (s_loadB 0 rfl rfl rfl) rfl ?_
    refine st (s_callk (Sign_ok (decide (v.getD i 0 < 0)) (v.getD i 0).natAbs) rfl ⟨bigT_sg _, trivial⟩) rfl ?_
    rw [sv_big]
    refine st (s_ne rfl rfl) rfl ?_
    refine Run.nil ?_
    refine pj_then ?_
    have hs : ∀ x : Int, sgnI x = 0 ↔ x = 0 := sgnI_zero
    refine J_cond rfl (fun hc2 => ?_) (fun hc2 => ?_) <;> simp only [decide_eq_true_eq, decide_eq_false_iff_not, ne_eq, Decidable.not_not, hs] at hc2
    · refine J_seq ?_
      refine J_reg ?_
      refine st (s_assign rfl) rfl ?_
      refine Run.nil ?_
      refine pj_then ?_
      refine J_ret ?_
      refine pr_block ?_
      refine pr_then ?_
      refine pr_then ?_
      refine pr_block ?_
      refine pr_then ?_
      refine retc1 Try.results36 (.tmp rfl (one_le ?_))
      rw [notAll (d := 0) hc (decide_eq_false hc2)]
    · refine J_skip ?_
      refine pn_block ?_
      refine pj_then ?_
      refine J_reg ?_
      (refine st (s_add rfl rfl (wrap_i64 ?_ ?_)) rfl ?_; omega; omega)
      refine st (s_move rfl) rfl ?_
      refine Run.nil ?_
      exact pj_round (s := i) (i + 1) ⟨by omega, takeAll (d := 0) ht hc (decide_eq_true hc2)⟩ (by show v.length - (i + 1) < v.length - i; omega) (by repeat (first | exact SubG.nil | refine SubG.cons rfl (VT.le_refl _) ?_ | (refine SubG.cons rfl (one_le ?_) ?_; (congr 1; first | omega | (simp; omega) | simp)))) (.drop .nil)
  · refine J_exit ?_
    refine px_then ?_
    refine px_then ?_
    refine px_block ?_
    refine pj_then ?_
    refine J_seq ?_
    refine J_reg ?_
    refine st (s_assign rfl) rfl ?_
    refine Run.nil ?_
    refine pj_then ?_
    refine J_ret ?_
    refine retc1 Try.results36 (.tmp rfl (one_le ?_))
    rw [List.take_of_length_le (by omega)] at ht
    rw [ht]
attribute [local irreducible] rawVecT
set_option maxHeartbeats 2000000 in
theorem matValid_ok (r c : Int) (a : List RawV) : Ok Try.prog 13 [rawMatT r c a] (one (.bool (validM r c a))) := by
  refine Ok.enter Try.func13 rfl Try.ntmps13 rfl (fun w O => ?_)
  refine J_fact (t := 0) rfl (fun _ _ => rawMatT_bound) (fun ha => ?_)
  unfold rawMatT
  unfold rawRowsT
  refine J_seq ?_
  refine J_reg ?_
  refine a_boxS rfl rfl (ltN rfl) (fun b => ?_)
  refine st (s_assign rfl) rfl ?_
  refine Run.nil ?_
  refine pj_then ?_
  refine J_seq ?_
  refine J_seq ?_
  refine J_reg ?_
  refine st (s_fieldAddr rfl) rfl ?_
  refine st (s_loadB 0 rfl rfl rfl) rfl ?_
  refine st (s_lt rfl rfl) rfl ?_
  refine st (s_move rfl) rfl ?_
  refine bsel (t := 10) rfl (fun bo hb => ?_)
  rw [hb]
  cases bo
  · have e1 : 0 ≤ r := by simpa using hb
    refine sg1 rfl rfl (s_fieldAddr rfl) rfl ?_
    refine sg1 rfl rfl (s_loadB 0 rfl rfl rfl) rfl ?_
    refine sg1 rfl rfl (s_lt rfl rfl) rfl ?_
    refine st (s_pickF rfl rfl) rfl ?_
    refine st (s_move rfl) rfl ?_
    refine bsel (t := 15) rfl (fun bo hb2 => ?_)
    rw [hb2]
    cases bo
    · have e2 : 0 ≤ c := by simpa using hb2
      refine sg1 rfl rfl (s_fieldAddr rfl) rfl ?_
      refine sg1 rfl rfl (s_loadB 0 rfl rfl rfl) rfl ?_
      refine sg1 rfl rfl (s_len rfl) rfl ?_
      refine sg1 rfl rfl (s_fieldAddr rfl) rfl ?_
      refine sg1 rfl rfl (s_loadB 0 rfl rfl rfl) rfl ?_
      refine sg1 rfl rfl (s_ne rfl rfl) rfl ?_
      refine st (s_pickF rfl rfl) rfl ?_
      refine Run.nil ?_
      refine pj_then ?_
      refine J_cond rfl (fun hc => ?_) (fun hc => ?_) <;> simp only [decide_eq_true_eq, decide_eq_false_iff_not, ne_eq, Decidable.not_not] at hc
      · refine J_seq ?_
        refine J_reg ?_
        refine st (s_assign rfl) rfl ?_
        refine Run.nil ?_
        refine pj_then ?_
        refine J_ret ?_
        refine pr_then ?_
        refine retc1 Try.results13 (.tmp rfl (one_le ?_))
        simp [validM, hc]
      · have e3 : (a.length : Int) = r := hc
        refine J_skip ?_
        refine pj_then ?_
        refine J_seq ?_
        refine J_seq ?_
        refine J_reg ?_
        refine st (s_fieldAddr rfl) rfl ?_
        refine st (s_loadB 0 rfl rfl rfl) rfl ?_
        refine st (s_len rfl) rfl ?_
        refine st (s_move rfl) rfl ?_
        refine Run.nil ?_
        refine pj_then ?_
        refine J_block ?_
        refine J_loop (σ := Nat) (fun i => [(1, one (.pointer (some ⟨b, 0, none⟩))), (24, rawRowsT a), (25, one (.int .i64 a.length)), (26, one (.int .i64 (i : Nat)))])
          (fun _ => [boxO b 33 3 [(0, .one, one (.int .i64 r)), (1, .one, one (.int .i64 c)), (2, .one, rawRowsT a)]])
          (fun i => i ≤ a.length ∧ (a.take i).all (validV c) = true) (fun i => a.length - i) 0 ⟨Nat.zero_le _, rfl⟩ (by repeat (first | exact SubG.nil | refine SubG.cons rfl (VT.le_refl _) ?_ | (refine SubG.cons rfl (one_le ?_) ?_; (congr 1; first | omega | (simp; omega) | simp)))) (SubM.refl _) (fun i ⟨hi, ht⟩ => ?_)
        unfold rawRowsT
        refine J_seq ?_
        refine J_reg ?_
        refine st (s_lt rfl rfl) rfl ?_
        refine Run.nil ?_
        refine pj_then ?_
        refine J_seq ?_
        refine J_cond rfl (fun hc => ?_) (fun hc => ?_) <;> simp at hc
        · refine J_skip ?_
          refine pj_then ?_
          refine J_seq ?_
          refine J_block ?_
          refine J_seq ?_
          refine J_reg ?_
          (refine st (s_indexIN rfl rfl ?_) rfl ?_; omega)
          refine st (s_load rfl) rfl ?_
          refine st (s_assign rfl) rfl ?_
          refine Run.nil ?_
          refine pj_then ?_
          refine J_seq ?_
          refine J_seq ?_
          refine J_reg ?_
          refine st (s_move rfl) rfl ?_
          unfold rawVecT
          refine st (s_len rfl) rfl ?_
          refine st (s_fieldAddr rfl) rfl ?_
          refine st (s_loadB 0 rfl rfl rfl) rfl ?_
          refine st (s_ne rfl rfl) rfl ?_
          refine Run.nil ?_
          refine pj_then ?_
          refine J_cond rfl (fun hc2 => ?_) (fun hc2 => ?_) <;> simp only [decide_eq_true_eq, decide_eq_false_iff_not, ne_eq, Decidable.not_not] at hc2
          · refine J_seq ?_
            refine J_reg ?_
            refine st (s_assign rfl) rfl ?_
            refine Run.nil ?_
            refine pj_then ?_
            refine J_ret ?_
            refine pr_then ?_
            refine pr_block ?_
            refine pr_then ?_
            refine pr_then ?_
            refine pr_block ?_
            refine pr_then ?_
            refine retc1 Try.results13 (.tmp rfl (one_le ?_))
            have := notAll (p := validV c) (d := []) hc (by simp only [validV, Bool.and_eq_false_iff]; left; simpa using hc2)
            simp [validM, this]
          · refine J_fact (t := 29) rfl (fun _ _ => slT_bound) (fun hlb => ?_)
            refine J_skip ?_
            refine pj_then ?_
            refine J_seq ?_
            refine J_reg ?_
            refine st (s_move rfl) rfl ?_
            refine st (s_len rfl) rfl ?_
            refine st (s_move rfl) rfl ?_
            refine Run.nil ?_
            refine pj_then ?_
            refine J_block ?_
            refine J_loop (σ := Nat) (fun j => [(1, one (.pointer (some ⟨b, 0, none⟩))), (24, rawRowsT a), (25, one (.int .i64 a.length)), (26, one (.int .i64 (i : Nat))), (35, rawVecT (a.getD i [])), (36, one (.int .i64 (a.getD i []).length)), (37, one (.int .i64 (j : Nat)))])
              (fun _ => [boxO b 33 3 [(0, .one, one (.int .i64 r)), (1, .one, one (.int .i64 c)), (2, .one, rawRowsT a)]])
              (fun j => j ≤ (a.getD i []).length ∧ ((a.getD i []).take j).all (fun p => validI p.1 p.2) = true) (fun j => (a.getD i []).length - j) 0 ⟨Nat.zero_le _, rfl⟩ (by unfold rawRowsT rawVecT; repeat (first | exact SubG.nil | refine SubG.cons rfl (VT.le_refl _) ?_ | (refine SubG.cons rfl (one_le ?_) ?_; (congr 1; first | omega | (simp; omega) | simp)))) (by unfold rawRowsT rawVecT; exact SubM.refl _) (fun j ⟨hj, hu⟩ => ?_)
            unfold rawRowsT rawVecT
            refine J_seq ?_
            refine J_reg ?_
            refine st (s_lt rfl rfl) rfl ?_
            refine Run.nil ?_
            refine pj_then ?_
            refine J_seq ?_
            refine J_cond rfl (fun hc3 => ?_) (fun hc3 => ?_) <;> simp only [decide_eq_true_eq, decide_eq_false_iff_not, Int.ofNat_lt] at hc3
            · refine J_skip ?_
              refine pj_then ?_
              refine J_seq ?_
              refine J_block ?_
              refine J_seq ?_
              refine J_reg ?_
              (refine st (s_indexIN rfl rfl ?_) rfl ?_; omega)
              refine st (s_load rfl) rfl ?_
              refine a_alloc (T := 29) rfl (ltN rfl) (fun b => ?_)
              refine a_storeB 0 rfl rfl rfl rfl rfl (leN rfl) rfl ?_
              refine Run.nil ?_
              refine pj_then ?_
              refine J_seq ?_
              refine J_reg ?_
              refine st (s_loadB 0 rfl rfl rfl) rfl ?_
              refine st (s_callk (Valid_ok ((a.getD i []).getD j (false, [])).1 ((a.getD i []).getD j (false, [])).2) rfl ⟨VT.le_refl _, trivial⟩) rfl ?_
              refine st (s_not rfl) rfl ?_
              refine Run.nil ?_
              refine pj_then ?_
              refine J_cond rfl (fun hc4 => ?_) (fun hc4 => ?_)
              · refine J_seq ?_
                refine J_reg ?_
                refine st (s_assign rfl) rfl ?_
                refine Run.nil ?_
                refine pj_then ?_
                refine J_ret ?_
                refine pr_block ?_
                refine pr_then ?_
                refine pr_then ?_
                refine pr_block ?_
                refine pr_block ?_
                refine pr_then ?_
                refine pr_then ?_
                refine pr_block ?_
                refine pr_then ?_
                refine retc1 Try.results13 (.tmp rfl (one_le ?_))
                have h1 := notAll (p := fun p : Bool × List Nat => validI p.1 p.2) (d := (false, [])) (v := a.getD i []) hc3 (by simpa using hc4)
                have h2 := notAll (p := validV c) (d := []) hc (by simp only [validV, Bool.and_eq_false_iff]; right; exact h1)
                simp [validM, h2]
              · refine J_skip ?_
                refine pn_block ?_
                refine pj_then ?_
                refine J_reg ?_
                (refine st (s_add rfl rfl (wrap_i64 ?_ ?_)) rfl ?_; omega; omega)
                refine st (s_move rfl) rfl ?_
                refine Run.nil ?_
                exact pj_round (s := j) (j + 1) ⟨by omega, takeAll (d := (false, [])) hu hc3 (by simpa using hc4)⟩ (by show (a.getD i []).length - (j + 1) < (a.getD i []).length - j; omega) (by repeat (first | exact SubG.nil | refine SubG.cons rfl (VT.le_refl _) ?_ | (refine SubG.cons rfl (one_le ?_) ?_; (congr 1; first | omega | (simp; omega) | simp)))) (.drop (SubM.refl _))
            · refine J_exit ?_
              refine px_then ?_
              refine px_then ?_
              refine px_block ?_
              refine pn_block ?_
              refine pj_then ?_
              refine J_reg ?_
              (refine st (s_add rfl rfl (wrap_i64 ?_ ?_)) rfl ?_; omega; omega)
              refine st (s_move rfl) rfl ?_
              refine Run.nil ?_
              rw [List.take_of_length_le (by omega)] at hu
              exact pj_round (s := i) (i + 1) ⟨by omega, takeAll (d := []) ht hc (by simp only [validV, Bool.and_eq_true]; exact ⟨by simpa using hc2, hu⟩)⟩ (by show a.length - (i + 1) < a.length - i; omega) (by repeat (first | exact SubG.nil | refine SubG.cons rfl (VT.le_refl _) ?_ | (refine SubG.cons rfl (one_le ?_) ?_; (congr 1; first | omega | (simp; omega) | simp)))) (SubM.refl _)
        · refine J_exit ?_
          refine px_then ?_
          refine px_then ?_
          refine px_block ?_
          refine pj_then ?_
          refine J_seq ?_
          refine J_reg ?_
          refine st (s_assign rfl) rfl ?_
          refine Run.nil ?_
          refine pj_then ?_
          refine J_ret ?_
          refine retc1 Try.results13 (.tmp rfl (one_le ?_))
          rw [List.take_of_length_le (by omega)] at ht
          simp [validM, ht, e1, e2, e3]
    · have e2 : ¬ (0 ≤ r ∧ 0 ≤ c) := by simp at hb2; omega
      refine sg0 rfl rfl rfl rfl ?_
      refine sg0 rfl rfl rfl rfl ?_
      refine sg0 rfl rfl rfl rfl ?_
      refine sg0 rfl rfl rfl rfl ?_
      refine sg0 rfl rfl rfl rfl ?_
      refine sg0 rfl rfl rfl rfl ?_
      refine st (s_pickT rfl rfl) rfl ?_
      refine Run.nil ?_
      refine pj_then ?_
      refine J_cond rfl (fun hc => ?_) (fun hc => ?_)
      · refine J_seq ?_
        refine J_reg ?_
        refine st (s_assign rfl) rfl ?_
        refine Run.nil ?_
        refine pj_then ?_
        refine J_ret ?_
        refine pr_then ?_
        refine retc1 Try.results13 (.tmp rfl (one_le ?_))
        simp only [validM]; rw [decide_eq_false (by omega)]; rfl
      · cases hc
  · have e1 : ¬ 0 ≤ r := by simpa using hb
    refine sg0 rfl rfl rfl rfl ?_
    refine sg0 rfl rfl rfl rfl ?_
    refine sg0 rfl rfl rfl rfl ?_
    refine st (s_pickT rfl rfl) rfl ?_
    refine st (s_move rfl) rfl ?_
    refine sg0 rfl rfl rfl rfl ?_
    refine sg0 rfl rfl rfl rfl ?_
    refine sg0 rfl rfl rfl rfl ?_
    refine sg0 rfl rfl rfl rfl ?_
    refine sg0 rfl rfl rfl rfl ?_
    refine sg0 rfl rfl rfl rfl ?_
    refine st (s_pickT rfl rfl) rfl ?_
    refine Run.nil ?_
    refine pj_then ?_
    refine J_cond rfl (fun hc => ?_) (fun hc => ?_)
    · refine J_seq ?_
      refine J_reg ?_
      refine st (s_assign rfl) rfl ?_
      refine Run.nil ?_
      refine pj_then ?_
      refine J_ret ?_
      refine pr_then ?_
      refine retc1 Try.results13 (.tmp rfl (one_le ?_))
      simp [validM, e1]
    · cases hc
end Tor
