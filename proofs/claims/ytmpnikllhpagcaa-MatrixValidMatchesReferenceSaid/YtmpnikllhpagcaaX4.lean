/-
  package matrix: combine at its types; slices.IndexFunc, slices.ContainsFunc; the closures of Pick.
-/
import Derived.Test.YtmpnikllhpagcaaX3
set_option linter.unusedVariables false
set_option linter.unusedSimpArgs false
namespace Tor
open Go Go.RowKit Go.Proofs
theorem le_any (φ : VT) : VT.le φ anyT := fun _ _ _ => trivial
attribute [local irreducible] Tor.J Tor.PJ Tor.StepO Tor.one Tor.slT Tor.ptrT Tor.aggT Tor.tupT Tor.exT Tor.andT Tor.gT Tor.eP Tor.boxO Tor.sliO Tor.slV Tor.VT.le Tor.Ret Tor.anyT
set_option maxHeartbeats 1000000 in
theorem combI_ok (n : Nat) (φ ψ χ : Nat → VT) [hF : ∀ i, Flat (χ i) (.agg 2)] (cl : VT) (hn : n ≤ 1048576) (hC : ∀ i, i < n → Callable Try.prog cl [φ i, ψ i] (χ i)) : Ok Try.prog 68 [slT (.agg 2) n φ, slT (.agg 2) n ψ, cl] (slT (.agg 2) n χ) := by
  refine Ok.enter Try.func68 rfl Try.ntmps68 rfl (fun w O => ?_)
  refine J_seq ?_
  refine J_reg ?_
  refine st (s_assign rfl) rfl ?_
  refine Run.nil ?_
  refine pj_then ?_
  refine J_seq ?_
  refine J_reg ?_
  refine st (s_move rfl) rfl ?_
  refine st (s_len rfl) rfl ?_
  refine a_makeSlice n n rfl rfl rfl rfl (Nat.le_refl _) rfl rfl (by omega) rfl rfl (fun bz => ?_)
  refine st (s_assign rfl) rfl ?_
  refine Run.nil ?_
  refine pj_then ?_
  refine J_seq ?_
  refine J_seq ?_
  refine J_reg ?_
  refine st (s_move rfl) rfl ?_
  refine st (s_lenO rfl) rfl ?_
  refine st (s_move rfl) rfl ?_
  refine Run.nil ?_
  refine pj_then ?_
  refine J_block ?_
  refine J_loop (σ := Nat) (fun i => [(0, slT (.agg 2) n φ), (1, slT (.agg 2) n ψ), (2, cl), (7, one (slV (some bz) n n)), (13, one (.int .i64 n)), (14, one (.int .i64 (i : Nat)))])
    (fun i => [sliO (some bz) 29 (.agg 2) n n (fun q => if q < i then χ q else anyT)]) (fun i => i ≤ n) (fun i => n - i) 0 (Nat.zero_le _) (by repeat (first | exact SubG.nil | refine SubG.cons rfl (VT.le_refl _) ?_ | (refine SubG.cons rfl (one_le ?_) ?_; (congr 1; first | omega | (simp; omega) | simp)))) (.keep (sliO_le fun q hq => by rw [if_neg (by omega)]; exact le_any _) .nil) (fun i hi => ?_)
  refine J_seq ?_
  refine J_reg ?_
  refine st (s_lt rfl rfl) rfl ?_
  refine Run.nil ?_
  refine pj_then ?_
  refine J_seq ?_
  refine J_cond rfl (fun hc => ?_) (fun hc => ?_) <;> simp only [decide_eq_true_eq, decide_eq_false_iff_not, ne_eq, Decidable.not_not] at hc
  · refine J_skip ?_
    refine pj_then ?_
    refine J_seq ?_
    refine J_block ?_
    refine J_seq ?_
    refine J_reg ?_
    refine st (s_move rfl) rfl ?_
    refine st (s_assign rfl) rfl ?_
    refine Run.nil ?_
    refine pj_then ?_
    refine J_regd 13 mixed (by kernel_rfl) (by decide) ?_
    refine st (s_move rfl) rfl ?_
    refine st (s_move rfl) rfl ?_
    refine st (s_move rfl) rfl ?_
    refine st (s_move rfl) rfl ?_
    refine st (s_move rfl) rfl ?_
    (refine st (s_indexIN rfl rfl ?_) rfl ?_; omega)
    refine st (s_load rfl) rfl ?_
    refine st (s_move rfl) rfl ?_
    refine st (s_move rfl) rfl ?_
    (refine st (s_indexIN rfl rfl ?_) rfl ?_; omega)
    refine st (s_load rfl) rfl ?_
    refine st (s_callF (hC i (by omega)) rfl rfl ⟨VT.le_refl _, VT.le_refl _, trivial⟩) rfl ?_
    (refine st (s_indexON rfl rfl ?_) rfl ?_; omega)
    refine Run.nil ?_
    (refine a_storeE 0 rfl rfl rfl ?_ rfl ?_; omega)
    refine Run.nil ?_
    refine pn_block ?_
    refine pj_then ?_
    refine J_reg ?_
    (refine st (s_add rfl rfl (wrap_i64 ?_ ?_)) rfl ?_; omega; omega)
    refine st (s_move rfl) rfl ?_
    refine Run.nil ?_
    refine pj_round (s := i) (i + 1) (show _ from by omega) (by show n - (i + 1) < n - i; omega) (by repeat (first | exact SubG.nil | refine SubG.cons rfl (VT.le_refl _) ?_ | (refine SubG.cons rfl (one_le ?_) ?_; (congr 1; first | omega | (simp; omega) | simp)))) (.keep (sliO_eq fun q hq => ?_) .nil)
    unfold upd
    by_cases h : q = i
    · subst h; rw [if_pos rfl, if_pos (by omega)]
    · rw [if_neg h]
      have e : q < i + 1 ↔ q < i := by omega
      simp only [e]
  · have hk : i = n := by omega
    subst hk
    refine J_exit ?_
    refine px_then ?_
    refine px_then ?_
    refine px_block ?_
    refine pj_then ?_
    refine J_seq ?_
    refine J_reg ?_
    refine st (s_move rfl) rfl ?_
    refine st (s_assign rfl) rfl ?_
    refine Run.nil ?_
    refine pj_then ?_
    refine J_ret ?_
    refine PJ_freeze (t := 6) (i := 0) rfl rfl ?_
    refine retc1 Try.results68 (.tmp rfl (slT_le fun q hq => ?_))
    rw [if_pos hq]; exact VT.le_refl _
set_option maxHeartbeats 1000000 in
theorem combR_ok (n : Nat) (φ ψ χ : Nat → VT) [hF : ∀ i, Flat (χ i) .one] (cl : VT) (hn : n ≤ 1048576) (hC : ∀ i, i < n → Callable Try.prog cl [φ i, ψ i] (χ i)) : Ok Try.prog 58 [slT .one n φ, slT .one n ψ, cl] (slT .one n χ) := by
  refine Ok.enter Try.func58 rfl Try.ntmps58 rfl (fun w O => ?_)
  refine J_seq ?_
  refine J_reg ?_
  refine st (s_assign rfl) rfl ?_
  refine Run.nil ?_
  refine pj_then ?_
  refine J_seq ?_
  refine J_reg ?_
  refine st (s_move rfl) rfl ?_
  refine st (s_len rfl) rfl ?_
  refine a_makeSlice n n rfl rfl rfl rfl (Nat.le_refl _) rfl rfl (by omega) rfl rfl (fun bz => ?_)
  refine st (s_assign rfl) rfl ?_
  refine Run.nil ?_
  refine pj_then ?_
  refine J_seq ?_
  refine J_seq ?_
  refine J_reg ?_
  refine st (s_move rfl) rfl ?_
  refine st (s_lenO rfl) rfl ?_
  refine st (s_move rfl) rfl ?_
  refine Run.nil ?_
  refine pj_then ?_
  refine J_block ?_
  refine J_loop (σ := Nat) (fun i => [(0, slT .one n φ), (1, slT .one n ψ), (2, cl), (7, one (slV (some bz) n n)), (13, one (.int .i64 n)), (14, one (.int .i64 (i : Nat)))])
    (fun i => [sliO (some bz) 35 .one n n (fun q => if q < i then χ q else anyT)]) (fun i => i ≤ n) (fun i => n - i) 0 (Nat.zero_le _) (by repeat (first | exact SubG.nil | refine SubG.cons rfl (VT.le_refl _) ?_ | (refine SubG.cons rfl (one_le ?_) ?_; (congr 1; first | omega | (simp; omega) | simp)))) (.keep (sliO_le fun q hq => by rw [if_neg (by omega)]; exact le_any _) .nil) (fun i hi => ?_)
  refine J_seq ?_
  refine J_reg ?_
  refine st (s_lt rfl rfl) rfl ?_
  refine Run.nil ?_
  refine pj_then ?_
  refine J_seq ?_
  refine J_cond rfl (fun hc => ?_) (fun hc => ?_) <;> simp only [decide_eq_true_eq, decide_eq_false_iff_not, ne_eq, Decidable.not_not] at hc
  · refine J_skip ?_
    refine pj_then ?_
    refine J_seq ?_
    refine J_block ?_
    refine J_seq ?_
    refine J_reg ?_
    refine st (s_move rfl) rfl ?_
    refine st (s_assign rfl) rfl ?_
    refine Run.nil ?_
    refine pj_then ?_
    refine J_regd 13 mixed (by kernel_rfl) (by decide) ?_
    refine st (s_move rfl) rfl ?_
    refine st (s_move rfl) rfl ?_
    refine st (s_move rfl) rfl ?_
    refine st (s_move rfl) rfl ?_
    refine st (s_move rfl) rfl ?_
    (refine st (s_indexIN rfl rfl ?_) rfl ?_; omega)
    refine st (s_load rfl) rfl ?_
    refine st (s_move rfl) rfl ?_
    refine st (s_move rfl) rfl ?_
    (refine st (s_indexIN rfl rfl ?_) rfl ?_; omega)
    refine st (s_load rfl) rfl ?_
    refine st (s_callF (hC i (by omega)) rfl rfl ⟨VT.le_refl _, VT.le_refl _, trivial⟩) rfl ?_
    (refine st (s_indexON rfl rfl ?_) rfl ?_; omega)
    refine Run.nil ?_
    (refine a_storeE 0 rfl rfl rfl ?_ rfl ?_; omega)
    refine Run.nil ?_
    refine pn_block ?_
    refine pj_then ?_
    refine J_reg ?_
    (refine st (s_add rfl rfl (wrap_i64 ?_ ?_)) rfl ?_; omega; omega)
    refine st (s_move rfl) rfl ?_
    refine Run.nil ?_
    refine pj_round (s := i) (i + 1) (show _ from by omega) (by show n - (i + 1) < n - i; omega) (by repeat (first | exact SubG.nil | refine SubG.cons rfl (VT.le_refl _) ?_ | (refine SubG.cons rfl (one_le ?_) ?_; (congr 1; first | omega | (simp; omega) | simp)))) (.keep (sliO_eq fun q hq => ?_) .nil)
    unfold upd
    by_cases h : q = i
    · subst h; rw [if_pos rfl, if_pos (by omega)]
    · rw [if_neg h]
      have e : q < i + 1 ↔ q < i := by omega
      simp only [e]
  · have hk : i = n := by omega
    subst hk
    refine J_exit ?_
    refine px_then ?_
    refine px_then ?_
    refine px_block ?_
    refine pj_then ?_
    refine J_seq ?_
    refine J_reg ?_
    refine st (s_move rfl) rfl ?_
    refine st (s_assign rfl) rfl ?_
    refine Run.nil ?_
    refine pj_then ?_
    refine J_ret ?_
    refine PJ_freeze (t := 6) (i := 0) rfl rfl ?_
    refine retc1 Try.results58 (.tmp rfl (slT_le fun q hq => ?_))
    rw [if_pos hq]; exact VT.le_refl _
set_option maxHeartbeats 1000000 in
theorem combB_ok (n : Nat) (φ ψ χ : Nat → VT) [hF : ∀ i, Flat (χ i) .one] (cl : VT) (hn : n ≤ 1048576) (hC : ∀ i, i < n → Callable Try.prog cl [φ i, ψ i] (χ i)) : Ok Try.prog 85 [slT (.agg 2) n φ, slT (.agg 2) n ψ, cl] (slT .one n χ) := by
  refine Ok.enter Try.func85 rfl Try.ntmps85 rfl (fun w O => ?_)
  refine J_seq ?_
  refine J_reg ?_
  refine st (s_assign rfl) rfl ?_
  refine Run.nil ?_
  refine pj_then ?_
  refine J_seq ?_
  refine J_reg ?_
  refine st (s_move rfl) rfl ?_
  refine st (s_len rfl) rfl ?_
  refine a_makeSlice n n rfl rfl rfl rfl (Nat.le_refl _) rfl rfl (by omega) rfl rfl (fun bz => ?_)
  refine st (s_assign rfl) rfl ?_
  refine Run.nil ?_
  refine pj_then ?_
  refine J_seq ?_
  refine J_seq ?_
  refine J_reg ?_
  refine st (s_move rfl) rfl ?_
  refine st (s_lenO rfl) rfl ?_
  refine st (s_move rfl) rfl ?_
  refine Run.nil ?_
  refine pj_then ?_
  refine J_block ?_
  refine J_loop (σ := Nat) (fun i => [(0, slT (.agg 2) n φ), (1, slT (.agg 2) n ψ), (2, cl), (7, one (slV (some bz) n n)), (13, one (.int .i64 n)), (14, one (.int .i64 (i : Nat)))])
    (fun i => [sliO (some bz) 4 .one n n (fun q => if q < i then χ q else anyT)]) (fun i => i ≤ n) (fun i => n - i) 0 (Nat.zero_le _) (by repeat (first | exact SubG.nil | refine SubG.cons rfl (VT.le_refl _) ?_ | (refine SubG.cons rfl (one_le ?_) ?_; (congr 1; first | omega | (simp; omega) | simp)))) (.keep (sliO_le fun q hq => by rw [if_neg (by omega)]; exact le_any _) .nil) (fun i hi => ?_)
  refine J_seq ?_
  refine J_reg ?_
  refine st (s_lt rfl rfl) rfl ?_
  refine Run.nil ?_
  refine pj_then ?_
  refine J_seq ?_
  refine J_cond rfl (fun hc => ?_) (fun hc => ?_) <;> simp only [decide_eq_true_eq, decide_eq_false_iff_not, ne_eq, Decidable.not_not] at hc
  · refine J_skip ?_
    refine pj_then ?_
    refine J_seq ?_
    refine J_block ?_
    refine J_seq ?_
    refine J_reg ?_
    refine st (s_move rfl) rfl ?_
    refine st (s_assign rfl) rfl ?_
    refine Run.nil ?_
    refine pj_then ?_
    refine J_regd 13 mixed (by kernel_rfl) (by decide) ?_
    refine st (s_move rfl) rfl ?_
    refine st (s_move rfl) rfl ?_
    refine st (s_move rfl) rfl ?_
    refine st (s_move rfl) rfl ?_
    refine st (s_move rfl) rfl ?_
    (refine st (s_indexIN rfl rfl ?_) rfl ?_; omega)
    refine st (s_load rfl) rfl ?_
    refine st (s_move rfl) rfl ?_
    refine st (s_move rfl) rfl ?_
    (refine st (s_indexIN rfl rfl ?_) rfl ?_; omega)
    refine st (s_load rfl) rfl ?_
    refine st (s_callF (hC i (by omega)) rfl rfl ⟨VT.le_refl _, VT.le_refl _, trivial⟩) rfl ?_
    (refine st (s_indexON rfl rfl ?_) rfl ?_; omega)
    refine Run.nil ?_
    (refine a_storeE 0 rfl rfl rfl ?_ rfl ?_; omega)
    refine Run.nil ?_
    refine pn_block ?_
    refine pj_then ?_
    refine J_reg ?_
    (refine st (s_add rfl rfl (wrap_i64 ?_ ?_)) rfl ?_; omega; omega)
    refine st (s_move rfl) rfl ?_
    refine Run.nil ?_
    refine pj_round (s := i) (i + 1) (show _ from by omega) (by show n - (i + 1) < n - i; omega) (by repeat (first | exact SubG.nil | refine SubG.cons rfl (VT.le_refl _) ?_ | (refine SubG.cons rfl (one_le ?_) ?_; (congr 1; first | omega | (simp; omega) | simp)))) (.keep (sliO_eq fun q hq => ?_) .nil)
    unfold upd
    by_cases h : q = i
    · subst h; rw [if_pos rfl, if_pos (by omega)]
    · rw [if_neg h]
      have e : q < i + 1 ↔ q < i := by omega
      simp only [e]
  · have hk : i = n := by omega
    subst hk
    refine J_exit ?_
    refine px_then ?_
    refine px_then ?_
    refine px_block ?_
    refine pj_then ?_
    refine J_seq ?_
    refine J_reg ?_
    refine st (s_move rfl) rfl ?_
    refine st (s_assign rfl) rfl ?_
    refine Run.nil ?_
    refine pj_then ?_
    refine J_ret ?_
    refine PJ_freeze (t := 6) (i := 0) rfl rfl ?_
    refine retc1 Try.results85 (.tmp rfl (slT_le fun q hq => ?_))
    rw [if_pos hq]; exact VT.le_refl _
set_option maxHeartbeats 1000000 in
theorem IndexFunc_ok (l : List Int) (p : Int → Bool) (cl : VT) (hC : ∀ x ∈ l, Callable Try.prog cl [one (.int .i64 x)] (one (.bool (p x)))) : Ok Try.prog 89 [numT .i64 l, cl] (exT fun k : Int => andT ((0 ≤ k ↔ l.any p = true) ∧ -1 ≤ k ∧ k ≤ 2 ^ 48) (one (.int .i64 k))) := by
  unfold numT
  refine Ok.enter Try.func89 rfl Try.ntmps89 rfl (fun w O => ?_)
  refine J_fact (t := 0) rfl (fun _ _ => slT_bound) (fun hb => ?_)
  refine J_seq ?_
  refine J_reg ?_
  refine st (s_assign rfl) rfl ?_
  refine Run.nil ?_
  refine pj_then ?_
  refine J_seq ?_
  refine J_seq ?_
  refine J_reg ?_
  refine st (s_move rfl) rfl ?_
  refine st (s_len rfl) rfl ?_
  refine st (s_move rfl) rfl ?_
  refine Run.nil ?_
  refine pj_then ?_
  refine J_block ?_
  refine J_loop (σ := Nat) (fun i => [(0, slT .one l.length (fun i => one (.int .i64 (l.getD i 0)))), (1, cl), (7, one (.int .i64 l.length)), (8, one (.int .i64 (i : Nat)))]) (fun _ => []) (fun i => i ≤ l.length ∧ (l.take i).any p = false) (fun i => l.length - i) 0 ⟨Nat.zero_le _, rfl⟩ (by repeat (first | exact SubG.nil | refine SubG.cons rfl (VT.le_refl _) ?_ | (refine SubG.cons rfl (one_le ?_) ?_; (congr 1; first | omega | (simp; omega) | simp)))) (SubM.refl _) (fun i ⟨hi, ht⟩ => ?_)
  refine J_seq ?_
  refine J_reg ?_
  refine st (s_lt rfl rfl) rfl ?_
  refine Run.nil ?_
  refine pj_then ?_
  refine J_seq ?_
  refine J_cond rfl (fun hc => ?_) (fun hc => ?_) <;> simp only [decide_eq_true_eq, decide_eq_false_iff_not, Int.ofNat_lt] at hc
  · refine J_skip ?_
    refine pj_then ?_
    refine J_seq ?_
    refine J_block ?_
    refine J_seq ?_
    refine J_reg ?_
    refine st (s_move rfl) rfl ?_
    refine st (s_assign rfl) rfl ?_
    refine Run.nil ?_
    refine pj_then ?_
    refine J_seq ?_
    refine J_reg ?_
    refine st (s_move rfl) rfl ?_
    refine st (s_move rfl) rfl ?_
    refine st (s_move rfl) rfl ?_
    (refine st (s_indexIN rfl rfl ?_) rfl ?_; omega)
    refine st (s_load rfl) rfl ?_
    have hm : l.getD i 0 ∈ l := by
      simp only [List.getD, List.getElem?_eq_getElem hc, Option.getD_some]; exact List.getElem_mem hc
    refine st (s_callF (hC _ hm) rfl rfl ⟨VT.le_refl _, trivial⟩) rfl ?_
    refine Run.nil ?_
    refine pj_then ?_
    refine J_cond rfl (fun hc2 => ?_) (fun hc2 => ?_)
    · refine J_seq ?_
      refine J_reg ?_
      refine st (s_move rfl) rfl ?_
      refine st (s_assign rfl) rfl ?_
      refine Run.nil ?_
      refine pj_then ?_
      refine J_ret ?_
      refine pr_block ?_
      refine pr_then ?_
      refine pr_then ?_
      refine pr_block ?_
      refine pr_then ?_
      refine retc1 Try.results89 (.tmp rfl (le_exT (i : Int) (le_andT ⟨?_, by omega, by omega⟩ (VT.le_refl _))))
      have : l.any p = true := List.any_eq_true.2 ⟨_, hm, hc2⟩
      simp [this]
    · refine J_skip ?_
      refine pn_block ?_
      refine pj_then ?_
      refine J_reg ?_
      (refine st (s_add rfl rfl (wrap_i64 ?_ ?_)) rfl ?_; omega; omega)
      refine st (s_move rfl) rfl ?_
      refine Run.nil ?_
      refine pj_round (s := i) (i + 1) ⟨by omega, ?_⟩ (by show l.length - (i + 1) < l.length - i; omega) (by repeat (first | exact SubG.nil | refine SubG.cons rfl (VT.le_refl _) ?_ | (refine SubG.cons rfl (one_le ?_) ?_; (congr 1; first | omega | (simp; omega) | simp)))) .nil
      rw [List.take_add_one, List.any_append, ht, List.getElem?_eq_getElem hc]
      simp only [List.getD, List.getElem?_eq_getElem hc, Option.getD_some] at hc2
      simp [hc2]
  · refine J_exit ?_
    refine px_then ?_
    refine px_then ?_
    refine px_block ?_
    refine pj_then ?_
    refine J_seq ?_
    refine J_reg ?_
    refine st (s_assign rfl) rfl ?_
    refine Run.nil ?_
    refine pj_then ?_
    refine J_ret ?_
    refine retc1 Try.results89 (.tmp rfl (le_exT (-1 : Int) (le_andT ⟨?_, by omega, by omega⟩ (VT.le_refl _))))
    rw [List.take_of_length_le (by omega)] at ht
    simp [ht]
set_option maxHeartbeats 1000000 in
theorem ContainsFunc_ok (l : List Int) (p : Int → Bool) (cl : VT) (hC : ∀ x ∈ l, Callable Try.prog cl [one (.int .i64 x)] (one (.bool (p x)))) : Ok Try.prog 64 [numT .i64 l, cl] (one (.bool (l.any p))) := by
  refine Ok.enter Try.func64 rfl Try.ntmps64 rfl (fun w O => ?_)
  refine J_seq ?_
  refine J_reg ?_
  refine st (s_assign rfl) rfl ?_
  refine Run.nil ?_
  refine pj_then ?_
  refine J_seq ?_
  refine J_reg ?_
  refine st (s_move rfl) rfl ?_
  refine st (s_move rfl) rfl ?_
  refine a_callM (IndexFunc_ok l p cl hC).toM rfl ⟨VT.le_refl _, VT.le_refl _, trivial⟩ rfl rfl (fun k => ?_)
  obtain ⟨k, hk⟩ := k
  refine st (s_ge rfl rfl) rfl ?_
  refine st (s_assign rfl) rfl ?_
  refine Run.nil ?_
  refine pj_then ?_
  refine J_ret ?_
  refine retc1 Try.results64 (.tmp rfl (one_le ?_))
  have := hk.1
  show Value.bool (decide (0 ≤ k)) = _
  cases h : l.any p
  · rw [h] at this; simp at this; simp [this]
  · rw [h] at this; simp at this; simp [this]
/-- What the inner closure of Pick captures: the number that bounds the indices. -/
def capT (n : Int) : VT := ptrT .one (one (.int .i64 n))
set_option maxHeartbeats 1000000 in
theorem Pick11_ok (x n : Int) : Ok Try.prog 63 [one (.int .i64 x), capT n] (one (.bool (decide (x < 0 ∨ n ≤ x)))) := by
  unfold capT
  refine Ok.enter Try.func63 rfl Try.ntmps63 rfl (fun w O => ?_)
  refine J_seq ?_
  refine J_reg ?_
  refine st (s_assign rfl) rfl ?_
  refine Run.nil ?_
  refine pj_then ?_
  refine J_seq ?_
  refine J_reg ?_
  refine st (s_move rfl) rfl ?_
  refine st (s_lt rfl rfl) rfl ?_
  refine st (s_move rfl) rfl ?_
  refine bsel (t := 6) rfl (fun b h1 => ?_)
  rw [h1]
  cases b
  · simp at h1
    refine sg1 rfl rfl (s_move rfl) rfl ?_
    refine sg1 rfl rfl (s_load rfl) rfl ?_
    refine sg1 rfl rfl (s_ge rfl rfl) rfl ?_
    refine st (s_pickF rfl rfl) rfl ?_
    refine st (s_assign rfl) rfl ?_
    refine Run.nil ?_
    refine pj_then ?_
    refine J_ret ?_
    refine retc1 Try.results63 (.tmp rfl (one_le ?_))
    congr 1; rw [decide_eq_decide]; omega
  · simp at h1
    refine sg0 rfl rfl rfl rfl ?_
    refine sg0 rfl rfl rfl rfl ?_
    refine sg0 rfl rfl rfl rfl ?_
    refine st (s_pickT rfl rfl) rfl ?_
    refine st (s_assign rfl) rfl ?_
    refine Run.nil ?_
    refine pj_then ?_
    refine J_ret ?_
    refine retc1 Try.results63 (.tmp rfl (one_le ?_))
    congr 1; symm; rw [decide_eq_true_eq]; omega
set_option maxHeartbeats 1000000 in
theorem Pick1_ok (n : Int) : Ok Try.prog 62 [one (.int .i64 n)] (cloT 63 [capT n]) := by
  refine Ok.enter Try.func62 rfl Try.ntmps62 rfl (fun w O => ?_)
  refine J_seq ?_
  refine J_reg ?_
  refine a_box rfl rfl (ltN rfl) (fun b => ?_)
  refine st (s_assign rfl) rfl ?_
  refine Run.nil ?_
  refine pj_then ?_
  refine J_seq ?_
  refine J_reg ?_
  refine st (s_makeFunc rfl) rfl ?_
  refine st (s_assign rfl) rfl ?_
  refine Run.nil ?_
  refine pj_then ?_
  refine J_ret ?_
  refine PJ_open [boxO b 3 1 [(0, .one, one (.int .i64 n))]] (List.Perm.refl _) .nil (EntG.set (t := 2) rfl (Ent.clo1 (Ent.ptr (T := 3) (L := .one) List.mem_cons_self List.mem_cons_self))) ?_
  refine retc1 Try.results62 (.tmp rfl (VT.le_refl _))
end Tor
