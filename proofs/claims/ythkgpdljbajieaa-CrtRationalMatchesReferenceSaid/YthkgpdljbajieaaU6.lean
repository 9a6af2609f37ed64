/-
  Theorems that the proofs of laws of this seat rest on.
  No condition.
-/
import Derived.Test.YthkgpdljbajieaaU5
section
set_option linter.unusedVariables false
set_option linter.unusedSimpArgs false
namespace Tor
open Go Go.RowKit Go.Proofs
/-- A residue modulo a number that passes trial division. -/
def GoodR (p : Nat × Nat) : Prop := 2 ≤ p.1 ∧ p.1 < 2147483648 ∧ Trial p.1 ∧ p.2 < p.1
theorem getD_memR {l : List (Nat × Nat)} {i : Nat} (h : i < l.length) : l.getD i (0, 0) ∈ l := by
  rw [show l.getD i (0, 0) = l[i] by simp [List.getD, h]]; exact List.getElem_mem h
theorem mem_fstN {l : List (Nat × Nat)} {i x : Nat} (hi : i ≤ l.length) : x ∈ fstN l i ↔ ∃ j, j < i ∧ (l.getD j (0, 0)).1 = x := by
  unfold fstN
  rw [List.mem_map]
  constructor
  · rintro ⟨p, hp, rfl⟩
    obtain ⟨j, hj⟩ := List.mem_iff_getElem?.1 hp
    rw [List.getElem?_take] at hj
    split at hj
    · rename_i h; exact ⟨j, h, by rw [List.getD, hj]; rfl⟩
    · cases hj
  · rintro ⟨j, hj, rfl⟩
    refine ⟨l.getD j (0, 0), ?_, rfl⟩
    refine List.mem_iff_getElem?.2 ⟨j, ?_⟩
    rw [List.getElem?_take, if_pos hj]
    rw [List.getElem?_eq_getElem (by omega)]
    simp [List.getD, show j < l.length by omega]
theorem nodup_fstN {l : List (Nat × Nat)} {i : Nat} (hi : i < l.length) : (fstN l (i + 1)).Nodup ↔ (fstN l i).Nodup ∧ (l.getD i (0, 0)).1 ∉ fstN l i := by
  rw [fstN_succ hi, List.nodup_append]
  constructor
  · rintro ⟨h1, _, h2⟩
    exact ⟨h1, fun h => h2 _ h _ (List.mem_singleton.2 rfl) rfl⟩
  · rintro ⟨h1, h2⟩
    exact ⟨h1, by simp, fun a ha b hb e => h2 (by rw [← List.mem_singleton.1 hb, ← e]; exact ha)⟩
theorem fstN_all (l : List (Nat × Nat)) : fstN l l.length = l.map (·.1) := by unfold fstN; rw [List.take_length]
theorem nodup_sub {l : List (Nat × Nat)} {i : Nat} (h : (l.map (·.1)).Nodup) : (fstN l i).Nodup := by
  unfold fstN; rw [List.map_take]; exact List.Sublist.nodup (List.take_sublist _ _) h
attribute [local irreducible] Tor.J Tor.PJ Tor.StepO Tor.one Tor.slT Tor.ptrT Tor.aggT Tor.tupT Tor.exT Tor.andT Tor.gT Tor.eP Tor.boxO Tor.sliO Tor.slV Tor.VT.le Tor.Ret Tor.anyT Tor.mapO Tor.metT
set_option maxHeartbeats 4000000 in
theorem rqV_ok (l : List (Nat × Nat)) (hg : ∀ p ∈ l, GoodR p) : Ok Try.prog 43 [ressT l] (one (.bool (decide (l.map (·.1)).Nodup))) := by
  refine Ok.enter Try.func43 rfl Try.ntmps43 rfl (fun w O => ?_)
  refine J_fact (t := 0) rfl (fun _ _ h => slT_bound (show (slT (.agg 2) l.length (fun i => resT (l.getD i (0, 0)))).p _ _ from h)) (fun hbound => ?_)
  unfold ressT resT
  refine J_seq ?_
  refine J_reg ?_
  refine st (s_assign rfl) rfl ?_
  refine Run.nil ?_
  refine pj_then ?_
  refine J_seq ?_
  refine J_seq ?_
  refine J_reg ?_
  refine st (s_assign rfl) rfl ?_
  refine Run.nil ?_
  refine pj_then ?_
  refine J_block ?_
  refine J_sub (Γ' := [(0, _), (2, _), (3, _)]) (SubG.cons rfl (VT.le_refl _) (SubG.cons rfl (VT.le_refl _) (SubG.cons rfl (VT.le_refl _) (SubG.nil)))) (SubM.refl _) ?_
  refine J_loopA (σ := Nat) (Γk := [(0, _)]) (SubG.cons rfl (VT.le_refl _) (SubG.nil)) (fun i => [(3, one (.int .i64 (i : Nat)))]) (fun i M0 => M0) (fun i => i ≤ l.length ∧ (fstN l i).Nodup) (fun i => l.length - i) (0) (⟨Nat.zero_le _, List.nodup_nil⟩) (by repeat (first | exact SubG.refl _ | exact SubG.nil | refine SubG.cons rfl (VT.le_refl _) ?_ | (refine SubG.cons rfl (one_le ?_) ?_; (congr 1; first | omega | (simp; omega) | simp)))) (.nil) (fun i hi => ?_)
  refine J_norm (Γ' := [(3, _), (0, _)]) (M' := []) rfl rfl ?_
  obtain ⟨hi, hnd⟩ := hi
  by_cases hc : i < l.length
  · obtain ⟨g1, g2, g3, g4⟩ := hg _ (getD_memR hc)
    have hpr := rPrime_ok _ g1 g2 g3
    refine J_seq ?_
    refine J_seq ?_
    refine J_reg ?_
    refine st (s_move rfl) rfl ?_
    refine st (s_move rfl) rfl ?_
    refine st (s_len rfl) rfl ?_
    refine st (sT (by omega) (s_lt rfl rfl)) rfl ?_
    refine Run.nil ?_
    refine pj_then ?_
    refine J_cond1 rfl ?_
    refine J_skip ?_
    refine pj_then ?_
    refine J_seq ?_
    refine J_block ?_
    refine J_seq ?_
    refine J_seq ?_
    refine J_regd 28 mixed (by kernel_rfl) (by decide) ?_
    refine st (s_move rfl) rfl ?_
    refine st (s_move rfl) rfl ?_
    refine st (s_indexIN rfl rfl (by omega)) rfl ?_
    refine st (s_fieldI rfl rfl) rfl ?_
    refine st (s_load rfl) rfl ?_
    refine st (sF (by omega) (s_ge rfl rfl)) rfl ?_
    refine st (s_move rfl) rfl ?_
    refine sg1 rfl rfl (s_move rfl) rfl ?_
    refine sg1 rfl rfl (s_move rfl) rfl ?_
    refine sg1 rfl rfl (s_indexIN rfl rfl (by omega)) rfl ?_
    refine sg1 rfl rfl (s_fieldI rfl rfl) rfl ?_
    refine sg1 rfl rfl (s_load rfl) rfl ?_
    refine sg1 rfl rfl (s_callk (hpr ) rfl ⟨VT.le_refl _, trivial⟩) rfl ?_
    refine sg1 rfl rfl (s_not rfl) rfl ?_
    refine st (s_pickF rfl rfl) rfl ?_
    refine st (s_move rfl) rfl ?_
    refine sg1 rfl rfl (s_move rfl) rfl ?_
    refine sg1 rfl rfl (s_move rfl) rfl ?_
    refine sg1 rfl rfl (s_indexIN rfl rfl (by omega)) rfl ?_
    refine sg1 rfl rfl (s_fieldI rfl rfl) rfl ?_
    refine sg1 rfl rfl (s_load rfl) rfl ?_
    refine sg1 rfl rfl (s_move rfl) rfl ?_
    refine sg1 rfl rfl (s_move rfl) rfl ?_
    refine sg1 rfl rfl (s_indexIN rfl rfl (by omega)) rfl ?_
    refine sg1 rfl rfl (s_fieldI rfl rfl) rfl ?_
    refine sg1 rfl rfl (s_load rfl) rfl ?_
    refine sg1 rfl rfl (sF (by omega) (s_ge rfl rfl)) rfl ?_
    refine st (s_pickF rfl rfl) rfl ?_
    refine Run.nil ?_
    refine Run.nil ?_
    refine pj_then ?_
    refine J_cond0 rfl ?_
    refine J_skip ?_
    refine pj_then ?_
    refine J_seq ?_
    refine J_reg ?_
    refine st (s_assign rfl) rfl ?_
    refine Run.nil ?_
    refine pj_then ?_
    refine J_block ?_
    refine J_sub (Γ' := [(0, _), (3, _), (4, _)]) (SubG.cons rfl (VT.le_refl _) (SubG.cons rfl (VT.le_refl _) (SubG.cons rfl (VT.le_refl _) (SubG.nil)))) (SubM.refl _) ?_
    refine J_loopA (σ := Nat) (Γk := [(0, _), (3, _)]) (SubG.cons rfl (VT.le_refl _) (SubG.cons rfl (VT.le_refl _) (SubG.nil))) (fun k => [(4, one (.int .i64 (k : Nat)))]) (fun k M0 => M0) (fun k => k ≤ i ∧ ∀ j, j < k → (l.getD j (0, 0)).1 ≠ (l.getD i (0, 0)).1) (fun k => i - k) (0) (⟨Nat.zero_le _, fun j h => absurd h (Nat.not_lt_zero _)⟩) (by repeat (first | exact SubG.refl _ | exact SubG.nil | refine SubG.cons rfl (VT.le_refl _) ?_ | (refine SubG.cons rfl (one_le ?_) ?_; (congr 1; first | omega | (simp; omega) | simp)))) (.nil) (fun k hk => ?_)
    refine J_norm (Γ' := [(4, _), (0, _), (3, _)]) (M' := []) rfl rfl ?_
    obtain ⟨hk, hne⟩ := hk
    by_cases hkc : k < i
    · by_cases he : (l.getD k (0, 0)).1 = (l.getD i (0, 0)).1
      · have hdup : ¬ (l.map (·.1)).Nodup := fun h => by
          have h2 := nodup_sub (i := i + 1) h
          rw [nodup_fstN hc] at h2
          exact h2.2 ((mem_fstN hi).2 ⟨k, hkc, he⟩)
        rw [decide_eq_false hdup]
        refine J_seq ?_
        refine J_seq ?_
        refine J_reg ?_
        refine st (s_move rfl) rfl ?_
        refine st (s_move rfl) rfl ?_
        refine st (sT (by omega) (s_lt rfl rfl)) rfl ?_
        refine Run.nil ?_
        refine pj_then ?_
        refine J_cond1 rfl ?_
        refine J_skip ?_
        refine pj_then ?_
        refine J_seq ?_
        refine J_block ?_
        refine J_seq ?_
        refine J_regd 11 mixed (by kernel_rfl) (by decide) ?_
        refine st (s_move rfl) rfl ?_
        refine st (s_move rfl) rfl ?_
        refine st (s_indexIN rfl rfl (by omega)) rfl ?_
        refine st (s_fieldI rfl rfl) rfl ?_
        refine st (s_load rfl) rfl ?_
        refine st (s_move rfl) rfl ?_
        refine st (s_move rfl) rfl ?_
        refine st (s_indexIN rfl rfl (by omega)) rfl ?_
        refine st (s_fieldI rfl rfl) rfl ?_
        refine st (s_load rfl) rfl ?_
        refine st (sT (by omega) (s_eq rfl rfl)) rfl ?_
        refine Run.nil ?_
        refine Run.nil ?_
        refine pj_then ?_
        refine J_cond1 rfl ?_
        refine J_seq ?_
        refine J_reg ?_
        refine st (s_assign rfl) rfl ?_
        refine Run.nil ?_
        refine pj_then ?_
        refine J_ret ?_
        refine pr_block ?_
        refine pr_then ?_
        refine pr_then ?_
        refine pr_block ?_
        refine pr_block ?_
        refine pr_then ?_
        refine pr_then ?_
        refine pr_block ?_
        refine pr_then ?_
        refine retc1 Try.results43 (.tmp rfl (VT.le_refl _))
      · refine J_seq ?_
        refine J_seq ?_
        refine J_reg ?_
        refine st (s_move rfl) rfl ?_
        refine st (s_move rfl) rfl ?_
        refine st (sT (by omega) (s_lt rfl rfl)) rfl ?_
        refine Run.nil ?_
        refine pj_then ?_
        refine J_cond1 rfl ?_
        refine J_skip ?_
        refine pj_then ?_
        refine J_seq ?_
        refine J_block ?_
        refine J_seq ?_
        refine J_regd 11 mixed (by kernel_rfl) (by decide) ?_
        refine st (s_move rfl) rfl ?_
        refine st (s_move rfl) rfl ?_
        refine st (s_indexIN rfl rfl (by omega)) rfl ?_
        refine st (s_fieldI rfl rfl) rfl ?_
        refine st (s_load rfl) rfl ?_
        refine st (s_move rfl) rfl ?_
        refine st (s_move rfl) rfl ?_
        refine st (s_indexIN rfl rfl (by omega)) rfl ?_
        refine st (s_fieldI rfl rfl) rfl ?_
        refine st (s_load rfl) rfl ?_
        refine st (sF (by omega) (s_eq rfl rfl)) rfl ?_
        refine Run.nil ?_
        refine Run.nil ?_
        refine pj_then ?_
        refine J_cond0 rfl ?_
        refine J_skip ?_
        refine pn_block ?_
        refine pj_then ?_
        refine J_reg ?_
        refine st (s_move rfl) rfl ?_
        refine st (s_addN _ 1 rfl rfl (by omega)) rfl ?_
        refine st (s_assign rfl) rfl ?_
        refine Run.nil ?_
        refine pj_roundM (k + 1) (⟨hkc, fun j hj => by rcases Nat.lt_or_eq_of_le (Nat.lt_succ_iff.1 hj) with h | h; exact hne j h; rw [h]; exact he⟩) (by omega) (by repeat (first | exact SubG.refl _ | exact SubG.nil | refine SubG.cons rfl (VT.le_refl _) ?_ | (refine SubG.cons rfl (one_le ?_) ?_; (congr 1; first | omega | (simp; omega) | simp)))) (.nil)
    · have hki : k = i := by omega
      have hnn : (fstN l (i + 1)).Nodup := (nodup_fstN hc).2 ⟨hnd, fun h => by
        obtain ⟨j, h1, h2⟩ := (mem_fstN hi).1 h
        exact hne j (by omega) h2⟩
      refine J_seq ?_
      refine J_seq ?_
      refine J_reg ?_
      refine st (s_move rfl) rfl ?_
      refine st (s_move rfl) rfl ?_
      refine st (sF (by omega) (s_lt rfl rfl)) rfl ?_
      refine Run.nil ?_
      refine pj_then ?_
      refine J_cond0 rfl ?_
      refine J_exit ?_
      refine px_then ?_
      refine px_then ?_
      refine px_block ?_
      refine pn_block ?_
      refine pj_then ?_
      refine J_reg ?_
      refine st (s_move rfl) rfl ?_
      refine st (s_addN _ 1 rfl rfl (by omega)) rfl ?_
      refine st (s_assign rfl) rfl ?_
      refine Run.nil ?_
      refine pj_roundM (i + 1) (⟨hc, hnn⟩) (by omega) (by repeat (first | exact SubG.refl _ | exact SubG.nil | refine SubG.cons rfl (VT.le_refl _) ?_ | (refine SubG.cons rfl (one_le ?_) ?_; (congr 1; first | omega | (simp; omega) | simp)))) (.nil)
  · have hl : i = l.length := by omega
    rw [hl, fstN_all] at hnd
    rw [decide_eq_true hnd]
    refine J_seq ?_
    refine J_seq ?_
    refine J_reg ?_
    refine st (s_move rfl) rfl ?_
    refine st (s_move rfl) rfl ?_
    refine st (s_len rfl) rfl ?_
    refine st (sF (by omega) (s_lt rfl rfl)) rfl ?_
    refine Run.nil ?_
    refine pj_then ?_
    refine J_cond0 rfl ?_
    refine J_exit ?_
    refine px_then ?_
    refine px_then ?_
    refine px_block ?_
    refine pj_then ?_
    refine J_seq ?_
    refine J_reg ?_
    refine st (s_assign rfl) rfl ?_
    refine Run.nil ?_
    refine pj_then ?_
    refine J_ret ?_
    refine retc1 Try.results43 (.tmp rfl (VT.le_refl _))
theorem drop_val {l : List Nat} {c : Nat} (h : c < l.length) : lv (l.drop c) = lv (l.drop (c + 1)) * 4294967296 + l.getD c 0 := by
  rw [drop_getD h, lv]; omega
set_option maxHeartbeats 4000000 in
theorem rSmall_ok (n : Nat) (hn : n < 9223372036854775808) : Ok Try.prog 58 [bigT (n : Int)] (tupT [one (.int .i64 (n : Int)), one (.bool true)]) := by
  have hl2 : (digs n).length ≤ 2 := digs_len_le (Nat.lt_trans hn (by decide))
  have hlv := lv_digs n
  have hlim := limbs_digs n
  have hneg : ¬ (n : Int) < 0 := by omega
  unfold bigT
  rw [Int.natAbs_natCast, decide_eq_false hneg]
  refine Ok.enter Try.func58 rfl Try.ntmps58 rfl (fun w O => ?_)
  refine J_seq ?_
  refine J_reg ?_
  refine a_boxS rfl rfl (ltN rfl) (fun b1 => ?_)
  refine st (s_assign rfl) rfl ?_
  refine st (s_assign rfl) rfl ?_
  refine Run.nil ?_
  refine pj_then ?_
  refine J_seq ?_
  refine J_seq ?_
  refine J_reg ?_
  refine st (s_fieldAddr rfl) rfl ?_
  refine st (s_loadB 0 rfl rfl rfl) rfl ?_
  refine st (s_len rfl) rfl ?_
  refine st (sF (by omega) (s_gt rfl rfl)) rfl ?_
  refine Run.nil ?_
  refine pj_then ?_
  refine J_cond0 rfl ?_
  refine J_skip ?_
  refine pj_then ?_
  refine J_seq ?_
  refine J_reg ?_
  refine st (s_assign rfl) rfl ?_
  refine Run.nil ?_
  refine pj_then ?_
  refine J_seq ?_
  refine J_seq ?_
  refine J_reg ?_
  refine st (s_fieldAddr rfl) rfl ?_
  refine st (s_loadB 0 rfl rfl rfl) rfl ?_
  refine st (s_len rfl) rfl ?_
  refine st (s_sub rfl rfl (wrap_i64 (by omega) (by omega))) rfl ?_
  refine st (s_assign rfl) rfl ?_
  refine Run.nil ?_
  refine pj_then ?_
  refine J_block ?_
  refine J_sub (Γ' := [(1, _), (2, _), (3, _), (4, _), (5, _)]) (SubG.cons rfl (VT.le_refl _) (SubG.cons rfl (VT.le_refl _) (SubG.cons rfl (VT.le_refl _) (SubG.cons rfl (VT.le_refl _) (SubG.cons rfl (VT.le_refl _) (SubG.nil)))))) (SubM.refl _) ?_
  refine J_loopA (σ := Nat) (Γk := [(1, _), (2, _), (3, _)]) (SubG.cons rfl (VT.le_refl _) (SubG.cons rfl (VT.le_refl _) (SubG.cons rfl (VT.le_refl _) (SubG.nil)))) (fun c => [(5, one (.int .i64 ((c : Nat) - 1 : Int))), (4, one (.int .u64 (lv ((digs n).drop c) : Nat)))]) (fun c M0 => M0) (fun c => c ≤ (digs n).length) (fun c => c) ((digs n).length) (Nat.le_refl _) (SubG.cons rfl (VT.le_refl _) (SubG.cons rfl (one_le (by rw [List.drop_length]; rfl)) SubG.nil)) (.keep (Own.le_refl _) (.nil)) (fun c hc => ?_)
  refine J_norm (Γ' := [(5, _), (4, _), (1, _), (2, _), (3, _)]) (M' := [_]) rfl rfl ?_
  cases c with
  | zero =>
    rw [List.drop_zero, hlv]
    refine J_seq ?_
    refine J_seq ?_
    refine J_reg ?_
    refine st (s_move rfl) rfl ?_
    refine st (sF (by omega) (s_ge rfl rfl)) rfl ?_
    refine Run.nil ?_
    refine pj_then ?_
    refine J_cond0 rfl ?_
    refine J_exit ?_
    refine px_then ?_
    refine px_then ?_
    refine px_block ?_
    refine pj_then ?_
    refine J_seq ?_
    refine J_seq ?_
    refine J_reg ?_
    refine st (s_fieldAddr rfl) rfl ?_
    refine st (s_loadB 0 rfl rfl rfl) rfl ?_
    refine Run.nil ?_
    refine pj_then ?_
    refine J_cond0 rfl ?_
    refine J_skip ?_
    refine pj_then ?_
    refine J_seq ?_
    refine J_reg ?_
    refine st (s_move rfl) rfl ?_
    refine st (s_toI64 rfl (by omega) (by omega)) rfl ?_
    refine st (s_move rfl) rfl ?_
    refine st (sT (by omega) (s_le rfl rfl)) rfl ?_
    refine st (s_assign rfl) rfl ?_
    refine st (s_assign rfl) rfl ?_
    refine Run.nil ?_
    refine pj_then ?_
    refine J_ret ?_
    refine retc2 Try.results58 (.tmp rfl (VT.le_refl _)) (.tmp rfl (VT.le_refl _))
  | succ c =>
    have hdv := drop_val (l := digs n) (c := c) hc
    have hg := getD_lt hlim c
    have hle : lv ((digs n).drop c) ≤ n := by
      have := lv_split (digs n) c (by omega)
      rw [hlv] at this
      have hp : 0 < 4294967296 ^ c := Nat.pow_pos (by decide)
      have := Nat.le_mul_of_pos_left (lv ((digs n).drop c)) hp
      omega
    have en : ((c + 1 : Nat) : Int) - 1 = (c : Nat) := by omega
    rw [en]
    generalize lv ((digs n).drop (c + 1)) = z at *
    refine J_seq ?_
    refine J_seq ?_
    refine J_reg ?_
    refine st (s_move rfl) rfl ?_
    refine st (sT (by omega) (s_ge rfl rfl)) rfl ?_
    refine Run.nil ?_
    refine pj_then ?_
    refine J_cond1 rfl ?_
    refine J_skip ?_
    refine pj_then ?_
    refine J_seq ?_
    refine J_block ?_
    refine J_reg ?_
    refine st (s_move rfl) rfl ?_
    refine st (s_mulU (b := 4294967296) rfl rfl (by omega)) rfl ?_
    refine st (s_fieldAddr rfl) rfl ?_
    refine st (s_loadB 0 rfl rfl rfl) rfl ?_
    refine st (s_move rfl) rfl ?_
    refine st (s_indexIN rfl rfl (by omega)) rfl ?_
    refine st (s_load rfl) rfl ?_
    refine st (s_toU64 rfl (by omega)) rfl ?_
    refine st (s_addU rfl rfl (by omega)) rfl ?_
    refine st (s_assign rfl) rfl ?_
    refine Run.nil ?_
    refine pn_block ?_
    refine pj_then ?_
    refine J_reg ?_
    refine st (s_move rfl) rfl ?_
    refine st (s_sub rfl rfl (wrap_i64 (by omega) (by omega))) rfl ?_
    refine st (s_assign rfl) rfl ?_
    refine Run.nil ?_
    refine pj_roundM (c) (Nat.le_of_succ_le hc) (by omega) (SubG.cons rfl (VT.le_refl _) (SubG.cons rfl (one_le (by rw [hdv])) (SubG.cons rfl (VT.le_refl _) (SubG.cons rfl (VT.le_refl _) (SubG.cons rfl (VT.le_refl _) SubG.nil))))) (.keep (Own.le_refl _) (.nil))
/-- A raw residue. -/
def rawRT (p : Nat × Nat) : VT := aggT 2 [(0, .one, one (.int .u8 (p.1 : Int))), (1, .one, one (.int .u32 (p.2 : Int)))]
def rawsT (l : List (Nat × Nat)) : VT := slT (.agg 2) l.length (fun i => rawRT (l.getD i (0, 0)))
/-- Numbers of 8 and of 32 bits. -/
def Raw64 (l : List (Nat × Nat)) : Prop := ∀ p ∈ l, p.1 < 256 ∧ p.2 < 4294967296
theorem Raw64.get {l : List (Nat × Nat)} (h : Raw64 l) (i : Nat) : (l.getD i (0, 0)).1 < 256 ∧ (l.getD i (0, 0)).2 < 4294967296 := by
  rw [List.getD]
  cases hx : l[i]? with
  | none => simp
  | some x => simp; exact h x (List.mem_of_getElem? hx)
def primeAt (p : Nat × Nat) : Nat := somes.getD (p.1 % 18) 0
def made1 (out : List (Nat × Nat)) (p : Nat × Nat) : List (Nat × Nat) := if primeAt p ∈ out.map (·.1) then out else out ++ [(primeAt p, p.2 % primeAt p)]
/-- The valid list that a raw one describes. -/
def madeL (l : List (Nat × Nat)) : List (Nat × Nat) := l.foldl made1 []
theorem primeAt_mem (p : Nat × Nat) : primeAt p ∈ somes := by
  unfold primeAt
  have h : p.1 % 18 < somes.length := by show _ < 18; omega
  rw [show somes.getD (p.1 % 18) 0 = somes[p.1 % 18] by simp [List.getD, h]]
  exact List.getElem_mem h
theorem somes_rng : ∀ p ∈ somes, 2 ≤ p ∧ p < 2147483648 := by
  have h : (somes.all fun p => decide (2 ≤ p) && decide (p < 2147483648)) = true := by decide
  intro p hp
  have := List.all_eq_true.1 h p hp
  simpa using this
structure MadeR (out : List (Nat × Nat)) : Prop where
  good : ∀ p ∈ out, p.1 ∈ somes ∧ p.2 < p.1
  nd : (out.map (·.1)).Nodup
theorem MadeR.goodR {out : List (Nat × Nat)} (h : MadeR out) : ∀ p ∈ out, GoodR p := fun p hp =>
  let ⟨h1, h2⟩ := h.good p hp
  ⟨(somes_rng _ h1).1, (somes_rng _ h1).2, somes_trial _ h1, h2⟩
theorem MadeR.new {out : List (Nat × Nat)} (h : MadeR out) (p : Nat × Nat) : ∀ q ∈ out ++ [(primeAt p, p.2 % primeAt p)], q.1 ∈ somes ∧ q.2 < q.1 := fun q hq => by
  rcases List.mem_append.1 hq with hq | hq
  · exact h.good q hq
  · rw [List.mem_singleton.1 hq]
    have hp := primeAt_mem p
    exact ⟨hp, Nat.mod_lt _ (by have := (somes_rng _ hp).1; omega)⟩
theorem MadeR.newR {out : List (Nat × Nat)} (h : MadeR out) (p : Nat × Nat) : ∀ q ∈ out ++ [(primeAt p, p.2 % primeAt p)], GoodR q := fun q hq =>
  let ⟨h1, h2⟩ := h.new p q hq
  ⟨(somes_rng _ h1).1, (somes_rng _ h1).2, somes_trial _ h1, h2⟩
theorem nd_new {out : List (Nat × Nat)} (h : (out.map (·.1)).Nodup) (x : Nat × Nat) : ((out ++ [x]).map (·.1)).Nodup ↔ x.1 ∉ out.map (·.1) := by
  rw [List.map_append, List.nodup_append]
  constructor
  · rintro ⟨_, _, h2⟩ hm
    exact h2 _ hm _ (List.mem_singleton.2 rfl) rfl
  · intro hn
    exact ⟨h, by simp, fun a ha b hb e => hn (by simp at hb; rw [← hb, ← e]; exact ha)⟩
theorem MadeR.step {out : List (Nat × Nat)} (h : MadeR out) (p : Nat × Nat) : MadeR (made1 out p) := by
  unfold made1
  split
  · exact h
  · rename_i hn
    exact ⟨h.new p, (nd_new h.nd _).2 hn⟩
theorem madeR_fold : ∀ (l : List (Nat × Nat)) (out : List (Nat × Nat)), MadeR out → MadeR (l.foldl made1 out)
  | [], _, h => h
  | p :: l, out, h => madeR_fold l _ (h.step p)
theorem madeR (l : List (Nat × Nat)) : MadeR (madeL l) := madeR_fold l [] ⟨(fun p hp => by cases hp), List.nodup_nil⟩
theorem made_len : ∀ (l : List (Nat × Nat)) (out : List (Nat × Nat)), (l.foldl made1 out).length ≤ out.length + l.length
  | [], _ => Nat.le_refl _
  | p :: l, out => by
    have := made_len l (made1 out p)
    have h2 : (made1 out p).length ≤ out.length + 1 := by
      unfold made1; split
      · omega
      · rw [List.length_append]; exact Nat.le_refl _
    rw [List.foldl_cons, List.length_cons]
    omega
theorem madeL_succ {l : List (Nat × Nat)} {i : Nat} (h : i < l.length) : madeL (l.take (i + 1)) = made1 (madeL (l.take i)) (l.getD i (0, 0)) := by
  unfold madeL; rw [take_getD' (0, 0) h, List.foldl_append]; rfl
theorem ress_snoc {l : List (Nat × Nat)} {x : Nat × Nat} {φ : VT} {ψ : Nat → VT} (h : φ = resT x) : VT.le (slT (.agg 2) (0 + l.length + 1) (fun q => if q < 0 + l.length then if q < 0 then ψ q else resT (l.getD (q - 0) (0, 0)) else φ)) (ressT (l ++ [x])) := by
  subst h
  refine slT_le' (by simp) (fun q hq => ?_)
  by_cases h : q < 0 + l.length
  · rw [if_pos h, if_neg (Nat.not_lt_zero _)]
    simp [List.getD, List.getElem?_append, show q < l.length by omega]
  · rw [if_neg h]
    have : q = l.length := by omega
    subst this
    simp [List.getD]
set_option maxHeartbeats 4000000 in
theorem rMadeL_ok (l : List (Nat × Nat)) (n : Nat) (h64 : Raw64 l) (hn : n ≤ 16) : Ok Try.prog 13 [rawsT l, one (.int .i64 (n : Int))] (ressT (madeL (l.take n))) := by
  refine Ok.enter Try.func13 rfl Try.ntmps13 rfl (fun w O => ?_)
  unfold rawsT rawRT
  refine J_fact (t := 0) rfl (fun _ _ h => slT_bound h) (fun hbound => ?_)
  refine J_seq ?_
  refine J_reg ?_
  refine st (s_assign rfl) rfl ?_
  refine Run.nil ?_
  refine pj_then ?_
  refine J_seq ?_
  refine J_reg ?_
  refine stSO (n := 0) rfl rfl rfl rfl rfl ?_
  refine PartsK.nil (fun bl => ?_)
  refine st (s_assign rfl) rfl ?_
  refine Run.nil ?_
  refine pj_then ?_
  refine J_seq ?_
  refine J_seq ?_
  refine J_reg ?_
  refine st (s_assign rfl) rfl ?_
  refine Run.nil ?_
  refine pj_then ?_
  refine J_block ?_
  refine J_freeze (t := 5) (i := 0) rfl rfl ?_
  refine J_sub (Γ' := [(0, _), (1, _), (4, _), (5, _), (6, _)]) (SubG.cons rfl (VT.le_refl _) (SubG.cons rfl (VT.le_refl _) (SubG.cons rfl (VT.le_refl _) (SubG.cons rfl (VT.le_refl _) (SubG.cons rfl (VT.le_refl _) (SubG.nil)))))) (SubM.refl _) ?_
  refine J_loopA (σ := Nat) (Γk := [(0, _), (1, _), (4, _)]) (SubG.cons rfl (VT.le_refl _) (SubG.cons rfl (VT.le_refl _) (SubG.cons rfl (VT.le_refl _) (SubG.nil)))) (fun i => [(6, one (.int .i64 (i : Nat))), (5, ressT (madeL (l.take i)))]) (fun i M0 => M0) (fun i => i ≤ l.length ∧ i ≤ n) (fun i => l.length - i) (0) (⟨Nat.zero_le _, Nat.zero_le _⟩) (SubG.cons rfl (VT.le_refl _) (SubG.cons rfl (slT_le' rfl (fun q hq => absurd hq (Nat.not_lt_zero _))) SubG.nil)) (.nil) (fun i hi => ?_)
  refine J_norm (Γ' := [(6, _), (5, _), (0, _), (1, _), (4, _)]) (M' := []) rfl rfl ?_
  obtain ⟨hi, hin⟩ := hi
  by_cases hc : i < l.length ∧ i < n
  · obtain ⟨hc1, hc2⟩ := hc
    obtain ⟨r1, r2⟩ := h64.get i
    have hm := madeR (l.take i)
    have hml : (madeL (l.take i)).length ≤ i := by
      have := made_len (l.take i) []
      unfold madeL
      rw [List.length_take, List.length_nil] at this
      omega
    have hps := primeAt_mem (l.getD i (0, 0))
    obtain ⟨p1, p2⟩ := somes_rng _ hps
    have hsl := madeL_succ hc1
    unfold primeAt at p1 p2
    refine J_seq ?_
    refine J_seq ?_
    refine J_reg ?_
    refine st (s_move rfl) rfl ?_
    refine st (s_move rfl) rfl ?_
    refine st (s_len rfl) rfl ?_
    refine st (sT (by omega) (s_lt rfl rfl)) rfl ?_
    refine st (s_move rfl) rfl ?_
    refine sg1 rfl rfl (s_move rfl) rfl ?_
    refine sg1 rfl rfl (s_move rfl) rfl ?_
    refine sg1 rfl rfl (sT (by omega) (s_lt rfl rfl)) rfl ?_
    refine st (s_pickT rfl rfl) rfl ?_
    refine Run.nil ?_
    refine pj_then ?_
    refine J_cond1 rfl ?_
    refine J_skip ?_
    refine pj_then ?_
    refine J_seq ?_
    refine J_block ?_
    refine J_seq ?_
    refine J_regd 10 mixed (by kernel_rfl) (by decide) ?_
    refine st (s_callk (Some_ok ) rfl trivial) rfl ?_
    refine st (s_move rfl) rfl ?_
    refine st (s_move rfl) rfl ?_
    refine st (s_indexIN rfl rfl (by omega)) rfl ?_
    refine st (s_fieldI rfl rfl) rfl ?_
    refine st (s_load rfl) rfl ?_
    refine st (s_toI64 rfl (by omega) (by omega)) rfl ?_
    refine st (s_remN 18 rfl rfl rfl (by decide)) rfl ?_
    refine st (s_indexIN rfl rfl (by omega)) rfl ?_
    refine st (s_load rfl) rfl ?_
    refine Run.nil ?_
    refine st (s_assign rfl) rfl ?_
    refine Run.nil ?_
    refine pj_then ?_
    refine J_seq ?_
    refine J_reg ?_
    refine stSO (n := 0) rfl rfl rfl rfl rfl ?_
    refine PartsK.nil (fun bl => ?_)
    refine st (s_move rfl) rfl ?_
    (refine a_append 0 rfl rfl rfl (leN rfl) ?_ ?_ rfl (ltN rfl) (fun sv33 cap33 => ?_); omega; omega)
    refine st (s_assign rfl) rfl ?_
    refine Run.nil ?_
    refine pj_then ?_
    refine J_seq ?_
    refine J_reg ?_
    refine st (s_move rfl) rfl ?_
    refine st (s_move rfl) rfl ?_
    refine st (s_move rfl) rfl ?_
    refine st (s_move rfl) rfl ?_
    refine st (s_indexIN rfl rfl (by omega)) rfl ?_
    refine st (s_fieldI rfl rfl) rfl ?_
    refine st (s_load rfl) rfl ?_
    refine st (s_toU64 rfl (by omega)) rfl ?_
    refine st (s_move rfl) rfl ?_
    refine st (s_remN _ rfl rfl rfl (by omega)) rfl ?_
    refine stB rfl rfl rfl ?_
    refine BuildK.cons rfl rfl rfl ?_
    refine BuildK.cons rfl rfl rfl ?_
    refine BuildK.nil ?_
    refine stS1 rfl rfl rfl rfl ?_
    (refine a_append 0 rfl rfl rfl (leN rfl) ?_ ?_ rfl (ltN rfl) (fun sv46 cap46 => ?_); omega; omega)
    refine st (s_assign rfl) rfl ?_
    refine Run.nil ?_
    refine pj_then ?_
    refine J_seq ?_
    refine J_reg ?_
    refine st (s_move rfl) rfl ?_
    refine Run_freeze2 (t1 := 47) (t2 := 8) (j := 0) rfl rfl rfl ?_
    refine Run_retype (t := 47) (ψ := ressT (madeL (l.take i) ++ [(primeAt (l.getD i (0, 0)), (l.getD i (0, 0)).2 % primeAt (l.getD i (0, 0)))])) rfl (ress_snoc rfl) ?_
    refine Run_retype (t := 8) (ψ := ressT (madeL (l.take i) ++ [(primeAt (l.getD i (0, 0)), (l.getD i (0, 0)).2 % primeAt (l.getD i (0, 0)))])) rfl (ress_snoc rfl) ?_
    have hv := rqV_ok _ (hm.newR (l.getD i (0, 0)))
    have hnd := nd_new hm.nd (primeAt (l.getD i (0, 0)), (l.getD i (0, 0)).2 % primeAt (l.getD i (0, 0)))
    unfold made1 at hsl
    by_cases hd : primeAt (l.getD i (0, 0)) ∈ (madeL (l.take i)).map (·.1)
    · rw [if_pos hd] at hsl
      rw [decide_eq_false (fun h => hnd.1 h hd)] at hv
      refine st (s_callk (hv ) rfl ⟨VT.le_refl _, trivial⟩) rfl ?_
      refine Run.nil ?_
      refine pj_then ?_
      refine J_cond0 rfl ?_
      refine J_skip ?_
      refine pn_block ?_
      refine pj_then ?_
      refine J_reg ?_
      refine st (s_move rfl) rfl ?_
      refine st (s_addN _ 1 rfl rfl (by omega)) rfl ?_
      refine st (s_assign rfl) rfl ?_
      refine Run.nil ?_
      refine pj_roundM (i + 1) (⟨hc1, hc2⟩) (by omega) (SubG.cons rfl (VT.le_refl _) (SubG.cons rfl (by rw [hsl]; exact VT.le_refl _) (SubG.cons rfl (VT.le_refl _) (SubG.cons rfl (VT.le_refl _) (SubG.cons rfl (VT.le_refl _) SubG.nil))))) (.nil)
    · rw [if_neg hd] at hsl
      rw [decide_eq_true (hnd.2 hd)] at hv
      refine st (s_callk (hv ) rfl ⟨VT.le_refl _, trivial⟩) rfl ?_
      refine Run.nil ?_
      refine pj_then ?_
      refine J_cond1 rfl ?_
      refine J_reg ?_
      refine st (s_move rfl) rfl ?_
      refine st (s_assign rfl) rfl ?_
      refine Run.nil ?_
      refine pn_block ?_
      refine pj_then ?_
      refine J_reg ?_
      refine st (s_move rfl) rfl ?_
      refine st (s_addN _ 1 rfl rfl (by omega)) rfl ?_
      refine st (s_assign rfl) rfl ?_
      refine Run.nil ?_
      refine pj_roundM (i + 1) (⟨hc1, hc2⟩) (by omega) (SubG.cons rfl (VT.le_refl _) (SubG.cons rfl (by rw [hsl]; exact VT.le_refl _) (SubG.cons rfl (VT.le_refl _) (SubG.cons rfl (VT.le_refl _) (SubG.cons rfl (VT.le_refl _) SubG.nil))))) (.nil)
  · have he : l.take i = l.take n := by
      rcases Nat.lt_or_ge i l.length with h | h
      · rw [show i = n by omega]
      · rw [List.take_of_length_le h, List.take_of_length_le (by omega)]
    rw [he]
    by_cases h1 : i < l.length
    · have h2 : ¬ i < n := fun h => hc ⟨h1, h⟩
      refine J_seq ?_
      refine J_seq ?_
      refine J_reg ?_
      refine st (s_move rfl) rfl ?_
      refine st (s_move rfl) rfl ?_
      refine st (s_len rfl) rfl ?_
      refine st (sT (by omega) (s_lt rfl rfl)) rfl ?_
      refine st (s_move rfl) rfl ?_
      refine sg1 rfl rfl (s_move rfl) rfl ?_
      refine sg1 rfl rfl (s_move rfl) rfl ?_
      refine sg1 rfl rfl (sF (by omega) (s_lt rfl rfl)) rfl ?_
      refine st (s_pickT rfl rfl) rfl ?_
      refine Run.nil ?_
      refine pj_then ?_
      refine J_cond0 rfl ?_
      refine J_exit ?_
      refine px_then ?_
      refine px_then ?_
      refine px_block ?_
      refine pj_then ?_
      refine J_seq ?_
      refine J_reg ?_
      refine st (s_move rfl) rfl ?_
      refine st (s_assign rfl) rfl ?_
      refine Run.nil ?_
      refine pj_then ?_
      refine J_ret ?_
      refine retc1 Try.results13 (.tmp rfl (VT.le_refl _))
    · refine J_seq ?_
      refine J_seq ?_
      refine J_reg ?_
      refine st (s_move rfl) rfl ?_
      refine st (s_move rfl) rfl ?_
      refine st (s_len rfl) rfl ?_
      refine st (sF (by omega) (s_lt rfl rfl)) rfl ?_
      refine st (s_move rfl) rfl ?_
      refine sg0 rfl rfl rfl rfl ?_
      refine sg0 rfl rfl rfl rfl ?_
      refine sg0 rfl rfl rfl rfl ?_
      refine st (s_pickF rfl rfl) rfl ?_
      refine Run.nil ?_
      refine pj_then ?_
      refine J_cond0 rfl ?_
      refine J_exit ?_
      refine px_then ?_
      refine px_then ?_
      refine px_block ?_
      refine pj_then ?_
      refine J_seq ?_
      refine J_reg ?_
      refine st (s_move rfl) rfl ?_
      refine st (s_assign rfl) rfl ?_
      refine Run.nil ?_
      refine pj_then ?_
      refine J_ret ?_
      refine retc1 Try.results13 (.tmp rfl (VT.le_refl _))
end Tor
end

section
set_option linter.unusedVariables false
set_option linter.unusedSimpArgs false
namespace Tor
open Go Go.RowKit Go.Proofs
def prodN (l : List (Nat × Nat)) : Nat := l.foldl (fun m p => m * p.1) 1
def invN (p a : Nat) : Nat := if a = 0 then 0 else a ^ (p - 2) % p
def crtT (s p : Nat × Nat) : Nat := ((p.2 + p.1 - s.1 % p.1) % p.1) * invN p.1 (s.2 % p.1) % p.1
def crtStep (s p : Nat × Nat) : Nat × Nat := (s.1 + s.2 * crtT s p, s.2 * p.1)
def crtF (l : List (Nat × Nat)) : Nat × Nat := l.foldl crtStep (0, 1)
def combI (l : List (Nat × Nat)) : Int := if (crtF l).2 < (crtF l).1 + (crtF l).1 then ((crtF l).1 : Int) - ((crtF l).2 : Int) else ((crtF l).1 : Int)
def consB (l : List (Nat × Nat)) (a : Int) : Bool := l.all fun p => decide ((a % (p.1 : Int)).toNat = p.2)
theorem foldl_take {α β : Type} (f : β → α → β) (b : β) {l : List α} (d : α) {i : Nat} (h : i < l.length) : (l.take (i + 1)).foldl f b = f ((l.take i).foldl f b) (l.getD i d) := by
  rw [take_getD' d h, List.foldl_append]; rfl
theorem pow_step {m p i k : Nat} (hm : m ≤ 2 ^ (k * i)) (hp : p < 2 ^ k) : m * p ≤ 2 ^ (k * (i + 1)) := by
  rw [Nat.mul_add, Nat.pow_add, Nat.mul_one]
  exact Nat.mul_le_mul hm (Nat.le_of_lt hp)
theorem prodN_le {l : List (Nat × Nat)} (h : Res64 l) : ∀ i, i ≤ l.length → prodN (l.take i) ≤ 2 ^ (64 * i)
  | 0, _ => Nat.le_refl _
  | i + 1, hi => by
    unfold prodN
    rw [foldl_take _ _ (0, 0) hi]
    exact pow_step (prodN_le h i (by omega)) (h.get i).1
/-- What a valid list is made of. -/
def Good (p : Nat × Nat) : Prop := primeB p.1 = true ∧ 2 ≤ p.1 ∧ p.1 < 2147483648 ∧ p.2 < p.1
theorem primeB_lt {n : Nat} (h : primeB n = true) : 2 ≤ n ∧ n < 2147483648 := by
  unfold primeB at h
  by_cases c : n < 2 ∨ 2147483648 ≤ n
  · rw [if_pos c] at h; cases h
  · omega
theorem validF_good : ∀ {l : List (Nat × Nat)} {s : List Nat}, validF s l = true → ∀ p ∈ l, Good p
  | [], _, _, p, hp => by cases hp
  | q :: r, s, h, p, hp => by
    rw [validF] at h
    split at h
    · cases h
    split at h
    · cases h
    split at h
    · cases h
    rename_i h1 h2 h3
    rcases List.mem_cons.1 hp with rfl | hp
    · have hb : primeB p.1 = true := by cases hx : primeB p.1 <;> simp_all
      obtain ⟨k1, k2⟩ := primeB_lt hb
      exact ⟨hb, k1, k2, by omega⟩
    · exact validF_good h p hp
theorem getD_mem' {l : List (Nat × Nat)} {i : Nat} (h : i < l.length) : l.getD i (0, 0) ∈ l := by
  rw [show l.getD i (0, 0) = l[i] by simp [List.getD, h]]; exact List.getElem_mem h
theorem crtT_lt {s p : Nat × Nat} (h : 2 ≤ p.1) : crtT s p < p.1 := Nat.mod_lt _ (by omega)
theorem crtF_inv {l : List (Nat × Nat)} (h : ∀ p ∈ l, Good p) : ∀ i, i ≤ l.length → (crtF (l.take i)).1 < (crtF (l.take i)).2 ∧ (crtF (l.take i)).2 ≤ 2 ^ (31 * i)
  | 0, _ => ⟨Nat.zero_lt_one, Nat.le_refl _⟩
  | i + 1, hi => by
    unfold crtF
    rw [foldl_take _ _ (0, 0) hi]
    obtain ⟨k1, k2⟩ := crtF_inv h i (by omega)
    obtain ⟨_, g1, g2, g3⟩ := h _ (getD_mem' hi)
    have ht := crtT_lt (s := crtF (l.take i)) g1
    unfold crtF at *
    generalize (l.take i).foldl crtStep (0, 1) = s at *
    generalize l.getD i (0, 0) = p at *
    unfold crtStep
    refine ⟨?_, pow_step k2 g2⟩
    show s.1 + s.2 * crtT s p < s.2 * p.1
    have := Nat.mul_le_mul_left s.2 (Nat.succ_le_of_lt ht)
    rw [Nat.mul_succ] at this
    omega
theorem small_pow {m n : Nat} (h : m ≤ 2 ^ n) (hn : n < 2048) : small (m : Int) := small_lt (by
  rw [Int.natAbs_natCast]
  exact Nat.lt_of_le_of_lt h (Nat.pow_lt_pow_right (a := 2) (m := n) (n := 2048) (by decide) hn))
theorem tup2_le {a b a' b' : VT} (h : VT.le a a') (h' : VT.le b b') : VT.le (tupT [a, b]) (tupT [a', b']) := fun v g ⟨vs, e, hp⟩ => ⟨vs, e, by
  match vs, hp with
  | [x, y], ⟨h1, h2, _⟩ => exact ⟨h _ _ h1, h' _ _ h2, trivial⟩⟩
theorem box_eqB {b : Nat} {T : TypeId} {m : Nat} {x y : Int} (h : x = y) : Own.le (boxO b T m [(0, .agg 2, bigT x)]) (boxO b T m [(0, .agg 2, bigT y)]) := h ▸ Own.le_refl _
theorem ressT_bound {l : List (Nat × Nat)} {v : Go.Value} {h : Hp} (H : (ressT l).p v h) : l.length ≤ 2 ^ 48 := slT_bound H
attribute [local irreducible] Tor.J Tor.PJ Tor.StepO Tor.one Tor.slT Tor.ptrT Tor.aggT Tor.tupT Tor.exT Tor.andT Tor.gT Tor.eP Tor.boxO Tor.sliO Tor.slV Tor.VT.le Tor.Ret Tor.anyT Tor.mapO Tor.metT
theorem at_ok (l : List (Nat × Nat)) (i : Nat) (hi : i < l.length) : Ok Try.prog 46 [ressT l, one (.int .i64 (i : Nat))] (resT (l.getD i (0, 0))) := by
  unfold ressT
  refine Ok.enter Try.func46 rfl Try.ntmps46 rfl (fun w O => ?_)
  refine J_seq ?_
  refine J_reg ?_
  refine a_allocS (T := 48) rfl rfl rfl (fun b4 => ?_)
  refine Run.nil ?_
  refine pj_then ?_
  refine J_seq ?_
  refine J_reg ?_
  refine st (s_move rfl) rfl ?_
  refine st (s_move rfl) rfl ?_
  refine st (s_indexIN rfl rfl (by omega)) rfl ?_
  refine st (s_load rfl) rfl ?_
  refine a_storeW 0 rfl rfl rfl rfl ?_
  refine Run.nil ?_
  refine pj_then ?_
  refine J_ret ?_
  refine retc1 Try.results46 (.cellW 0 rfl rfl (VT.le_refl _))
set_option maxHeartbeats 4000000 in
theorem Product_ok (l : List (Nat × Nat)) (h64 : Res64 l) (hl : l.length ≤ 16) : Ok Try.prog 18 [ressT l] (bigT (prodN l : Nat)) := by
  have hof := Of_ok 1 (by decide) (by decide)
  refine Ok.enter Try.func18 rfl Try.ntmps18 rfl (fun w O => ?_)
  refine J_seq ?_
  refine J_reg ?_
  refine a_alloc (T := 29) rfl (ltN rfl) (fun b2 => ?_)
  refine Run.nil ?_
  refine pj_then ?_
  refine J_seq ?_
  refine J_reg ?_
  refine st (s_callk (hof ) rfl ⟨VT.le_refl _, trivial⟩) rfl ?_
  refine a_alloc (T := 29) rfl (ltN rfl) (fun b3 => ?_)
  refine a_storeB 0 rfl rfl rfl rfl rfl (leN rfl) rfl ?_
  refine Run.nil ?_
  refine pj_then ?_
  refine J_seq ?_
  refine J_reg ?_
  refine st (s_move rfl) rfl ?_
  refine st (s_makeMeth rfl) rfl ?_
  refine st (s_assign rfl) rfl ?_
  refine Run.nil ?_
  refine pj_then ?_
  refine J_seq ?_
  refine J_seq ?_
  refine J_reg ?_
  refine st (s_move rfl) rfl ?_
  refine st (s_len rfl) rfl ?_
  refine st (s_move rfl) rfl ?_
  refine Run.nil ?_
  refine pj_then ?_
  refine J_block ?_
  refine J_sub (Γ' := [(2, _), (3, _), (4, _), (10, _), (11, _)]) (SubG.cons rfl (VT.le_refl _) (SubG.cons rfl (VT.le_refl _) (SubG.cons rfl (VT.le_refl _) (SubG.cons rfl (VT.le_refl _) (SubG.cons rfl (VT.le_refl _) (SubG.nil)))))) (SubM.refl _) ?_
  refine J_loopA (σ := Nat) (Γk := [(2, _), (3, _), (4, _), (10, _)]) (SubG.cons rfl (VT.le_refl _) (SubG.cons rfl (VT.le_refl _) (SubG.cons rfl (VT.le_refl _) (SubG.cons rfl (VT.le_refl _) (SubG.nil))))) (fun i => [(11, one (.int .i64 (i : Nat)))]) (fun i M0 => (M0.set 0 (boxO b3 29 (Lay.agg 2).sz [(0, Lay.agg 2, bigT (prodN (l.take i) : Nat))]))) (fun i => i ≤ l.length) (fun i => l.length - i) (0) (Nat.zero_le _) (by repeat (first | exact SubG.refl _ | exact SubG.nil | refine SubG.cons rfl (VT.le_refl _) ?_ | (refine SubG.cons rfl (one_le ?_) ?_; (congr 1; first | omega | (simp; omega) | simp)))) (.keep (Own.le_refl _) (.keep (Own.le_refl _) (.nil))) (fun i hi => ?_)
  refine J_norm (Γ' := [(11, _), (2, _), (3, _), (4, _), (10, _)]) (M' := [_, _]) rfl rfl ?_
  by_cases hc : i < l.length
  · obtain ⟨h1, h2⟩ := h64.get i
    have hat := at_ok l i hc
    have hwd := cWord_ok _ h1
    have s1 := small_pow (prodN_le h64 i hi) (by omega)
    have s2 : small ((l.getD i (0, 0)).1 : Int) := small_pow (n := 64) (by omega) (by decide)
    have hmu := MulI_ok _ _ s1 s2
    have e : ((prodN (l.take i) : Nat) : Int) * ((l.getD i (0, 0)).1 : Int) = ((prodN (l.take (i + 1)) : Nat) : Int) := by
      unfold prodN; rw [foldl_take _ _ (0, 0) hc, Int.natCast_mul]
    rw [e] at hmu
    unfold resT at hat
    refine J_seq ?_
    refine J_reg ?_
    refine st (sT (by omega) (s_lt rfl rfl)) rfl ?_
    refine Run.nil ?_
    refine pj_then ?_
    refine J_seq ?_
    refine J_cond1 rfl ?_
    refine J_skip ?_
    refine pj_then ?_
    refine J_seq ?_
    refine J_block ?_
    refine J_seq ?_
    refine J_reg ?_
    refine st (s_move rfl) rfl ?_
    refine st (s_assign rfl) rfl ?_
    refine Run.nil ?_
    refine pj_then ?_
    refine J_regd 7 mixed (by kernel_rfl) (by decide) ?_
    refine st (s_loadB 0 rfl rfl rfl) rfl ?_
    refine st (s_move rfl) rfl ?_
    refine st (s_move rfl) rfl ?_
    refine st (s_callMk rfl (hat ) rfl ⟨VT.le_refl _, VT.le_refl _, trivial⟩) rfl ?_
    refine st (s_field rfl rfl) rfl ?_
    refine st (s_callk (hwd ) rfl ⟨VT.le_refl _, trivial⟩) rfl ?_
    refine st (s_callk (hmu ) rfl ⟨VT.le_refl _, VT.le_refl _, trivial⟩) rfl ?_
    refine Run.nil ?_
    refine a_storeB 0 rfl rfl rfl rfl rfl (leN rfl) rfl ?_
    refine Run.nil ?_
    refine pn_block ?_
    refine pj_then ?_
    refine J_reg ?_
    refine st (s_addN _ 1 rfl rfl (by omega)) rfl ?_
    refine st (s_move rfl) rfl ?_
    refine Run.nil ?_
    refine pj_roundM (i + 1) (hc) (by omega) (by repeat (first | exact SubG.refl _ | exact SubG.nil | refine SubG.cons rfl (VT.le_refl _) ?_ | (refine SubG.cons rfl (one_le ?_) ?_; (congr 1; first | omega | (simp; omega) | simp)))) (.keep (Own.le_refl _) (.keep (Own.le_refl _) (.nil)))
  · have he : i = l.length := by omega
    rw [he, List.take_length]
    refine J_seq ?_
    refine J_reg ?_
    refine st (sF (by omega) (s_lt rfl rfl)) rfl ?_
    refine Run.nil ?_
    refine pj_then ?_
    refine J_seq ?_
    refine J_cond0 rfl ?_
    refine J_exit ?_
    refine px_then ?_
    refine px_then ?_
    refine px_block ?_
    refine pj_then ?_
    refine J_seq ?_
    refine J_reg ?_
    refine st (s_loadB 0 rfl rfl rfl) rfl ?_
    refine a_storeB 1 rfl rfl rfl rfl rfl (leN rfl) rfl ?_
    refine Run.nil ?_
    refine pj_then ?_
    refine J_ret ?_
    refine retc1 Try.results18 (.cellB 1 rfl rfl rfl (VT.le_refl _))
theorem consB_take {l : List (Nat × Nat)} {a : Int} {i : Nat} (h : i < l.length) : consB (l.take (i + 1)) a = (consB (l.take i) a && decide ((a % ((l.getD i (0, 0)).1 : Int)).toNat = (l.getD i (0, 0)).2)) := by
  unfold consB; rw [take_getD' (0, 0) h, List.all_append]; simp
theorem consB_false {l : List (Nat × Nat)} {a : Int} {i : Nat} (h : consB (l.take i) a = false) : consB l a = false := by
  rw [← List.take_append_drop i l]; unfold consB at *; rw [List.all_append, h]; rfl
set_option maxHeartbeats 4000000 in
theorem Consistent_ok (l : List (Nat × Nat)) (a : Int) (h64 : Res64 l) (ha : small a) : Ok Try.prog 20 [ressT l, bigT a] (one (.bool (validF [] l && consB l a))) := by
  have hva := cvalid_ok l h64
  refine Ok.enter Try.func20 rfl Try.ntmps20 rfl (fun w O => ?_)
  refine J_fact (t := 0) rfl (fun _ _ => ressT_bound) (fun hbound => ?_)
  cases hv : validF [] l
  · rw [hv] at hva
    refine J_seq ?_
    refine J_reg ?_
    refine a_boxS rfl rfl (ltN rfl) (fun b3 => ?_)
    refine st (s_assign rfl) rfl ?_
    refine Run.nil ?_
    refine pj_then ?_
    refine J_seq ?_
    refine J_seq ?_
    refine J_reg ?_
    refine st (s_move rfl) rfl ?_
    refine st (s_callk (hva ) rfl ⟨VT.le_refl _, trivial⟩) rfl ?_
    refine st (s_not rfl) rfl ?_
    refine Run.nil ?_
    refine pj_then ?_
    refine J_cond1 rfl ?_
    refine J_seq ?_
    refine J_reg ?_
    refine st (s_assign rfl) rfl ?_
    refine Run.nil ?_
    refine pj_then ?_
    refine J_ret ?_
    refine pr_then ?_
    refine retc1 Try.results20 (.tmp rfl (VT.le_refl _))
  · rw [hv] at hva
    have hg := validF_good hv
    rw [Bool.true_and]
    refine J_seq ?_
    refine J_reg ?_
    refine a_boxS rfl rfl (ltN rfl) (fun b3 => ?_)
    refine st (s_assign rfl) rfl ?_
    refine Run.nil ?_
    refine pj_then ?_
    refine J_seq ?_
    refine J_seq ?_
    refine J_reg ?_
    refine st (s_move rfl) rfl ?_
    refine st (s_callk (hva ) rfl ⟨VT.le_refl _, trivial⟩) rfl ?_
    refine st (s_not rfl) rfl ?_
    refine Run.nil ?_
    refine pj_then ?_
    refine J_cond0 rfl ?_
    refine J_skip ?_
    refine pj_then ?_
    refine J_seq ?_
    refine J_reg ?_
    refine st (s_move rfl) rfl ?_
    refine st (s_makeMeth rfl) rfl ?_
    refine st (s_assign rfl) rfl ?_
    refine Run.nil ?_
    refine pj_then ?_
    refine J_seq ?_
    refine J_seq ?_
    refine J_reg ?_
    refine st (s_move rfl) rfl ?_
    refine st (s_len rfl) rfl ?_
    refine st (s_move rfl) rfl ?_
    refine Run.nil ?_
    refine pj_then ?_
    refine J_block ?_
    refine J_sub (Γ' := [(3, _), (4, _), (5, _), (13, _), (14, _)]) (SubG.cons rfl (VT.le_refl _) (SubG.cons rfl (VT.le_refl _) (SubG.cons rfl (VT.le_refl _) (SubG.cons rfl (VT.le_refl _) (SubG.cons rfl (VT.le_refl _) (SubG.nil)))))) (SubM.refl _) ?_
    refine J_loopA (σ := Nat) (Γk := [(3, _), (5, _), (13, _)]) (SubG.cons rfl (VT.le_refl _) (SubG.cons rfl (VT.le_refl _) (SubG.cons rfl (VT.le_refl _) (SubG.nil)))) (fun i => [(14, one (.int .i64 (i : Nat)))]) (fun i M0 => M0) (fun i => i ≤ l.length ∧ consB (l.take i) a = true) (fun i => l.length - i) (0) (⟨Nat.zero_le _, rfl⟩) (by repeat (first | exact SubG.refl _ | exact SubG.nil | refine SubG.cons rfl (VT.le_refl _) ?_ | (refine SubG.cons rfl (one_le ?_) ?_; (congr 1; first | omega | (simp; omega) | simp)))) (.keep (Own.le_refl _) (.nil)) (fun i hi => ?_)
    refine J_norm (Γ' := [(14, _), (3, _), (5, _), (13, _)]) (M' := [_]) rfl rfl ?_
    obtain ⟨hi, hco⟩ := hi
    by_cases hc : i < l.length
    · obtain ⟨h1, h2⟩ := h64.get i
      obtain ⟨_, g1, g2, g3⟩ := hg _ (getD_mem' hc)
      have hat := at_ok l i hc
      have hre := mReduce_ok (l.getD i (0, 0)).1 a (by omega) (by omega) ha
      have hst := consB_take (a := a) hc
      rw [hco, Bool.true_and] at hst
      unfold resT at hat
      by_cases c : (a % ((l.getD i (0, 0)).1 : Int)).toNat = (l.getD i (0, 0)).2
      · rw [decide_eq_true c] at hst
        refine J_seq ?_
        refine J_reg ?_
        refine st (sT (by omega) (s_lt rfl rfl)) rfl ?_
        refine Run.nil ?_
        refine pj_then ?_
        refine J_seq ?_
        refine J_cond1 rfl ?_
        refine J_skip ?_
        refine pj_then ?_
        refine J_seq ?_
        refine J_block ?_
        refine J_seq ?_
        refine J_reg ?_
        refine st (s_move rfl) rfl ?_
        refine st (s_assign rfl) rfl ?_
        refine Run.nil ?_
        refine pj_then ?_
        refine J_seq ?_
        refine J_regd 11 mixed (by kernel_rfl) (by decide) ?_
        refine st (s_move rfl) rfl ?_
        refine st (s_move rfl) rfl ?_
        refine st (s_callMk rfl (hat ) rfl ⟨VT.le_refl _, VT.le_refl _, trivial⟩) rfl ?_
        refine st (s_field rfl rfl) rfl ?_
        refine st (s_loadW 0 rfl rfl) rfl ?_
        refine st (s_callk (hre ) rfl ⟨VT.le_refl _, VT.le_refl _, trivial⟩) rfl ?_
        refine st (s_move rfl) rfl ?_
        refine st (s_move rfl) rfl ?_
        refine st (s_callMk rfl (hat ) rfl ⟨VT.le_refl _, VT.le_refl _, trivial⟩) rfl ?_
        refine st (s_field rfl rfl) rfl ?_
        refine st (sF (by omega) (s_ne rfl rfl)) rfl ?_
        refine Run.nil ?_
        refine Run.nil ?_
        refine pj_then ?_
        refine J_cond0 rfl ?_
        refine J_skip ?_
        refine pn_block ?_
        refine pj_then ?_
        refine J_reg ?_
        refine st (s_addN _ 1 rfl rfl (by omega)) rfl ?_
        refine st (s_move rfl) rfl ?_
        refine Run.nil ?_
        refine pj_roundM (i + 1) (⟨hc, hst⟩) (by omega) (by repeat (first | exact SubG.refl _ | exact SubG.nil | refine SubG.cons rfl (VT.le_refl _) ?_ | (refine SubG.cons rfl (one_le ?_) ?_; (congr 1; first | omega | (simp; omega) | simp)))) (.keep (Own.le_refl _) (.nil))
      · rw [decide_eq_false c] at hst
        rw [consB_false hst]
        refine J_seq ?_
        refine J_reg ?_
        refine st (sT (by omega) (s_lt rfl rfl)) rfl ?_
        refine Run.nil ?_
        refine pj_then ?_
        refine J_seq ?_
        refine J_cond1 rfl ?_
        refine J_skip ?_
        refine pj_then ?_
        refine J_seq ?_
        refine J_block ?_
        refine J_seq ?_
        refine J_reg ?_
        refine st (s_move rfl) rfl ?_
        refine st (s_assign rfl) rfl ?_
        refine Run.nil ?_
        refine pj_then ?_
        refine J_seq ?_
        refine J_regd 11 mixed (by kernel_rfl) (by decide) ?_
        refine st (s_move rfl) rfl ?_
        refine st (s_move rfl) rfl ?_
        refine st (s_callMk rfl (hat ) rfl ⟨VT.le_refl _, VT.le_refl _, trivial⟩) rfl ?_
        refine st (s_field rfl rfl) rfl ?_
        refine st (s_loadW 0 rfl rfl) rfl ?_
        refine st (s_callk (hre ) rfl ⟨VT.le_refl _, VT.le_refl _, trivial⟩) rfl ?_
        refine st (s_move rfl) rfl ?_
        refine st (s_move rfl) rfl ?_
        refine st (s_callMk rfl (hat ) rfl ⟨VT.le_refl _, VT.le_refl _, trivial⟩) rfl ?_
        refine st (s_field rfl rfl) rfl ?_
        refine st (sT (by omega) (s_ne rfl rfl)) rfl ?_
        refine Run.nil ?_
        refine Run.nil ?_
        refine pj_then ?_
        refine J_cond1 rfl ?_
        refine J_seq ?_
        refine J_reg ?_
        refine st (s_assign rfl) rfl ?_
        refine Run.nil ?_
        refine pj_then ?_
        refine J_ret ?_
        refine pr_block ?_
        refine pr_then ?_
        refine pr_then ?_
        refine pr_block ?_
        refine pr_then ?_
        refine retc1 Try.results20 (.tmp rfl (VT.le_refl _))
    · have he : i = l.length := by omega
      rw [he, List.take_length] at hco
      rw [hco]
      refine J_seq ?_
      refine J_reg ?_
      refine st (sF (by omega) (s_lt rfl rfl)) rfl ?_
      refine Run.nil ?_
      refine pj_then ?_
      refine J_seq ?_
      refine J_cond0 rfl ?_
      refine J_exit ?_
      refine px_then ?_
      refine px_then ?_
      refine px_block ?_
      refine pj_then ?_
      refine J_seq ?_
      refine J_reg ?_
      refine st (s_assign rfl) rfl ?_
      refine Run.nil ?_
      refine pj_then ?_
      refine J_ret ?_
      refine retc1 Try.results20 (.tmp rfl (VT.le_refl _))
theorem mInv0_ok (p : Nat) : Ok Try.prog 47 [one (.int .u64 (p : Int)), one (.int .u64 0)] (tupT [one (.int .u64 0), one (.int .i64 30)]) := by
  refine Ok.enter Try.func47 rfl Try.ntmps47 rfl (fun w O => ?_)
  refine J_seq ?_
  refine J_reg ?_
  refine st (s_assign rfl) rfl ?_
  refine st (s_assign rfl) rfl ?_
  refine Run.nil ?_
  refine pj_then ?_
  refine J_seq ?_
  refine J_seq ?_
  refine J_reg ?_
  refine st (s_move rfl) rfl ?_
  refine st (sT (by omega) (s_eq rfl rfl)) rfl ?_
  refine Run.nil ?_
  refine pj_then ?_
  refine J_cond1 rfl ?_
  refine J_seq ?_
  refine J_reg ?_
  refine st (s_assign rfl) rfl ?_
  refine st (s_assign rfl) rfl ?_
  refine Run.nil ?_
  refine pj_then ?_
  refine J_ret ?_
  refine pr_then ?_
  refine retc2 Try.results47 (.tmp rfl (VT.le_refl _)) (.tmp rfl (VT.le_refl _))
set_option maxHeartbeats 4000000 in
theorem mInvN_ok (p a : Nat) (hp2 : 2 ≤ p) (hp : p < 4294967296) (ha : a < p) : Ok Try.prog 47 [one (.int .u64 p), one (.int .u64 a)] (tupT [one (.int .u64 (invN p a : Nat)), anyT]) := by
  unfold invN
  by_cases h : a = 0
  · rw [if_pos h, h]; exact (mInv0_ok p).le (leAll_refl _) (tup2_le (VT.le_refl _) (le_any _))
  · rw [if_neg h]; exact (mInv_ok p a hp2 hp h ha).le (leAll_refl _) (tup2_le (VT.le_refl _) (le_any _))
set_option maxHeartbeats 4000000 in
theorem Combine0_ok (l : List (Nat × Nat)) (h64 : Res64 l) (hv : validF [] l = false) : Ok Try.prog 14 [ressT l] (tupT [bigT 0, one (.int .i64 40)]) := by
  have hva := cvalid_ok l h64
  rw [hv] at hva
  refine Ok.enter Try.func14 rfl Try.ntmps14 rfl (fun w O => ?_)
  refine J_seq ?_
  refine J_reg ?_
  refine a_alloc (T := 29) rfl (ltN rfl) (fun b2 => ?_)
  refine st (s_assign rfl) rfl ?_
  refine Run.nil ?_
  refine pj_then ?_
  refine J_seq ?_
  refine J_seq ?_
  refine J_reg ?_
  refine st (s_move rfl) rfl ?_
  refine st (s_callk (hva ) rfl ⟨VT.le_refl _, trivial⟩) rfl ?_
  refine st (s_not rfl) rfl ?_
  refine Run.nil ?_
  refine pj_then ?_
  refine J_cond1 rfl ?_
  refine J_seq ?_
  refine J_reg ?_
  refine stB rfl rfl rfl ?_
  refine BuildK.nil ?_
  refine a_storeB 0 rfl rfl rfl rfl rfl (leN rfl) rfl ?_
  refine st (s_assign rfl) rfl ?_
  refine Run.nil ?_
  refine pj_then ?_
  refine J_ret ?_
  refine pr_then ?_
  refine retc2 Try.results14 (.cellB 0 rfl rfl rfl (bigT_zero)) (.tmp rfl (VT.le_refl _))
set_option maxHeartbeats 4000000 in
theorem Combine_ok (l : List (Nat × Nat)) (h64 : Res64 l) (hl : l.length ≤ 16) (hv : validF [] l = true) : Ok Try.prog 14 [ressT l] (tupT [bigT (combI l), one (.int .i64 0)]) := by
  have hva := cvalid_ok l h64
  rw [hv] at hva
  have hg := validF_good hv
  have h0 := Of_ok 0 (by decide) (by decide)
  have h1 := Of_ok 1 (by decide) (by decide)
  refine Ok.enter Try.func14 rfl Try.ntmps14 rfl (fun w O => ?_)
  refine J_seq ?_
  refine J_reg ?_
  refine a_alloc (T := 29) rfl (ltN rfl) (fun b2 => ?_)
  refine st (s_assign rfl) rfl ?_
  refine Run.nil ?_
  refine pj_then ?_
  refine J_seq ?_
  refine J_seq ?_
  refine J_reg ?_
  refine st (s_move rfl) rfl ?_
  refine st (s_callk (hva ) rfl ⟨VT.le_refl _, trivial⟩) rfl ?_
  refine st (s_not rfl) rfl ?_
  refine Run.nil ?_
  refine pj_then ?_
  refine J_cond0 rfl ?_
  refine J_skip ?_
  refine pj_then ?_
  refine J_seq ?_
  refine J_reg ?_
  refine st (s_callk (h0 ) rfl ⟨VT.le_refl _, trivial⟩) rfl ?_
  refine st (s_callk (h1 ) rfl ⟨VT.le_refl _, trivial⟩) rfl ?_
  refine a_alloc (T := 29) rfl (ltN rfl) (fun b4 => ?_)
  refine a_alloc (T := 29) rfl (ltN rfl) (fun b5 => ?_)
  refine a_storeB 1 rfl rfl rfl rfl rfl (leN rfl) rfl ?_
  refine a_storeB 0 rfl rfl rfl rfl rfl (leN rfl) rfl ?_
  refine Run.nil ?_
  refine pj_then ?_
  refine J_seq ?_
  refine J_reg ?_
  refine st (s_move rfl) rfl ?_
  refine st (s_makeMeth rfl) rfl ?_
  refine st (s_assign rfl) rfl ?_
  refine Run.nil ?_
  refine pj_then ?_
  refine J_seq ?_
  refine J_seq ?_
  refine J_reg ?_
  refine st (s_move rfl) rfl ?_
  refine st (s_len rfl) rfl ?_
  refine st (s_move rfl) rfl ?_
  refine Run.nil ?_
  refine pj_then ?_
  refine J_block ?_
  refine J_sub (Γ' := [(2, _), (3, _), (4, _), (5, _), (6, _), (22, _), (23, _)]) (SubG.cons rfl (VT.le_refl _) (SubG.cons rfl (VT.le_refl _) (SubG.cons rfl (VT.le_refl _) (SubG.cons rfl (VT.le_refl _) (SubG.cons rfl (VT.le_refl _) (SubG.cons rfl (VT.le_refl _) (SubG.cons rfl (VT.le_refl _) (SubG.nil)))))))) (SubM.refl _) ?_
  refine J_loopA (σ := Nat) (Γk := [(2, _), (3, _), (4, _), (5, _), (6, _), (22, _)]) (SubG.cons rfl (VT.le_refl _) (SubG.cons rfl (VT.le_refl _) (SubG.cons rfl (VT.le_refl _) (SubG.cons rfl (VT.le_refl _) (SubG.cons rfl (VT.le_refl _) (SubG.cons rfl (VT.le_refl _) (SubG.nil))))))) (fun i => [(23, one (.int .i64 (i : Nat)))]) (fun i M0 => ((M0.set 0 (boxO b5 29 (Lay.agg 2).sz [(0, Lay.agg 2, bigT ((crtF (l.take i)).2 : Nat))])).set 1 (boxO b4 29 (Lay.agg 2).sz [(0, Lay.agg 2, bigT ((crtF (l.take i)).1 : Nat))]))) (fun i => i ≤ l.length) (fun i => l.length - i) (0) (Nat.zero_le _) (by repeat (first | exact SubG.refl _ | exact SubG.nil | refine SubG.cons rfl (VT.le_refl _) ?_ | (refine SubG.cons rfl (one_le ?_) ?_; (congr 1; first | omega | (simp; omega) | simp)))) (.keep (Own.le_refl _) (.keep (Own.le_refl _) (.keep (Own.le_refl _) (.nil)))) (fun i hi => ?_)
  refine J_norm (Γ' := [(23, _), (2, _), (3, _), (4, _), (5, _), (6, _), (22, _)]) (M' := [_, _, _]) rfl rfl ?_
  obtain ⟨k1, k2⟩ := crtF_inv hg i hi
  have sm2 := small_pow k2 (by omega)
  have sm1 := small_pow (m := (crtF (l.take i)).1) (Nat.le_trans (Nat.le_of_lt k1) k2) (by omega)
  by_cases hc : i < l.length
  · obtain ⟨_, g1, g2, g3⟩ := hg _ (getD_mem' hc)
    obtain ⟨k3, k4⟩ := crtF_inv hg (i + 1) hc
    have hat := at_ok l i hc
    have hstep : crtF (l.take (i + 1)) = crtStep (crtF (l.take i)) (l.getD i (0, 0)) := by unfold crtF; rw [foldl_take _ _ (0, 0) hc]
    have ht := crtT_lt (s := crtF (l.take i)) g1
    have hmT : crtT (crtF (l.take i)) (l.getD i (0, 0)) = (((l.getD i (0, 0)).2 + (l.getD i (0, 0)).1 - (crtF (l.take i)).1 % (l.getD i (0, 0)).1) % (l.getD i (0, 0)).1) * invN (l.getD i (0, 0)).1 ((crtF (l.take i)).2 % (l.getD i (0, 0)).1) % (l.getD i (0, 0)).1 := rfl
    unfold resT at hat
    rw [hstep] at k3 k4
    unfold crtStep at k3 k4 hstep
    dsimp only at k3 k4
    generalize (l.getD i (0, 0)).1 = p at *
    generalize (l.getD i (0, 0)).2 = v at *
    have hr2 := mReduce_ok p ((crtF (l.take i)).2 : Int) (by omega) (by omega) sm2
    have hr1 := mReduce_ok p ((crtF (l.take i)).1 : Int) (by omega) (by omega) sm1
    rw [← Int.natCast_emod, Int.toNat_natCast] at hr1 hr2
    have l1 := Nat.mod_lt (crtF (l.take i)).1 (show 0 < p by omega)
    have l2 := Nat.mod_lt (crtF (l.take i)).2 (show 0 < p by omega)
    have hin := mInvN_ok p _ g1 (by omega) l2
    have hsb := mSub_ok p v _ (by omega) (by omega) (by omega) (show (crtF (l.take i)).1 % p ≤ v + p by omega)
    have l3 := Nat.mod_lt (v + p - (crtF (l.take i)).1 % p) (show 0 < p by omega)
    have l4 : invN p ((crtF (l.take i)).2 % p) < p := by unfold invN; split; omega; exact Nat.mod_lt _ (by omega)
    have hmu := mMul_ok p _ _ (by omega) (by omega) (show (v + p - (crtF (l.take i)).1 % p) % p < 4294967296 by omega) (show invN p ((crtF (l.take i)).2 % p) < 4294967296 by omega)
    rw [← hmT] at hmu
    generalize crtT (crtF (l.take i)) (l.getD i (0, 0)) = t at *
    have hwt := cWord_ok t (by omega)
    have hwp := cWord_ok p (by omega)
    have smt := small_pow (m := t) (n := 64) (by omega) (by decide)
    have smp := small_pow (m := p) (n := 64) (by omega) (by decide)
    have hM1 := MulI_ok _ _ sm2 smt
    have hM2 := MulI_ok _ _ sm2 smp
    rw [← Int.natCast_mul] at hM1 hM2
    have k5 : (crtF (l.take i)).2 * t ≤ 2 ^ (31 * (i + 1)) := by omega
    have hA := AddI_ok _ _ sm1 (small_pow k5 (by omega))
    rw [← Int.natCast_add] at hA
    refine J_seq ?_
    refine J_reg ?_
    refine st (sT (by omega) (s_lt rfl rfl)) rfl ?_
    refine Run.nil ?_
    refine pj_then ?_
    refine J_seq ?_
    refine J_cond1 rfl ?_
    refine J_skip ?_
    refine pj_then ?_
    refine J_seq ?_
    refine J_block ?_
    refine J_seq ?_
    refine J_reg ?_
    refine st (s_move rfl) rfl ?_
    refine st (s_assign rfl) rfl ?_
    refine Run.nil ?_
    refine pj_then ?_
    refine J_seq ?_
    refine J_reg ?_
    refine st (s_move rfl) rfl ?_
    refine st (s_move rfl) rfl ?_
    refine st (s_callMk rfl (hat ) rfl ⟨VT.le_refl _, VT.le_refl _, trivial⟩) rfl ?_
    refine st (s_field rfl rfl) rfl ?_
    refine st (s_move rfl) rfl ?_
    refine st (s_move rfl) rfl ?_
    refine st (s_callMk rfl (hat ) rfl ⟨VT.le_refl _, VT.le_refl _, trivial⟩) rfl ?_
    refine st (s_field rfl rfl) rfl ?_
    refine st (s_assign rfl) rfl ?_
    refine st (s_assign rfl) rfl ?_
    refine Run.nil ?_
    refine pj_then ?_
    refine J_seq ?_
    refine J_reg ?_
    refine st (s_move rfl) rfl ?_
    refine st (s_move rfl) rfl ?_
    refine st (s_loadB 0 rfl rfl rfl) rfl ?_
    refine st (s_callk (hr2 ) rfl ⟨VT.le_refl _, VT.le_refl _, trivial⟩) rfl ?_
    refine st (s_callk (hin ) rfl ⟨VT.le_refl _, VT.le_refl _, trivial⟩) rfl ?_
    refine st (s_move rfl) rfl ?_
    refine st (s_extract rfl rfl) rfl ?_
    refine st (s_extract rfl rfl) rfl ?_
    refine st (s_assign rfl) rfl ?_
    refine st (s_assign rfl) rfl ?_
    refine Run.nil ?_
    refine pj_then ?_
    refine J_seq ?_
    refine J_reg ?_
    refine st (s_move rfl) rfl ?_
    refine st (s_move rfl) rfl ?_
    refine st (s_move rfl) rfl ?_
    refine st (s_move rfl) rfl ?_
    refine st (s_loadB 1 rfl rfl rfl) rfl ?_
    refine st (s_callk (hr1 ) rfl ⟨VT.le_refl _, VT.le_refl _, trivial⟩) rfl ?_
    refine st (s_callk (hsb ) rfl ⟨VT.le_refl _, VT.le_refl _, VT.le_refl _, trivial⟩) rfl ?_
    refine st (s_move rfl) rfl ?_
    refine st (s_callk (hmu ) rfl ⟨VT.le_refl _, VT.le_refl _, VT.le_refl _, trivial⟩) rfl ?_
    refine st (s_assign rfl) rfl ?_
    refine Run.nil ?_
    refine pj_then ?_
    refine J_seq ?_
    refine J_regd 6 mixed (by kernel_rfl) (by decide) ?_
    refine st (s_loadB 1 rfl rfl rfl) rfl ?_
    refine st (s_loadB 0 rfl rfl rfl) rfl ?_
    refine st (s_move rfl) rfl ?_
    refine st (s_callk (hwt ) rfl ⟨VT.le_refl _, trivial⟩) rfl ?_
    refine st (s_callk (hM1 ) rfl ⟨VT.le_refl _, VT.le_refl _, trivial⟩) rfl ?_
    refine st (s_callk (hA ) rfl ⟨VT.le_refl _, VT.le_refl _, trivial⟩) rfl ?_
    refine Run.nil ?_
    refine a_storeB 1 rfl rfl rfl rfl rfl (leN rfl) rfl ?_
    refine Run.nil ?_
    refine pj_then ?_
    refine J_regd 4 mixed (by kernel_rfl) (by decide) ?_
    refine st (s_loadB 0 rfl rfl rfl) rfl ?_
    refine st (s_move rfl) rfl ?_
    refine st (s_callk (hwp ) rfl ⟨VT.le_refl _, trivial⟩) rfl ?_
    refine st (s_callk (hM2 ) rfl ⟨VT.le_refl _, VT.le_refl _, trivial⟩) rfl ?_
    refine Run.nil ?_
    refine a_storeB 0 rfl rfl rfl rfl rfl (leN rfl) rfl ?_
    refine Run.nil ?_
    refine pn_block ?_
    refine pj_then ?_
    refine J_reg ?_
    refine st (s_addN _ 1 rfl rfl (by omega)) rfl ?_
    refine st (s_move rfl) rfl ?_
    refine Run.nil ?_
    refine pj_roundM (i + 1) (hc) (by omega) (by repeat (first | exact SubG.refl _ | exact SubG.nil | refine SubG.cons rfl (VT.le_refl _) ?_ | (refine SubG.cons rfl (one_le ?_) ?_; (congr 1; first | omega | (simp; omega) | simp)))) (.keep (box_eqB (by rw [hstep])) (.keep (box_eqB (by rw [hstep])) (.keep (Own.le_refl _) (.nil))))
  · have he : i = l.length := by omega
    have e0 : l.take i = l := by rw [he, List.take_length]
    rw [e0] at sm1 sm2 ⊢
    rw [he]
    unfold combI
    have hcm := CmpI_ok (((crtF l).1 + (crtF l).1 : Nat) : Int) ((crtF l).2 : Int)
    have hA := AddI_ok _ _ sm1 sm1
    rw [← Int.natCast_add] at hA
    have hS := SubI_ok _ _ sm1 sm2
    by_cases c : (crtF l).2 < (crtF l).1 + (crtF l).1
    · have hcc : 0 < cmpI (((crtF l).1 + (crtF l).1 : Nat) : Int) ((crtF l).2 : Int) := by unfold cmpI; rw [if_neg (by omega), if_pos (by omega)]; decide
      rw [if_pos c]
      refine J_seq ?_
      refine J_reg ?_
      refine st (sF (by omega) (s_lt rfl rfl)) rfl ?_
      refine Run.nil ?_
      refine pj_then ?_
      refine J_seq ?_
      refine J_cond0 rfl ?_
      refine J_exit ?_
      refine px_then ?_
      refine px_then ?_
      refine px_block ?_
      refine pj_then ?_
      refine J_seq ?_
      refine J_seq ?_
      refine J_regd 6 mixed (by kernel_rfl) (by decide) ?_
      refine st (s_loadB 1 rfl rfl rfl) rfl ?_
      refine st (s_loadB 1 rfl rfl rfl) rfl ?_
      refine st (s_callk (hA ) rfl ⟨VT.le_refl _, VT.le_refl _, trivial⟩) rfl ?_
      refine st (s_loadB 0 rfl rfl rfl) rfl ?_
      refine st (s_callk (hcm ) rfl ⟨VT.le_refl _, VT.le_refl _, trivial⟩) rfl ?_
      refine st (sT (by assumption) (s_gt rfl rfl)) rfl ?_
      refine Run.nil ?_
      refine Run.nil ?_
      refine pj_then ?_
      refine J_cond1 rfl ?_
      refine J_reg ?_
      refine st (s_loadB 1 rfl rfl rfl) rfl ?_
      refine st (s_loadB 0 rfl rfl rfl) rfl ?_
      refine st (s_callk (hS ) rfl ⟨VT.le_refl _, VT.le_refl _, trivial⟩) rfl ?_
      refine a_storeB 1 rfl rfl rfl rfl rfl (leN rfl) rfl ?_
      refine Run.nil ?_
      refine pj_then ?_
      refine J_seq ?_
      refine J_reg ?_
      refine st (s_loadB 1 rfl rfl rfl) rfl ?_
      refine a_storeB 2 rfl rfl rfl rfl rfl (leN rfl) rfl ?_
      refine st (s_assign rfl) rfl ?_
      refine Run.nil ?_
      refine pj_then ?_
      refine J_ret ?_
      refine retc2 Try.results14 (.cellB 2 rfl rfl rfl (VT.le_refl _)) (.tmp rfl (VT.le_refl _))
    · have hcc : ¬ 0 < cmpI (((crtF l).1 + (crtF l).1 : Nat) : Int) ((crtF l).2 : Int) := by unfold cmpI; split <;> (try split) <;> omega
      rw [if_neg c]
      refine J_seq ?_
      refine J_reg ?_
      refine st (sF (by omega) (s_lt rfl rfl)) rfl ?_
      refine Run.nil ?_
      refine pj_then ?_
      refine J_seq ?_
      refine J_cond0 rfl ?_
      refine J_exit ?_
      refine px_then ?_
      refine px_then ?_
      refine px_block ?_
      refine pj_then ?_
      refine J_seq ?_
      refine J_seq ?_
      refine J_regd 6 mixed (by kernel_rfl) (by decide) ?_
      refine st (s_loadB 1 rfl rfl rfl) rfl ?_
      refine st (s_loadB 1 rfl rfl rfl) rfl ?_
      refine st (s_callk (hA ) rfl ⟨VT.le_refl _, VT.le_refl _, trivial⟩) rfl ?_
      refine st (s_loadB 0 rfl rfl rfl) rfl ?_
      refine st (s_callk (hcm ) rfl ⟨VT.le_refl _, VT.le_refl _, trivial⟩) rfl ?_
      refine st (sF (by assumption) (s_gt rfl rfl)) rfl ?_
      refine Run.nil ?_
      refine Run.nil ?_
      refine pj_then ?_
      refine J_cond0 rfl ?_
      refine J_skip ?_
      refine pj_then ?_
      refine J_seq ?_
      refine J_reg ?_
      refine st (s_loadB 1 rfl rfl rfl) rfl ?_
      refine a_storeB 2 rfl rfl rfl rfl rfl (leN rfl) rfl ?_
      refine st (s_assign rfl) rfl ?_
      refine Run.nil ?_
      refine pj_then ?_
      refine J_ret ?_
      refine retc2 Try.results14 (.cellB 2 rfl rfl rfl (VT.le_refl _)) (.tmp rfl (VT.le_refl _))
end Tor
end

section
set_option linter.unusedVariables false
set_option linter.unusedSimpArgs false
namespace Tor
open Go Go.RowKit Go.Proofs
theorem small0_pow {m n : Nat} (h : m ≤ 2 ^ n) (hn : n < 2048) : small0 (m : Int) := small0_lt (by
  rw [Int.natAbs_natCast]
  exact Nat.lt_of_le_of_lt h (Nat.pow_lt_pow_right (a := 2) (m := n) (n := 2048) (by decide) hn))
/-- The residues of a number. -/
def ofL (l : List (Nat × Nat)) (a : Int) : List (Nat × Nat) := l.map fun p => (p.1, (a % (p.1 : Int)).toNat)
theorem ofL_succ {l : List (Nat × Nat)} {a : Int} {i : Nat} (h : i < l.length) : ofL (l.take (i + 1)) a = ofL (l.take i) a ++ [((l.getD i (0, 0)).1, (a % ((l.getD i (0, 0)).1 : Int)).toNat)] := by
  unfold ofL; rw [take_getD' (0, 0) h, List.map_append]; rfl
theorem ofL_len (l : List (Nat × Nat)) (a : Int) : (ofL l a).length = l.length := by unfold ofL; simp
theorem of_snoc {sv : Option Nat} {T : TypeId} {cap i : Nat} {m n : List (Nat × Nat)} {x : Nat × Nat} {φ : VT} (hn : n = m ++ [x]) (hl : m.length = i) (h : φ = resT x) : Own.le (sliO sv T (.agg 2) cap (i + 1) (fun q => if q < i then resT (m.getD q (0, 0)) else φ)) (sliO sv T (.agg 2) cap (i + 1) (fun q => resT (n.getD q (0, 0)))) := sliO_eq (fun q hq => by
  subst h hn hl
  by_cases c : q < m.length
  · rw [if_pos c]; simp [List.getD, List.getElem?_append, c]
  · rw [if_neg c]
    have : q = m.length := by omega
    subst this
    simp [List.getD])
attribute [local irreducible] Tor.J Tor.PJ Tor.StepO Tor.one Tor.slT Tor.ptrT Tor.aggT Tor.tupT Tor.exT Tor.andT Tor.gT Tor.eP Tor.boxO Tor.sliO Tor.slV Tor.VT.le Tor.Ret Tor.anyT Tor.mapO Tor.metT
set_option maxHeartbeats 4000000 in
theorem rProd_ok (l : List (Nat × Nat)) (h64 : Res64 l) (hl : l.length ≤ 16) : Ok Try.prog 19 [ressT l] (bigT (prodN l : Nat)) := by
  refine Ok.enter Try.func19 rfl Try.ntmps19 rfl (fun w O => ?_)
  unfold ressT resT
  refine J_seq ?_
  refine J_reg ?_
  refine a_alloc (T := 29) rfl (ltN rfl) (fun b2 => ?_)
  refine Run.nil ?_
  refine pj_then ?_
  refine J_seq ?_
  refine J_reg ?_
  refine st (s_callk (rOf_ok _ (by omega) (by omega)) rfl ⟨VT.le_refl _, trivial⟩) rfl ?_
  refine a_alloc (T := 29) rfl (ltN rfl) (fun b3 => ?_)
  refine a_storeB 0 rfl rfl rfl rfl rfl (leN rfl) rfl ?_
  refine Run.nil ?_
  refine pj_then ?_
  refine J_seq ?_
  refine J_seq ?_
  refine J_reg ?_
  refine st (s_assign rfl) rfl ?_
  refine Run.nil ?_
  refine pj_then ?_
  refine J_block ?_
  refine J_sub (Γ' := [(0, _), (2, _), (3, _), (4, _)]) (SubG.cons rfl (VT.le_refl _) (SubG.cons rfl (VT.le_refl _) (SubG.cons rfl (VT.le_refl _) (SubG.cons rfl (VT.le_refl _) (SubG.nil))))) (SubM.refl _) ?_
  refine J_loopA (σ := Nat) (Γk := [(0, _), (2, _), (3, _)]) (SubG.cons rfl (VT.le_refl _) (SubG.cons rfl (VT.le_refl _) (SubG.cons rfl (VT.le_refl _) (SubG.nil)))) (fun i => [(4, one (.int .i64 (i : Nat)))]) (fun i M0 => (M0.set 0 (boxO b3 29 (Lay.agg 2).sz [(0, Lay.agg 2, bigT (prodN (l.take i) : Nat))]))) (fun i => i ≤ l.length) (fun i => l.length - i) (0) (Nat.zero_le _) (by repeat (first | exact SubG.refl _ | exact SubG.nil | refine SubG.cons rfl (VT.le_refl _) ?_ | (refine SubG.cons rfl (one_le ?_) ?_; (congr 1; first | omega | (simp; omega) | simp)))) (.keep (Own.le_refl _) (.keep (Own.le_refl _) (.nil))) (fun i hi => ?_)
  refine J_norm (Γ' := [(4, _), (0, _), (2, _), (3, _)]) (M' := [_, _]) rfl rfl ?_
  by_cases hc : i < l.length
  · obtain ⟨h1, h2⟩ := h64.get i
    have hwd := whole_ok _ h1
    have s1 := small_pow (prodN_le h64 i hi) (by omega)
    have s2 : small ((l.getD i (0, 0)).1 : Int) := small_pow (n := 64) (by omega) (by decide)
    have hmu := rMulI_ok _ _ s1 s2
    have e : ((prodN (l.take i) : Nat) : Int) * ((l.getD i (0, 0)).1 : Int) = ((prodN (l.take (i + 1)) : Nat) : Int) := by
      unfold prodN; rw [foldl_take _ _ (0, 0) hc, Int.natCast_mul]
    rw [e] at hmu
    refine J_seq ?_
    refine J_seq ?_
    refine J_reg ?_
    refine st (s_move rfl) rfl ?_
    refine st (s_move rfl) rfl ?_
    refine st (s_len rfl) rfl ?_
    refine st (sT (by omega) (s_lt rfl rfl)) rfl ?_
    refine Run.nil ?_
    refine pj_then ?_
    refine J_cond1 rfl ?_
    refine J_skip ?_
    refine pj_then ?_
    refine J_seq ?_
    refine J_block ?_
    refine J_regd 8 mixed (by kernel_rfl) (by decide) ?_
    refine st (s_loadB 0 rfl rfl rfl) rfl ?_
    refine st (s_move rfl) rfl ?_
    refine st (s_move rfl) rfl ?_
    refine st (s_indexIN rfl rfl (by omega)) rfl ?_
    refine st (s_fieldI rfl rfl) rfl ?_
    refine st (s_load rfl) rfl ?_
    refine st (s_callk (hwd ) rfl ⟨VT.le_refl _, trivial⟩) rfl ?_
    refine st (s_callk (hmu ) rfl ⟨VT.le_refl _, VT.le_refl _, trivial⟩) rfl ?_
    refine Run.nil ?_
    refine a_storeB 0 rfl rfl rfl rfl rfl (leN rfl) rfl ?_
    refine Run.nil ?_
    refine pn_block ?_
    refine pj_then ?_
    refine J_reg ?_
    refine st (s_move rfl) rfl ?_
    refine st (s_addN _ 1 rfl rfl (by omega)) rfl ?_
    refine st (s_assign rfl) rfl ?_
    refine Run.nil ?_
    refine pj_roundM (i + 1) (hc) (by omega) (by repeat (first | exact SubG.refl _ | exact SubG.nil | refine SubG.cons rfl (VT.le_refl _) ?_ | (refine SubG.cons rfl (one_le ?_) ?_; (congr 1; first | omega | (simp; omega) | simp)))) (.keep (Own.le_refl _) (.keep (Own.le_refl _) (.nil)))
  · have he : i = l.length := by omega
    rw [he, List.take_length]
    refine J_seq ?_
    refine J_seq ?_
    refine J_reg ?_
    refine st (s_move rfl) rfl ?_
    refine st (s_move rfl) rfl ?_
    refine st (s_len rfl) rfl ?_
    refine st (sF (by omega) (s_lt rfl rfl)) rfl ?_
    refine Run.nil ?_
    refine pj_then ?_
    refine J_cond0 rfl ?_
    refine J_exit ?_
    refine px_then ?_
    refine px_then ?_
    refine px_block ?_
    refine pj_then ?_
    refine J_seq ?_
    refine J_reg ?_
    refine st (s_loadB 0 rfl rfl rfl) rfl ?_
    refine a_storeB 1 rfl rfl rfl rfl rfl (leN rfl) rfl ?_
    refine Run.nil ?_
    refine pj_then ?_
    refine J_ret ?_
    refine retc1 Try.results19 (.cellB 1 rfl rfl rfl (VT.le_refl _))
set_option maxHeartbeats 4000000 in
theorem rCons_ok (l : List (Nat × Nat)) (a : Int) (hg : ∀ p ∈ l, GoodR p) (hnd : (l.map (·.1)).Nodup) (ha : small0 a) : Ok Try.prog 21 [ressT l, bigT a] (one (.bool (consB l a))) := by
  have hva := rqV_ok l hg
  rw [decide_eq_true hnd] at hva
  refine Ok.enter Try.func21 rfl Try.ntmps21 rfl (fun w O => ?_)
  refine J_fact (t := 0) rfl (fun _ _ => ressT_bound) (fun hbound => ?_)
  unfold ressT resT at *
  refine J_seq ?_
  refine J_reg ?_
  refine a_boxS rfl rfl (ltN rfl) (fun b3 => ?_)
  refine st (s_assign rfl) rfl ?_
  refine Run.nil ?_
  refine pj_then ?_
  refine J_seq ?_
  refine J_seq ?_
  refine J_reg ?_
  refine st (s_move rfl) rfl ?_
  refine st (s_callk (hva ) rfl ⟨VT.le_refl _, trivial⟩) rfl ?_
  refine st (s_not rfl) rfl ?_
  refine Run.nil ?_
  refine pj_then ?_
  refine J_cond0 rfl ?_
  refine J_skip ?_
  refine pj_then ?_
  refine J_seq ?_
  refine J_seq ?_
  refine J_reg ?_
  refine st (s_assign rfl) rfl ?_
  refine Run.nil ?_
  refine pj_then ?_
  refine J_block ?_
  refine J_sub (Γ' := [(0, _), (3, _), (4, _), (5, _)]) (SubG.cons rfl (VT.le_refl _) (SubG.cons rfl (VT.le_refl _) (SubG.cons rfl (VT.le_refl _) (SubG.cons rfl (VT.le_refl _) (SubG.nil))))) (SubM.refl _) ?_
  refine J_loopA (σ := Nat) (Γk := [(0, _), (3, _)]) (SubG.cons rfl (VT.le_refl _) (SubG.cons rfl (VT.le_refl _) (SubG.nil))) (fun i => [(5, one (.int .i64 (i : Nat)))]) (fun i M0 => M0) (fun i => i ≤ l.length ∧ consB (l.take i) a = true) (fun i => l.length - i) (0) (⟨Nat.zero_le _, rfl⟩) (by repeat (first | exact SubG.refl _ | exact SubG.nil | refine SubG.cons rfl (VT.le_refl _) ?_ | (refine SubG.cons rfl (one_le ?_) ?_; (congr 1; first | omega | (simp; omega) | simp)))) (.keep (Own.le_refl _) (.nil)) (fun i hi => ?_)
  refine J_norm (Γ' := [(5, _), (0, _), (3, _)]) (M' := [_]) rfl rfl ?_
  obtain ⟨hi, hco⟩ := hi
  by_cases hc : i < l.length
  · obtain ⟨g1, g2, g3, g4⟩ := hg _ (getD_memR hc)
    have hw1 := whole_ok (l.getD i (0, 0)).1 (by omega)
    have hw2 := whole_ok (l.getD i (0, 0)).2 (by omega)
    have sp : small0 ((l.getD i (0, 0)).1 : Int) := small0_pow (n := 64) (by omega) (by decide)
    have hre := rest_ok a ((l.getD i (0, 0)).1 : Int) (by omega) ha sp
    have hsa := rSame_ok (a % ((l.getD i (0, 0)).1 : Int)) ((l.getD i (0, 0)).2 : Int)
    have hst := consB_take (a := a) hc
    rw [hco, Bool.true_and] at hst
    have hn := Int.emod_nonneg a (show ((l.getD i (0, 0)).1 : Int) ≠ 0 by omega)
    by_cases c : a % ((l.getD i (0, 0)).1 : Int) = ((l.getD i (0, 0)).2 : Int)
    · rw [decide_eq_true (by omega)] at hst
      rw [decide_eq_true c] at hsa
      refine J_seq ?_
      refine J_seq ?_
      refine J_reg ?_
      refine st (s_move rfl) rfl ?_
      refine st (s_move rfl) rfl ?_
      refine st (s_len rfl) rfl ?_
      refine st (sT (by omega) (s_lt rfl rfl)) rfl ?_
      refine Run.nil ?_
      refine pj_then ?_
      refine J_cond1 rfl ?_
      refine J_skip ?_
      refine pj_then ?_
      refine J_seq ?_
      refine J_block ?_
      refine J_seq ?_
      refine J_regd 16 mixed (by kernel_rfl) (by decide) ?_
      refine st (s_loadW 0 rfl rfl) rfl ?_
      refine st (s_move rfl) rfl ?_
      refine st (s_move rfl) rfl ?_
      refine st (s_indexIN rfl rfl (by omega)) rfl ?_
      refine st (s_fieldI rfl rfl) rfl ?_
      refine st (s_load rfl) rfl ?_
      refine st (s_callk (hw1 ) rfl ⟨VT.le_refl _, trivial⟩) rfl ?_
      refine st (s_callk (hre ) rfl ⟨VT.le_refl _, VT.le_refl _, trivial⟩) rfl ?_
      refine st (s_move rfl) rfl ?_
      refine st (s_move rfl) rfl ?_
      refine st (s_indexIN rfl rfl (by omega)) rfl ?_
      refine st (s_fieldI rfl rfl) rfl ?_
      refine st (s_load rfl) rfl ?_
      refine st (s_callk (hw2 ) rfl ⟨VT.le_refl _, trivial⟩) rfl ?_
      refine st (s_callk (hsa ) rfl ⟨VT.le_refl _, VT.le_refl _, trivial⟩) rfl ?_
      refine st (s_not rfl) rfl ?_
      refine Run.nil ?_
      refine Run.nil ?_
      refine pj_then ?_
      refine J_cond0 rfl ?_
      refine J_skip ?_
      refine pn_block ?_
      refine pj_then ?_
      refine J_reg ?_
      refine st (s_move rfl) rfl ?_
      refine st (s_addN _ 1 rfl rfl (by omega)) rfl ?_
      refine st (s_assign rfl) rfl ?_
      refine Run.nil ?_
      refine pj_roundM (i + 1) (⟨hc, hst⟩) (by omega) (by repeat (first | exact SubG.refl _ | exact SubG.nil | refine SubG.cons rfl (VT.le_refl _) ?_ | (refine SubG.cons rfl (one_le ?_) ?_; (congr 1; first | omega | (simp; omega) | simp)))) (.keep (Own.le_refl _) (.nil))
    · rw [decide_eq_false (by omega)] at hst
      rw [decide_eq_false c] at hsa
      rw [consB_false hst]
      refine J_seq ?_
      refine J_seq ?_
      refine J_reg ?_
      refine st (s_move rfl) rfl ?_
      refine st (s_move rfl) rfl ?_
      refine st (s_len rfl) rfl ?_
      refine st (sT (by omega) (s_lt rfl rfl)) rfl ?_
      refine Run.nil ?_
      refine pj_then ?_
      refine J_cond1 rfl ?_
      refine J_skip ?_
      refine pj_then ?_
      refine J_seq ?_
      refine J_block ?_
      refine J_seq ?_
      refine J_regd 16 mixed (by kernel_rfl) (by decide) ?_
      refine st (s_loadW 0 rfl rfl) rfl ?_
      refine st (s_move rfl) rfl ?_
      refine st (s_move rfl) rfl ?_
      refine st (s_indexIN rfl rfl (by omega)) rfl ?_
      refine st (s_fieldI rfl rfl) rfl ?_
      refine st (s_load rfl) rfl ?_
      refine st (s_callk (hw1 ) rfl ⟨VT.le_refl _, trivial⟩) rfl ?_
      refine st (s_callk (hre ) rfl ⟨VT.le_refl _, VT.le_refl _, trivial⟩) rfl ?_
      refine st (s_move rfl) rfl ?_
      refine st (s_move rfl) rfl ?_
      refine st (s_indexIN rfl rfl (by omega)) rfl ?_
      refine st (s_fieldI rfl rfl) rfl ?_
      refine st (s_load rfl) rfl ?_
      refine st (s_callk (hw2 ) rfl ⟨VT.le_refl _, trivial⟩) rfl ?_
      refine st (s_callk (hsa ) rfl ⟨VT.le_refl _, VT.le_refl _, trivial⟩) rfl ?_
      refine st (s_not rfl) rfl ?_
      refine Run.nil ?_
      refine Run.nil ?_
      refine pj_then ?_
      refine J_cond1 rfl ?_
      refine J_seq ?_
      refine J_reg ?_
      refine st (s_assign rfl) rfl ?_
      refine Run.nil ?_
      refine pj_then ?_
      refine J_ret ?_
      refine pr_block ?_
      refine pr_then ?_
      refine pr_then ?_
      refine pr_block ?_
      refine pr_then ?_
      refine retc1 Try.results21 (.tmp rfl (VT.le_refl _))
  · have he : i = l.length := by omega
    rw [he, List.take_length] at hco
    rw [hco]
    refine J_seq ?_
    refine J_seq ?_
    refine J_reg ?_
    refine st (s_move rfl) rfl ?_
    refine st (s_move rfl) rfl ?_
    refine st (s_len rfl) rfl ?_
    refine st (sF (by omega) (s_lt rfl rfl)) rfl ?_
    refine Run.nil ?_
    refine pj_then ?_
    refine J_cond0 rfl ?_
    refine J_exit ?_
    refine px_then ?_
    refine px_then ?_
    refine px_block ?_
    refine pj_then ?_
    refine J_seq ?_
    refine J_reg ?_
    refine st (s_assign rfl) rfl ?_
    refine Run.nil ?_
    refine pj_then ?_
    refine J_ret ?_
    refine retc1 Try.results21 (.tmp rfl (VT.le_refl _))
set_option maxHeartbeats 4000000 in
theorem rOfL_ok (l : List (Nat × Nat)) (a : Int) (hg : ∀ p ∈ l, GoodR p) (hl : l.length ≤ 16) (ha : small0 a) : Ok Try.prog 16 [ressT l, bigT a] (ressT (ofL l a)) := by
  refine Ok.enter Try.func16 rfl Try.ntmps16 rfl (fun w O => ?_)
  refine J_seq ?_
  refine J_reg ?_
  refine a_boxS rfl rfl (ltN rfl) (fun b3 => ?_)
  refine st (s_assign rfl) rfl ?_
  refine Run.nil ?_
  refine pj_then ?_
  refine J_seq ?_
  refine J_reg ?_
  refine stSO (n := 0) rfl rfl rfl rfl rfl ?_
  refine PartsK.nil (fun bl => ?_)
  refine st (s_assign rfl) rfl ?_
  refine Run.nil ?_
  refine pj_then ?_
  refine J_seq ?_
  refine J_seq ?_
  refine J_reg ?_
  refine st (s_assign rfl) rfl ?_
  refine Run.nil ?_
  refine pj_then ?_
  refine J_block ?_
  refine J_sub (Γ' := [(0, _), (3, _), (4, _), (5, _), (6, _)]) (SubG.cons rfl (VT.le_refl _) (SubG.cons rfl (VT.le_refl _) (SubG.cons rfl (VT.le_refl _) (SubG.cons rfl (VT.le_refl _) (SubG.cons rfl (VT.le_refl _) (SubG.nil)))))) (SubM.refl _) ?_
  refine J_loopA (σ := Nat × Option Nat × Nat) (Γk := [(0, _), (3, _), (4, _)]) (SubG.cons rfl (VT.le_refl _) (SubG.cons rfl (VT.le_refl _) (SubG.cons rfl (VT.le_refl _) (SubG.nil)))) (fun s => [(6, one (.int .i64 (s.1 : Nat))), (5, one (slV s.2.1 s.1 s.2.2))]) (fun s M0 => (M0.set 0 (sliO s.2.1 48 (.agg 2) s.2.2 s.1 (fun q => resT ((ofL (l.take s.1) a).getD q (0, 0)))))) (fun s => s.1 ≤ l.length) (fun s => l.length - s.1) ((0, some bl, 0)) (Nat.zero_le _) (by repeat (first | exact SubG.refl _ | exact SubG.nil | refine SubG.cons rfl (VT.le_refl _) ?_ | (refine SubG.cons rfl (one_le ?_) ?_; (congr 1; first | omega | (simp; omega) | simp)))) (.keep (sliO_eq (fun q hq => absurd hq (Nat.not_lt_zero _))) (.keep (Own.le_refl _) (.nil))) (fun s hs => ?_)
  refine J_norm (Γ' := [(6, _), (5, _), (0, _), (3, _), (4, _)]) (M' := [_, _]) rfl rfl ?_
  obtain ⟨i, sv, cap⟩ := s
  dsimp only at hs ⊢
  unfold ressT
  by_cases hc : i < l.length
  · obtain ⟨g1, g2, g3, g4⟩ := hg _ (getD_memR hc)
    have hw1 := whole_ok (l.getD i (0, 0)).1 (by omega)
    have sp : small0 ((l.getD i (0, 0)).1 : Int) := small0_pow (n := 64) (by omega) (by decide)
    have hre := rest_ok a ((l.getD i (0, 0)).1 : Int) (by omega) ha sp
    have hn := Int.emod_nonneg a (show ((l.getD i (0, 0)).1 : Int) ≠ 0 by omega)
    have hn2 := Int.emod_lt_of_pos a (show 0 < ((l.getD i (0, 0)).1 : Int) by omega)
    obtain ⟨r, hr⟩ : ∃ r : Nat, a % ((l.getD i (0, 0)).1 : Int) = (r : Int) := ⟨_, (Int.toNat_of_nonneg hn).symm⟩
    have hofs := ofL_succ (a := a) hc
    rw [hr] at hre hn2 hofs
    rw [Int.toNat_natCast] at hofs
    have hsm := rSmall_ok r (by omega)
    have hofl := ofL_len (l.take i) a
    rw [List.length_take, Nat.min_eq_left (Nat.le_of_lt hc)] at hofl
    unfold resT
    refine J_seq ?_
    refine J_seq ?_
    refine J_reg ?_
    refine st (s_move rfl) rfl ?_
    refine st (s_move rfl) rfl ?_
    refine st (s_len rfl) rfl ?_
    refine st (sT (by omega) (s_lt rfl rfl)) rfl ?_
    refine Run.nil ?_
    refine pj_then ?_
    refine J_cond1 rfl ?_
    refine J_skip ?_
    refine pj_then ?_
    refine J_seq ?_
    refine J_block ?_
    refine J_seq ?_
    refine J_regd 13 mixed (by kernel_rfl) (by decide) ?_
    refine st (s_loadW 1 rfl rfl) rfl ?_
    refine st (s_move rfl) rfl ?_
    refine st (s_move rfl) rfl ?_
    refine st (s_indexIN rfl rfl (by omega)) rfl ?_
    refine st (s_fieldI rfl rfl) rfl ?_
    refine st (s_load rfl) rfl ?_
    refine st (s_callk (hw1 ) rfl ⟨VT.le_refl _, trivial⟩) rfl ?_
    refine st (s_callk (hre ) rfl ⟨VT.le_refl _, VT.le_refl _, trivial⟩) rfl ?_
    refine st (s_callk (hsm ) rfl ⟨VT.le_refl _, trivial⟩) rfl ?_
    refine st (s_move rfl) rfl ?_
    refine st (s_extract rfl rfl) rfl ?_
    refine st (s_extract rfl rfl) rfl ?_
    refine st (s_assign rfl) rfl ?_
    refine Run.nil ?_
    refine st (s_assign rfl) rfl ?_
    refine Run.nil ?_
    refine pj_then ?_
    refine J_reg ?_
    refine st (s_move rfl) rfl ?_
    refine st (s_move rfl) rfl ?_
    refine st (s_move rfl) rfl ?_
    refine st (s_indexIN rfl rfl (by omega)) rfl ?_
    refine st (s_fieldI rfl rfl) rfl ?_
    refine st (s_load rfl) rfl ?_
    refine st (s_move rfl) rfl ?_
    refine st (s_toU64 rfl (by omega)) rfl ?_
    refine stB rfl rfl rfl ?_
    refine BuildK.cons rfl rfl rfl ?_
    refine BuildK.cons rfl rfl rfl ?_
    refine BuildK.nil ?_
    refine stS1 rfl rfl rfl rfl ?_
    (refine a_append 0 rfl rfl rfl (leN rfl) ?_ ?_ rfl (ltN rfl) (fun sv38 cap38 => ?_); omega; omega)
    refine st (s_assign rfl) rfl ?_
    refine Run.nil ?_
    refine pn_block ?_
    refine pj_then ?_
    refine J_reg ?_
    refine st (s_move rfl) rfl ?_
    refine st (s_addN _ 1 rfl rfl (by omega)) rfl ?_
    refine st (s_assign rfl) rfl ?_
    refine Run.nil ?_
    refine pj_roundM ((i + 1, sv38, cap38)) (hc) (by omega) (by repeat (first | exact SubG.refl _ | exact SubG.nil | refine SubG.cons rfl (VT.le_refl _) ?_ | (refine SubG.cons rfl (one_le ?_) ?_; (congr 1; first | omega | (simp; omega) | simp)))) (.keep (of_snoc hofs hofl rfl) (.keep (Own.le_refl _) (.nil)))
  · have he : i = l.length := by omega
    subst he
    rw [List.take_length]
    refine J_seq ?_
    refine J_seq ?_
    refine J_reg ?_
    refine st (s_move rfl) rfl ?_
    refine st (s_move rfl) rfl ?_
    refine st (s_len rfl) rfl ?_
    refine st (sF (by omega) (s_lt rfl rfl)) rfl ?_
    refine Run.nil ?_
    refine pj_then ?_
    refine J_cond0 rfl ?_
    refine J_exit ?_
    refine px_then ?_
    refine px_then ?_
    refine px_block ?_
    refine pj_then ?_
    refine J_seq ?_
    refine J_reg ?_
    refine st (s_move rfl) rfl ?_
    refine st (s_assign rfl) rfl ?_
    refine Run.nil ?_
    refine pj_then ?_
    refine J_ret ?_
    refine PJ_freeze (t := 4) (i := 0) rfl rfl ?_
    refine retc1 Try.results16 (.tmp rfl (slT_le' (ofL_len l a).symm (fun q hq => rfl)))
end Tor
end

section
set_option linter.unusedVariables false
set_option linter.unusedSimpArgs false
namespace Tor
theorem pw_pairs : (somes.all fun p => somes.all fun q => (q == p) || (powF 64 p (1 % p) (q % p) (p - 1) == 1)) = true := by decide +kernel
theorem cop_pairs : (somes.all fun p => somes.all fun q => (q == p) || (Nat.gcd q p == 1)) = true := by decide +kernel
theorem pw_pair {p q : Nat} (hp : p ∈ somes) (hq : q ∈ somes) (hne : q ≠ p) : q ^ (p - 1) % p = 1 := by
  have h := List.all_eq_true.1 (List.all_eq_true.1 pw_pairs p hp) q hq
  obtain ⟨h2, h3⟩ := somes_rng p hp
  simp only [Bool.or_eq_true, beq_iff_eq] at h
  rcases h with h | h
  · exact absurd h hne
  · have h4 := powF_eq 64 (p := p) (e := p - 1) (show p - 1 < 18446744073709551616 by omega) (PowR.start (by omega) (Nat.mod_lt q (show 0 < p by omega)) (by omega))
    rw [h] at h4
    rw [Nat.pow_mod, ← h4]
theorem cop_pair {p q : Nat} (hp : p ∈ somes) (hq : q ∈ somes) (hne : q ≠ p) : Nat.Coprime q p := by
  have h := List.all_eq_true.1 (List.all_eq_true.1 cop_pairs p hp) q hq
  simp only [Bool.or_eq_true, beq_iff_eq] at h
  rcases h with h | h
  · exact absurd h hne
  · exact h
def mulF (m : Nat) (l : List (Nat × Nat)) : Nat := l.foldl (fun m p => m * p.1) m
theorem mulF_pow {p : Nat} (hp : p ∈ somes) : ∀ (l : List (Nat × Nat)) (m : Nat), (∀ q ∈ l, q.1 ∈ somes ∧ q.1 ≠ p) → m ^ (p - 1) % p = 1 → (mulF m l) ^ (p - 1) % p = 1
  | [], _, _, h => h
  | q :: l, m, hl, h => by
    have hq := hl q List.mem_cons_self
    refine mulF_pow hp l (m * q.1) (fun r hr => hl r (List.mem_cons_of_mem _ hr)) ?_
    rw [Nat.mul_pow, Nat.mul_mod, h, pw_pair hp hq.1 hq.2]
    have := (somes_rng p hp).1
    exact Nat.mod_eq_of_lt (by omega)
theorem mulF_dvd : ∀ (l : List (Nat × Nat)) (m x : Nat), (x ∣ m ∨ ∃ q ∈ l, q.1 = x) → x ∣ mulF m l
  | [], _, _, h => by
    rcases h with h | ⟨q, hq, _⟩
    · exact h
    · cases hq
  | q :: l, m, x, h => by
    refine mulF_dvd l (m * q.1) x ?_
    rcases h with h | ⟨r, hr, rfl⟩
    · exact .inl (Nat.dvd_trans h (Nat.dvd_mul_right _ _))
    · rcases List.mem_cons.1 hr with rfl | hr
      · exact .inl (Nat.dvd_mul_left _ _)
      · exact .inr ⟨r, hr, rfl⟩
theorem mulF_all : ∀ (l : List (Nat × Nat)) (m x : Nat), m ∣ x → (∀ q ∈ l, q.1 ∣ x ∧ Nat.Coprime m q.1 ∧ q.1 ∈ somes) → (l.map (·.1)).Nodup → mulF m l ∣ x
  | [], _, _, h, _, _ => h
  | q :: l, m, x, h, hl, hnd => by
    obtain ⟨h1, h2, h3⟩ := hl q List.mem_cons_self
    rw [List.map_cons, List.nodup_cons] at hnd
    refine mulF_all l (m * q.1) x (h2.mul_dvd_of_dvd_of_dvd h h1) (fun r hr => ?_) hnd.2
    obtain ⟨k1, k2, k3⟩ := hl r (List.mem_cons_of_mem _ hr)
    refine ⟨k1, Nat.Coprime.mul_left k2 (cop_pair k3 h3 (fun e => hnd.1 ?_)), k3⟩
    exact e ▸ List.mem_map.2 ⟨r, hr, rfl⟩
theorem mulF_pos : ∀ (l : List (Nat × Nat)) (m : Nat), 0 < m → (∀ q ∈ l, 0 < q.1) → 0 < mulF m l
  | [], _, h, _ => h
  | q :: l, m, h, hl => mulF_pos l (m * q.1) (Nat.mul_pos h (hl q List.mem_cons_self)) (fun r hr => hl r (List.mem_cons_of_mem _ hr))
theorem MadeR.sub {l l' : List (Nat × Nat)} (h : MadeR l) (hs : l'.Sublist l) : MadeR l' :=
  ⟨fun p hp => h.good p (hs.subset hp), (hs.map (·.1)).nodup h.nd⟩
theorem MadeR.perm {l l' : List (Nat × Nat)} (h : MadeR l) (hs : l'.Perm l) : MadeR l' :=
  ⟨fun p hp => h.good p (hs.mem_iff.1 hp), (hs.map (·.1)).nodup_iff.2 h.nd⟩
theorem MadeR.pos {l : List (Nat × Nat)} (h : MadeR l) : 0 < prodN l := mulF_pos l 1 (by decide) (fun q hq => by have := (somes_rng _ (h.good q hq).1).1; omega)
theorem MadeR.dvd {l : List (Nat × Nat)} {p : Nat × Nat} (hp : p ∈ l) : p.1 ∣ prodN l := mulF_dvd l 1 _ (.inr ⟨p, hp, rfl⟩)
theorem MadeR.all {l : List (Nat × Nat)} (h : MadeR l) {x : Nat} (hx : ∀ p ∈ l, p.1 ∣ x) : prodN l ∣ x := mulF_all l 1 x (Nat.one_dvd _) (fun q hq => ⟨hx q hq, Nat.coprime_one_left _, (h.good q hq).1⟩) h.nd
theorem MadeR.allI {l : List (Nat × Nat)} (h : MadeR l) {x : Int} (hx : ∀ p ∈ l, (p.1 : Int) ∣ x) : (prodN l : Int) ∣ x := by
  rw [Int.ofNat_dvd_left]
  exact h.all fun p hp => by have := hx p hp; rwa [Int.ofNat_dvd_left] at this
/-- An inverse by a power. -/
theorem inv_ok {p m : Nat} (hp2 : 2 ≤ p) (h : m ^ (p - 1) % p = 1) : (m % p) * invN p (m % p) % p = 1 := by
  have h0 : m % p ≠ 0 := by
    intro h0
    rw [Nat.pow_mod, h0, Nat.zero_pow (by omega), Nat.zero_mod] at h
    cases h
  unfold invN
  rw [if_neg h0, Nat.mul_mod_mod, ← Nat.pow_succ']
  rw [show (p - 2).succ = p - 1 by omega, ← Nat.pow_mod]
  exact h
theorem crt_new {p v a m : Nat} (hp2 : 2 ≤ p) (hv : v < p) (h : m ^ (p - 1) % p = 1) : (a + m * crtT (a, m) (p, v)) % p = v := by
  unfold crtT
  dsimp only
  have h1 := inv_ok hp2 h
  have ha := Nat.mod_lt a (show 0 < p by omega)
  generalize hx : (v + p - a % p) % p = x
  generalize hi : invN p (m % p) = i at *
  have e1 : m * (x * i % p) % p = x % p := by
    rw [Nat.mul_mod_mod, show m * (x * i) = x * (m * i) by ac_rfl, ← Nat.mul_mod_mod, ← Nat.mod_mul_mod m i, h1, Nat.mul_one]
  rw [Nat.add_mod, e1, ← hx, Nat.mod_mod, ← Nat.add_mod]
  have e2 : a % p + (v + p - a % p) = v + p := by omega
  rw [Nat.add_mod, Nat.add_mod_mod]
  have e3 : (a % p + (v + p - a % p)) % p = v := by rw [e2, Nat.add_mod_right, Nat.mod_eq_of_lt hv]
  exact e3
theorem crt_snd (l : List (Nat × Nat)) : ∀ i, i ≤ l.length → (crtF (l.take i)).2 = prodN (l.take i)
  | 0, _ => rfl
  | i + 1, hi => by
    have ih := crt_snd l i (by omega)
    unfold crtF prodN at *
    rw [foldl_take _ _ (0, 0) hi, foldl_take _ _ (0, 0) hi]
    show ((l.take i).foldl crtStep (0, 1)).2 * _ = _
    rw [ih]
theorem MadeR.take {l : List (Nat × Nat)} (h : MadeR l) (i : Nat) : MadeR (l.take i) := h.sub (List.take_sublist _ _)
theorem crt_res {l : List (Nat × Nat)} (h : MadeR l) : ∀ i, i ≤ l.length → ∀ j, j < i → (crtF (l.take i)).1 % (l.getD j (0, 0)).1 = (l.getD j (0, 0)).2
  | 0, _, j, hj => absurd hj (Nat.not_lt_zero _)
  | i + 1, hi, j, hj => by
    have ih := crt_res h i (by omega)
    have hs := crt_snd l i (by omega)
    have hst : crtF (l.take (i + 1)) = crtStep (crtF (l.take i)) (l.getD i (0, 0)) := by unfold crtF; rw [foldl_take _ _ (0, 0) hi]
    rw [hst]
    unfold crtStep
    dsimp only
    obtain ⟨g1, g2⟩ := h.good _ (getD_memR hi)
    have hp2 := (somes_rng _ g1).1
    rcases Nat.lt_or_eq_of_le (Nat.lt_succ_iff.1 hj) with hlt | rfl
    · have hd : (l.getD j (0, 0)).1 ∣ (crtF (l.take i)).2 := by
        rw [hs]
        refine MadeR.dvd (p := l.getD j (0, 0)) ?_
        refine List.mem_iff_getElem?.2 ⟨j, ?_⟩
        rw [List.getElem?_take, if_pos hlt, List.getElem?_eq_getElem (by omega)]
        simp [List.getD, show j < l.length by omega]
      obtain ⟨k, hk⟩ := hd
      rw [hk, Nat.mul_assoc, Nat.add_mul_mod_self_left]
      exact ih j hlt
    · have hpw : (crtF (l.take j)).2 ^ ((l.getD j (0, 0)).1 - 1) % (l.getD j (0, 0)).1 = 1 := by
        rw [hs]
        refine mulF_pow g1 _ 1 (fun q hq => ⟨((h.take j).good q hq).1, fun e => ?_⟩) (by rw [Nat.one_pow]; exact Nat.mod_eq_of_lt (by omega))
        have hnd := (nodup_fstN hi).1 (nodup_sub (i := j + 1) h.nd)
        refine hnd.2 ?_
        rw [← e]
        exact List.mem_map.2 ⟨q, hq, rfl⟩
      exact crt_new (a := (crtF (l.take j)).1) (m := (crtF (l.take j)).2) (p := (l.getD j (0, 0)).1) (v := (l.getD j (0, 0)).2) hp2 g2 hpw
theorem somes_prime : ∀ p ∈ somes, primeB p = true := by
  intro p hp
  have hs : somes = [2, 3, 5, 7] ++ ([11, 13, 17, 19, 23, 29, 31, 37, 41, 43, 47] ++ [65537, 2147483629, 2147483647]) := rfl
  rw [hs] at hp
  rcases List.mem_append.1 hp with hp | hp
  · exact prime_first p hp
  · rcases List.mem_append.1 hp with hp | hp
    · exact prime_small p hp
    · simp only [List.mem_cons, List.not_mem_nil, or_false] at hp
      rcases hp with rfl | rfl | rfl
      · exact prime_65537
      · exact prime_2147483629
      · exact prime_2147483647
theorem validF_made : ∀ (l : List (Nat × Nat)) (s : List Nat), (∀ p ∈ l, p.1 ∈ somes ∧ p.2 < p.1 ∧ p.1 ∉ s) → (l.map (·.1)).Nodup → validF s l = true
  | [], _, _, _ => rfl
  | p :: l, s, h, hnd => by
    obtain ⟨h1, h2, h3⟩ := h p List.mem_cons_self
    rw [List.map_cons, List.nodup_cons] at hnd
    rw [validF, if_neg h3, if_neg (by rw [somes_prime _ h1]; decide), if_neg (by omega)]
    refine validF_made l _ (fun q hq => ?_) hnd.2
    obtain ⟨k1, k2, k3⟩ := h q (List.mem_cons_of_mem _ hq)
    refine ⟨k1, k2, fun hm => ?_⟩
    rcases List.mem_append.1 hm with hm | hm
    · exact k3 hm
    · exact hnd.1 (by rw [← List.mem_singleton.1 hm]; exact List.mem_map.2 ⟨q, hq, rfl⟩)
theorem MadeR.valid {l : List (Nat × Nat)} (h : MadeR l) : validF [] l = true := validF_made l [] (fun p hp => ⟨(h.good p hp).1, (h.good p hp).2, by simp⟩) h.nd
theorem MadeR.res64 {l : List (Nat × Nat)} (h : MadeR l) : Res64 l := fun p hp => by
  obtain ⟨h1, h2⟩ := h.good p hp
  have := somes_rng _ h1
  omega
/-- What the combination of a list is. -/
structure Comb (l : List (Nat × Nat)) (x : Int) : Prop where
  res : ∀ p ∈ l, x % (p.1 : Int) = (p.2 : Int)
  hi : x + x ≤ (prodN l : Int)
  lo : -(prodN l : Int) < x + x
theorem MadeR.comb {l : List (Nat × Nat)} (h : MadeR l) : Comb l (combI l) := by
  obtain ⟨k1, k2⟩ := crtF_inv (fun p hp => validF_good h.valid p hp) l.length (Nat.le_refl _)
  have hs := crt_snd l l.length (Nat.le_refl _)
  have hr := crt_res h l.length (Nat.le_refl _)
  rw [List.take_length] at k1 hs hr
  have hres : ∀ p ∈ l, ((crtF l).1 : Int) % (p.1 : Int) = (p.2 : Int) := fun p hp => by
    obtain ⟨j, hj⟩ := List.mem_iff_getElem?.1 hp
    have hjl : j < l.length := (List.getElem?_eq_some_iff.1 hj).1
    have := hr j hjl
    rw [show l.getD j (0, 0) = p by rw [List.getD, hj]; rfl] at this
    rw [← Int.natCast_emod, this]
  unfold combI
  by_cases c : (crtF l).2 < (crtF l).1 + (crtF l).1
  · rw [if_pos c]
    refine ⟨fun p hp => ?_, by omega, by omega⟩
    obtain ⟨k, hk⟩ := MadeR.dvd hp
    rw [hs, hk, Int.natCast_mul, Int.sub_mul_emod_self_left]
    exact hres p hp
  · rw [if_neg c]
    exact ⟨hres, by omega, by omega⟩
theorem Comb.uniq {l : List (Nat × Nat)} {x y : Int} (h : MadeR l) (hx : Comb l x) (hy : Comb l y) : x = y := by
  have hd : (prodN l : Int) ∣ x - y := h.allI fun p hp => by
    have h1 := hx.res p hp
    have h2 := hy.res p hp
    exact Int.dvd_of_emod_eq_zero (by rw [Int.sub_emod, h1, h2, Int.sub_self, Int.zero_emod])
  obtain ⟨k, hk⟩ := hd
  have h1 := hx.hi
  have h2 := hx.lo
  have h3 := hy.hi
  have h4 := hy.lo
  have hp := h.pos
  have hk0 : k = 0 := by
    rcases Int.lt_trichotomy k 0 with c | c | c
    · have := Int.mul_le_mul_of_nonneg_left (show k ≤ -1 by omega) (show (0 : Int) ≤ prodN l by omega)
      omega
    · exact c
    · have := Int.mul_le_mul_of_nonneg_left (show 1 ≤ k by omega) (show (0 : Int) ≤ prodN l by omega)
      omega
  rw [hk0, Int.mul_zero] at hk
  omega
theorem consB_iff {l : List (Nat × Nat)} {a : Int} (hp : ∀ p ∈ l, 2 ≤ p.1) : consB l a = true ↔ ∀ p ∈ l, a % (p.1 : Int) = (p.2 : Int) := by
  unfold consB
  rw [List.all_eq_true]
  refine forall_congr' fun p => forall_congr' fun hm => ?_
  have := Int.emod_nonneg a (show (p.1 : Int) ≠ 0 by have := hp p hm; omega)
  rw [decide_eq_true_eq]
  omega
end Tor
end

section
set_option linter.unusedVariables false
set_option linter.unusedSimpArgs false
namespace Tor
open Go Go.RowKit Go.Proofs
/-- Euclid's algorithm down to the first remainder that is at most s. -/
def eucF (s : Nat) : Nat → Nat × Int → Nat × Int → Nat × Int
  | 0, _, y => y
  | f + 1, x, y => if s < y.1 then eucF s f y (x.1 % y.1, x.2 - ((x.1 / y.1 : Nat) : Int) * y.2) else y
theorem eucF_fuel (s : Nat) : ∀ (f g : Nat) (x y : Nat × Int), y.1 < f → y.1 < g → eucF s f x y = eucF s g x y
  | 0, _, _, _, h, _ => absurd h (Nat.not_lt_zero _)
  | _ + 1, 0, _, _, _, h => absurd h (Nat.not_lt_zero _)
  | f + 1, g + 1, x, y, h1, h2 => by
    rw [eucF, eucF]
    by_cases c : s < y.1
    · rw [if_pos c, if_pos c]
      have := Nat.mod_lt x.1 (show 0 < y.1 by omega)
      exact eucF_fuel s f g _ _ (by show x.1 % y.1 < f; omega) (by show x.1 % y.1 < g; omega)
    · rw [if_neg c, if_neg c]
structure EucR (m s : Nat) (R : Nat × Int) (x y : Nat × Int) : Prop where
  eq : ∀ f, y.1 < f → eucF s f x y = R
  lt : y.1 < x.1
  le : x.1 ≤ m
  w : x.2.natAbs * y.1 + y.2.natAbs * x.1 ≤ m
  u : x.2.natAbs ≤ m
  v : y.2.natAbs ≤ m
theorem EucR.step {m s : Nat} {R x y : Nat × Int} (h : EucR m s R x y) (hc : s < y.1) : EucR m s R y (x.1 % y.1, x.2 - ((x.1 / y.1 : Nat) : Int) * y.2) ∧ (((x.1 / y.1 : Nat) : Int) * y.2).natAbs ≤ m := by
  have hy : 0 < y.1 := by omega
  have hm := Nat.mod_lt x.1 hy
  have hd := Nat.div_add_mod x.1 y.1
  have hlt := h.lt
  have hle := h.le
  have hw := h.w
  have e1 : (((x.1 / y.1 : Nat) : Int) * y.2).natAbs = x.1 / y.1 * y.2.natAbs := by rw [Int.natAbs_mul, Int.natAbs_natCast]
  have e2 : (x.2 - ((x.1 / y.1 : Nat) : Int) * y.2).natAbs ≤ x.2.natAbs + x.1 / y.1 * y.2.natAbs := by rw [← e1]; omega
  have e3 : x.1 / y.1 * y.2.natAbs ≤ y.2.natAbs * x.1 := by rw [Nat.mul_comm]; exact Nat.mul_le_mul_left _ (Nat.div_le_self _ _)
  have e4 : y.2.natAbs * (x.1 % y.1) + (x.2 - ((x.1 / y.1 : Nat) : Int) * y.2).natAbs * y.1 ≤ m := by
    have k1 := Nat.mul_le_mul_right y.1 e2
    have k2 : (x.2.natAbs + x.1 / y.1 * y.2.natAbs) * y.1 + y.2.natAbs * (x.1 % y.1) = x.2.natAbs * y.1 + y.2.natAbs * x.1 := by
      conv => rhs; rw [← hd]
      rw [Nat.add_mul, Nat.mul_add]
      have : x.1 / y.1 * y.2.natAbs * y.1 = y.2.natAbs * (y.1 * (x.1 / y.1)) := by ac_rfl
      omega
    omega
  refine ⟨⟨fun f hf => ?_, hm, by omega, e4, h.v, ?_⟩, by rw [e1]; omega⟩
  · have := h.eq (y.1 + 1) (by omega)
    rw [eucF, if_pos hc] at this
    rw [← this]
    exact eucF_fuel s _ _ _ _ hf hm
  · have k3 : (x.2 - ((x.1 / y.1 : Nat) : Int) * y.2).natAbs ≤ (x.2 - ((x.1 / y.1 : Nat) : Int) * y.2).natAbs * y.1 := Nat.le_mul_of_pos_right _ hy
    show (x.2 - ((x.1 / y.1 : Nat) : Int) * y.2).natAbs ≤ m
    omega
theorem EucR.start {m s r : Nat} (hr : r < m) : EucR m s (eucF s (m + 1) (m, 0) (r, 1)) (m, 0) (r, 1) :=
  ⟨fun f hf => eucF_fuel s _ _ _ _ hf (by show r < m + 1; omega), hr, Nat.le_refl _, by simp, by simp, by show (1 : Int).natAbs ≤ m; omega⟩
theorem EucR.fin {m s : Nat} {R x y : Nat × Int} (h : EucR m s R x y) (hc : ¬ s < y.1) : y = R := by
  have := h.eq (y.1 + 1) (by omega)
  rwa [eucF, if_neg hc] at this
def ratCond (a : Int) (m s : Nat) (f : Rat) : Bool := decide (f.num.natAbs ≤ s) && (decide (f.den ≤ s) && (decide (Nat.gcd f.den m = 1) && decide ((f.num - a * f.den) % (m : Int) = 0)))
/-- What crt.Rational answers for m of at least 2; s is the bound. -/
def ratE (a : Int) (m s : Nat) : Option Rat :=
  let y := eucF s (m + 1) (m, 0) ((a % (m : Int)).toNat, 1)
  if y.2 = 0 then none else if ratCond a m s (Rat.divInt (y.1 : Int) y.2) = true then some (Rat.divInt (y.1 : Int) y.2) else none
def ratO : Option Rat → VT
  | some q => ratT q
  | none => fracT 0 0
instance {q : Option Rat} : Flat (ratO q) (.agg 4) := by cases q <;> (unfold ratO; infer_instance)
theorem num_le {a b : Int} : (Rat.divInt a b).num.natAbs ≤ a.natAbs := by
  rw [Rat.num_divInt]
  by_cases hb : b = 0
  · subst hb; simp
  · have h1 : b.sign * a = a ∨ b.sign * a = -a := by
      rcases Int.lt_trichotomy b 0 with h | h | h
      · right; rw [Int.sign_eq_neg_one_of_neg h]; omega
      · exact absurd h hb
      · left; rw [Int.sign_eq_one_of_pos h]; omega
    have h2 := Int.natAbs_ediv_le_natAbs (b.sign * a) ((b.gcd a : Nat) : Int)
    rcases h1 with h | h <;> rw [h] at h2 ⊢ <;> omega
theorem den_le {a b : Int} (hb : b ≠ 0) : (Rat.divInt a b).den ≤ b.natAbs := by
  rw [Rat.den_divInt, if_neg hb]; exact Nat.div_le_self _ _
theorem small_of {x : Int} {n : Nat} (h : x.natAbs ≤ 2 ^ n) (hn : n < 2048) : small x := small_lt (Nat.lt_of_le_of_lt h (Nat.pow_lt_pow_right (a := 2) (m := n) (n := 2048) (by decide) hn))
theorem rc_eq {a : Int} {m s : Nat} {f : Rat} : (decide (cmpI (f.num.natAbs : Int) (s : Int) ≤ 0) == true && (decide (cmpI (f.den : Int) (s : Int) ≤ 0) == true && (decide (cmpI ((Nat.gcd f.den m : Nat) : Int) 1 = 0) == true && decide (sgnI ((f.num - a * (f.den : Int)) % (m : Int)) = 0) == true))) = ratCond a m s f := by
  unfold ratCond
  have h1 : ∀ x y : Int, cmpI x y ≤ 0 ↔ x ≤ y := fun x y => by unfold cmpI; split <;> (try split) <;> omega
  have h2 : ∀ x y : Int, cmpI x y = 0 ↔ x = y := fun x y => by unfold cmpI; split <;> (try split) <;> omega
  have h3 : ∀ x : Int, sgnI x = 0 ↔ x = 0 := fun x => by unfold sgnI; split <;> (try split) <;> omega
  simp only [h1, h2, h3, beq_true]
  congr 1
  · congr 1; simp
  · congr 1
    · congr 1; simp
    · congr 1; congr 1; simp; omega
theorem mul800 {x y : Nat} (h : x ≤ 2 ^ 800) (h' : y ≤ 2 ^ 800) : x * y ≤ 2 ^ 1600 := by
  have h2 := pw_add 800 1600 rfl
  exact Nat.le_trans (Nat.mul_le_mul h h') (Nat.le_of_eq h2.symm)
theorem box2_le {b : Nat} {T : TypeId} {φ ψ φ' ψ' : VT} (h : VT.le φ φ') (h' : VT.le ψ ψ') : Own.le (boxO b T 4 [(0, .agg 2, φ), (2, .agg 2, ψ)]) (boxO b T 4 [(0, .agg 2, φ'), (2, .agg 2, ψ')]) := boxO_le (fun q hq => by
  rcases List.mem_cons.1 hq with rfl | hq
  · exact ⟨_, List.mem_cons_self, h⟩
  · rcases List.mem_cons.1 hq with rfl | hq
    · exact ⟨_, List.mem_cons_of_mem _ List.mem_cons_self, h'⟩
    · cases hq)
instance : QuadOf Go.Proofs.Try.prog 95 4 := QuadOf.by_info (by kernel_rfl) (by kernel_rfl) (by kernel_rfl)
attribute [local irreducible] Tor.J Tor.PJ Tor.StepO Tor.one Tor.slT Tor.ptrT Tor.aggT Tor.tupT Tor.exT Tor.andT Tor.gT Tor.eP Tor.boxO Tor.sliO Tor.slV Tor.VT.le Tor.Ret Tor.anyT Tor.mapO Tor.metT
set_option maxHeartbeats 4000000 in
theorem Rational1_ok (a m : Int) (hm : m < 2) : Ok Try.prog 30 [bigT a, bigT m] (tupT [fracT 0 0, one (.int .i64 1)]) := by
  have h1 := Of_ok 1 (by decide) (by decide)
  have h2 := Of_ok 2 (by decide) (by decide)
  have hcm := CmpI_ok m 2
  have hc : cmpI m 2 < 0 := by unfold cmpI; rw [if_pos hm]; decide
  unfold fracT
  refine Ok.enter Try.func30 rfl Try.ntmps30 rfl (fun w O => ?_)
  refine J_seq ?_
  refine J_reg ?_
  refine a_boxS rfl rfl (ltN rfl) (fun b2 => ?_)
  refine a_boxS rfl rfl (ltN rfl) (fun b3 => ?_)
  refine a_allocS (T := 59) rfl rfl rfl (fun b4 => ?_)
  refine st (s_assign rfl) rfl ?_
  refine Run.nil ?_
  refine pj_then ?_
  refine J_seq ?_
  refine J_reg ?_
  refine st (s_callk (h1 ) rfl ⟨VT.le_refl _, trivial⟩) rfl ?_
  refine st (s_callk (h2 ) rfl ⟨VT.le_refl _, trivial⟩) rfl ?_
  refine a_alloc (T := 29) rfl (ltN rfl) (fun b6 => ?_)
  refine a_alloc (T := 29) rfl (ltN rfl) (fun b7 => ?_)
  refine a_storeB 1 rfl rfl rfl rfl rfl (leN rfl) rfl ?_
  refine a_storeB 0 rfl rfl rfl rfl rfl (leN rfl) rfl ?_
  refine Run.nil ?_
  refine pj_then ?_
  refine J_seq ?_
  refine J_seq ?_
  refine J_reg ?_
  refine st (s_loadW 3 rfl rfl) rfl ?_
  refine st (s_loadB 0 rfl rfl rfl) rfl ?_
  refine st (s_callk (hcm ) rfl ⟨VT.le_refl _, VT.le_refl _, trivial⟩) rfl ?_
  refine st (sT (by assumption) (s_lt rfl rfl)) rfl ?_
  refine Run.nil ?_
  refine pj_then ?_
  refine J_cond1 rfl ?_
  refine J_seq ?_
  refine J_reg ?_
  refine stB rfl rfl rfl ?_
  refine BuildK.nil ?_
  refine a_storeW 2 rfl rfl rfl rfl ?_
  refine st (s_assign rfl) rfl ?_
  refine Run.nil ?_
  refine pj_then ?_
  refine J_ret ?_
  refine pr_then ?_
  refine retc2 Try.results30 (.cellW 2 rfl rfl (frac00)) (.tmp rfl (VT.le_refl _))
set_option maxHeartbeats 8000000 in
theorem Rational_ok (a : Int) (m s : Nat) (hm : 2 ≤ m) (hm8 : m ≤ 2 ^ 800) (ha : a.natAbs ≤ 2 ^ 800) (hs1 : s * s ≤ (m - 1) / 2) (hs2 : (m - 1) / 2 < (s + 1) * (s + 1)) :
    Ok Try.prog 30 [bigT a, bigT (m : Int)] (tupT [ratO (ratE a m s), one (.int .i64 (if (ratE a m s).isSome then 0 else 41))]) := by
  have h1 := Of_ok 1 (by decide) (by decide)
  have h2 := Of_ok 2 (by decide) (by decide)
  have hcm := CmpI_ok (m : Int) 2
  have hc : ¬ cmpI (m : Int) 2 < 0 := by unfold cmpI; split <;> (try split) <;> omega
  have sma : small a := small_of ha (by decide)
  have smm : small (m : Int) := small_of (n := 800) hm8 (by decide)
  have sm1 : small 1 := small_lt (by decide +kernel)
  have sm2 : small 2 := small_lt (by decide +kernel)
  have hsu := SubI_ok (m : Int) 1 smm sm1
  rw [show (m : Int) - 1 = ((m - 1 : Nat) : Int) by omega] at hsu
  have hd1 := DivMod_ok ((m - 1 : Nat) : Int) 2 (by decide) (small_abs' smm (by omega)) sm2
  rw [show ((m - 1 : Nat) : Int) / 2 = (((m - 1) / 2 : Nat) : Int) from (Int.natCast_ediv _ _).symm, show ((m - 1 : Nat) : Int) % 2 = (((m - 1) % 2 : Nat) : Int) from (Int.natCast_emod _ _).symm] at hd1
  have hro : Ok Try.prog 64 [bigT (((m - 1) / 2 : Nat) : Int)] (tupT [bigT (s : Int), one (.int .i64 0)]) := by
    by_cases h0 : (m - 1) / 2 = 0
    · have : s = 0 := by
        rcases Nat.eq_zero_or_pos s with h | h
        · exact h
        · have := Nat.mul_le_mul h h; omega
      rw [h0, this]; exact Root0_ok
    · exact Root_ok _ s (Nat.lt_of_lt_of_le (show (m - 1) / 2 < m by omega) hm8) h0 hs1 hs2
  have hd2 := DivMod_ok a (m : Int) (by omega) sma smm
  have hr0 := Int.emod_nonneg a (show (m : Int) ≠ 0 by omega)
  have hr1 := Int.emod_lt_of_pos a (show 0 < (m : Int) by omega)
  refine Ok.enter Try.func30 rfl Try.ntmps30 rfl (fun w O => ?_)
  unfold ratE
  dsimp only
  obtain ⟨r, hr⟩ : ∃ r, r = (a % (m : Int)).toNat := ⟨_, rfl⟩
  have hre : a % (m : Int) = (r : Int) := by omega
  have hd2' := hd2
  rw [hre] at hd2'
  rw [← hr]
  have hE := EucR.start (m := m) (s := s) (r := r) (by omega)
  generalize eucF s (m + 1) (m, 0) (r, 1) = R at *
  refine J_seq ?_
  refine J_reg ?_
  refine a_boxS rfl rfl (ltN rfl) (fun b2 => ?_)
  refine a_boxS rfl rfl (ltN rfl) (fun b3 => ?_)
  refine a_allocS (T := 59) rfl rfl rfl (fun b4 => ?_)
  refine st (s_assign rfl) rfl ?_
  refine Run.nil ?_
  refine pj_then ?_
  refine J_seq ?_
  refine J_reg ?_
  refine st (s_callk (h1 ) rfl ⟨VT.le_refl _, trivial⟩) rfl ?_
  refine st (s_callk (h2 ) rfl ⟨VT.le_refl _, trivial⟩) rfl ?_
  refine a_alloc (T := 29) rfl (ltN rfl) (fun b6 => ?_)
  refine a_alloc (T := 29) rfl (ltN rfl) (fun b7 => ?_)
  refine a_storeB 1 rfl rfl rfl rfl rfl (leN rfl) rfl ?_
  refine a_storeB 0 rfl rfl rfl rfl rfl (leN rfl) rfl ?_
  refine Run.nil ?_
  refine pj_then ?_
  refine J_seq ?_
  refine J_seq ?_
  refine J_reg ?_
  refine st (s_loadW 3 rfl rfl) rfl ?_
  refine st (s_loadB 0 rfl rfl rfl) rfl ?_
  refine st (s_callk (hcm ) rfl ⟨VT.le_refl _, VT.le_refl _, trivial⟩) rfl ?_
  refine st (sF (by assumption) (s_lt rfl rfl)) rfl ?_
  refine Run.nil ?_
  refine pj_then ?_
  refine J_cond0 rfl ?_
  refine J_skip ?_
  refine pj_then ?_
  refine J_seq ?_
  refine J_regU2 mixed (by kernel_rfl) (by kernel_rfl) ?_
  refine ux (fun B => s_loadW 3 rfl rfl) rfl rfl ?_
  refine ux (fun B => s_loadB 1 rfl rfl rfl) rfl rfl ?_
  refine uxk (hsu ) rfl ⟨VT.le_refl _, VT.le_refl _, trivial⟩ rfl ?_
  refine ux (fun B => s_loadB 0 rfl rfl rfl) rfl rfl ?_
  refine uxk (hd1 ) rfl ⟨VT.le_refl _, VT.le_refl _, trivial⟩ rfl ?_
  refine ux (fun B => s_move rfl) rfl rfl ?_
  refine ux (fun B => s_extract rfl rfl) rfl rfl ?_
  refine ux (fun B => s_extract rfl rfl) rfl rfl ?_
  refine ux (fun B => s_extract rfl rfl) rfl rfl ?_
  refine ua rfl ?_
  refine ua rfl ?_
  refine us rfl ?_
  refine us rfl ?_
  refine ux (fun B => s_assign rfl) rfl rfl ?_
  refine RunU.nil (fun γ => ?_)
  refine PJ_normM (M' := [_, _, _, _, _, _, _]) rfl ?_
  refine pj_then ?_
  refine J_seq ?_
  refine J_reg ?_
  refine st (s_loadB 1 rfl rfl rfl) rfl ?_
  refine st (s_callk (hro ) rfl ⟨VT.le_refl _, trivial⟩) rfl ?_
  refine st (s_move rfl) rfl ?_
  refine st (s_extract rfl rfl) rfl ?_
  refine st (s_extract rfl rfl) rfl ?_
  refine a_alloc (T := 29) rfl (ltN rfl) (fun b11 => ?_)
  refine a_storeB 0 rfl rfl rfl rfl rfl (leN rfl) rfl ?_
  refine st (s_assign rfl) rfl ?_
  refine Run.nil ?_
  refine pj_then ?_
  refine J_seq ?_
  refine J_reg ?_
  refine st (s_loadW 7 rfl rfl) rfl ?_
  refine st (s_loadW 6 rfl rfl) rfl ?_
  refine st (s_callk (hd2' ) rfl ⟨VT.le_refl _, VT.le_refl _, trivial⟩) rfl ?_
  refine st (s_move rfl) rfl ?_
  refine st (s_extract rfl rfl) rfl ?_
  refine st (s_extract rfl rfl) rfl ?_
  refine st (s_extract rfl rfl) rfl ?_
  refine a_alloc (T := 29) rfl (ltN rfl) (fun b13 => ?_)
  refine a_alloc (T := 29) rfl (ltN rfl) (fun b14 => ?_)
  refine a_storeB 1 rfl rfl rfl rfl rfl (leN rfl) rfl ?_
  refine a_storeB 0 rfl rfl rfl rfl rfl (leN rfl) rfl ?_
  refine st (s_assign rfl) rfl ?_
  refine Run.nil ?_
  refine pj_then ?_
  refine J_seq ?_
  refine J_regU2 mixed (by kernel_rfl) (by kernel_rfl) ?_
  refine ux (fun B => s_loadW 8 rfl rfl) rfl rfl ?_
  refine uB rfl rfl rfl ?_
  refine BuildK.nil ?_
  refine uB rfl rfl rfl ?_
  refine BuildK.cons rfl rfl rfl ?_
  refine BuildK.cons rfl rfl rfl ?_
  refine BuildK.nil ?_
  refine ux (fun B => s_loadB 0 rfl rfl rfl) rfl rfl ?_
  refine ux (fun B => s_loadB 6 rfl rfl rfl) rfl rfl ?_
  refine uB rfl rfl rfl ?_
  refine BuildK.cons rfl rfl rfl ?_
  refine BuildK.cons rfl rfl rfl ?_
  refine BuildK.nil ?_
  refine ua rfl ?_
  refine ua rfl ?_
  refine us rfl ?_
  refine us rfl ?_
  refine RunU.nil (fun γ => ?_)
  refine PJ_normM (M' := [_, _, _, _, _, _, _, _, _, _, _, _]) rfl ?_
  refine PJ_sub (SubG.refl _) (.keep box_flat (.keep box_flat (SubM.refl _))) ?_
  refine pj_then ?_
  refine J_seq ?_
  refine J_block ?_
  refine J_sub (Γ' := [(2, _), (3, _), (4, _), (5, _), (6, _), (11, _), (16, _), (17, _)]) (SubG.cons rfl (VT.le_refl _) (SubG.cons rfl (VT.le_refl _) (SubG.cons rfl (VT.le_refl _) (SubG.cons rfl (VT.le_refl _) (SubG.cons rfl (VT.le_refl _) (SubG.cons rfl (VT.le_refl _) (SubG.cons rfl (VT.le_refl _) (SubG.cons rfl (VT.le_refl _) (SubG.nil))))))))) (SubM.refl _) ?_
  refine J_loopA (σ := (Nat × Int) × (Nat × Int)) (Γk := [(2, _), (3, _), (4, _), (5, _), (6, _), (11, _), (16, _), (17, _)]) (SubG.cons rfl (VT.le_refl _) (SubG.cons rfl (VT.le_refl _) (SubG.cons rfl (VT.le_refl _) (SubG.cons rfl (VT.le_refl _) (SubG.cons rfl (VT.le_refl _) (SubG.cons rfl (VT.le_refl _) (SubG.cons rfl (VT.le_refl _) (SubG.cons rfl (VT.le_refl _) (SubG.nil))))))))) (fun p => []) (fun p M0 => ((M0.set 0 (boxO (γ 17) 92 4 [(0, .agg 2, bigT (p.2.1 : Nat)), (2, .agg 2, bigT p.2.2)])).set 1 (boxO (γ 16) 92 4 [(0, .agg 2, bigT (p.1.1 : Nat)), (2, .agg 2, bigT p.1.2)]))) (fun p => EucR m s R p.1 p.2) (fun p => p.2.1) (((m, 0), (r, 1))) (hE) (by repeat (first | exact SubG.refl _ | exact SubG.nil | refine SubG.cons rfl (VT.le_refl _) ?_ | (refine SubG.cons rfl (one_le ?_) ?_; (congr 1; first | omega | (simp; omega) | simp)))) (.keep (Own.le_refl _) (.keep (box2_le (VT.le_refl _) bigT_zero) (.keep (Own.le_refl _) (.keep (Own.le_refl _) (.keep (Own.le_refl _) (.keep (Own.le_refl _) (.keep (Own.le_refl _) (.keep (Own.le_refl _) (.keep (Own.le_refl _) (.keep (Own.le_refl _) (.keep (Own.le_refl _) (.keep (Own.le_refl _) (.nil))))))))))))) (fun p hp => ?_)
  refine J_norm (Γ' := [(2, _), (3, _), (4, _), (5, _), (6, _), (11, _), (16, _), (17, _)]) (M' := [_, _, _, _, _, _, _, _, _, _, _, _]) rfl rfl ?_
  obtain ⟨x, y⟩ := p
  dsimp only at hp ⊢
  have hcy := CmpI_ok (y.1 : Int) (s : Int)
  have q1 := hp.lt
  have q2 := hp.le
  have q3 := hp.u
  have q4 := hp.v
  by_cases hys : s < y.1
  · have hcc : 0 < cmpI (y.1 : Int) (s : Int) := by unfold cmpI; rw [if_neg (by omega), if_pos (by omega)]; decide
    obtain ⟨n1, n2⟩ := hp.step hys
    have q5 := Nat.div_le_self x.1 y.1
    have hnx := next_ok (x.1 : Int) x.2 (y.1 : Int) y.2 (by omega) (small_abs' smm (by omega)) (small_abs' smm (by omega)) (small_abs' smm (by omega)) (small_abs' smm (by omega)) (small_abs' smm (by rw [← Int.natCast_ediv, Int.natAbs_natCast, Int.natAbs_natCast]; exact Nat.le_trans q5 q2)) (small_abs' smm (by rw [← Int.natCast_ediv, Int.natAbs_natCast]; exact n2))
    rw [← Int.natCast_ediv, ← Int.natCast_emod] at hnx
    refine J_seq ?_
    refine J_seq ?_
    refine J_reg ?_
    refine st (s_fieldAddr rfl) rfl ?_
    refine st (s_loadB 0 rfl rfl rfl) rfl ?_
    refine st (s_loadB 4 rfl rfl rfl) rfl ?_
    refine st (s_callk (hcy ) rfl ⟨VT.le_refl _, VT.le_refl _, trivial⟩) rfl ?_
    refine st (sT (by assumption) (s_gt rfl rfl)) rfl ?_
    refine Run.nil ?_
    refine pj_then ?_
    refine J_cond1 rfl ?_
    refine J_skip ?_
    refine pj_then ?_
    refine J_block ?_
    refine J_regdT 4 mixed (by kernel_rfl) (by decide) ?_
    refine st (s_loadW 0 rfl rfl) rfl ?_
    refine st (s_loadW 1 rfl rfl) rfl ?_
    refine st (s_loadW 0 rfl rfl) rfl ?_
    refine st (s_callk (hnx ) rfl ⟨VT.le_refl _, VT.le_refl _, trivial⟩) rfl ?_
    refine Run.nil ?_
    refine a_storeW 1 rfl rfl rfl rfl ?_
    refine a_storeW 0 rfl rfl rfl rfl ?_
    refine Run.nil ?_
    refine pn_block ?_
    refine pj_roundM ((y, (x.1 % y.1, x.2 - ((x.1 / y.1 : Nat) : Int) * y.2))) (n1) (Nat.mod_lt _ (by omega)) (by repeat (first | exact SubG.refl _ | exact SubG.nil | refine SubG.cons rfl (VT.le_refl _) ?_ | (refine SubG.cons rfl (one_le ?_) ?_; (congr 1; first | omega | (simp; omega) | simp)))) (.keep (Own.le_refl _) (.keep (Own.le_refl _) (.keep (Own.le_refl _) (.keep (Own.le_refl _) (.keep (Own.le_refl _) (.keep (Own.le_refl _) (.keep (Own.le_refl _) (.keep (Own.le_refl _) (.keep (Own.le_refl _) (.keep (Own.le_refl _) (.keep (Own.le_refl _) (.keep (Own.le_refl _) (.nil)))))))))))))
  · have hcc : ¬ 0 < cmpI (y.1 : Int) (s : Int) := by unfold cmpI; split <;> (try split) <;> omega
    have hyR := hp.fin hys
    subst hyR
    by_cases hy0 : y.2 = 0
    · rw [if_pos hy0]
      have hq := qOf0_ok (y.1 : Int)
      rw [hy0]
      unfold fracT at hq
      unfold ratO fracT
      refine J_seq ?_
      refine J_seq ?_
      refine J_reg ?_
      refine st (s_fieldAddr rfl) rfl ?_
      refine st (s_loadB 0 rfl rfl rfl) rfl ?_
      refine st (s_loadB 4 rfl rfl rfl) rfl ?_
      refine st (s_callk (hcy ) rfl ⟨VT.le_refl _, VT.le_refl _, trivial⟩) rfl ?_
      refine st (sF (by assumption) (s_gt rfl rfl)) rfl ?_
      refine Run.nil ?_
      refine pj_then ?_
      refine J_cond0 rfl ?_
      refine J_exit ?_
      refine px_then ?_
      refine px_then ?_
      refine px_block ?_
      refine pj_then ?_
      refine J_seq ?_
      refine J_reg ?_
      refine st (s_fieldAddr rfl) rfl ?_
      refine st (s_loadB 0 rfl rfl rfl) rfl ?_
      refine st (s_fieldAddr rfl) rfl ?_
      refine st (s_loadB 0 rfl rfl rfl) rfl ?_
      refine st (s_callk (hq ) rfl ⟨VT.le_refl _, VT.le_refl _, trivial⟩) rfl ?_
      refine st (s_move rfl) rfl ?_
      refine st (s_extract rfl rfl) rfl ?_
      refine st (s_extract rfl rfl) rfl ?_
      refine a_allocS (T := 59) rfl rfl rfl (fun b18 => ?_)
      refine a_storeW 0 rfl rfl rfl rfl ?_
      refine st (s_assign rfl) rfl ?_
      refine Run.nil ?_
      refine pj_then ?_
      refine J_seq ?_
      refine J_seq ?_
      refine J_reg ?_
      refine st (s_move rfl) rfl ?_
      refine st (sT (by omega) (s_ne rfl rfl)) rfl ?_
      refine Run.nil ?_
      refine pj_then ?_
      refine J_cond1 rfl ?_
      refine J_seq ?_
      refine J_reg ?_
      refine stB rfl rfl rfl ?_
      refine BuildK.nil ?_
      refine a_storeW 10 rfl rfl rfl rfl ?_
      refine st (s_assign rfl) rfl ?_
      refine Run.nil ?_
      refine pj_then ?_
      refine J_ret ?_
      refine pr_then ?_
      refine retc2 Try.results30 (.cellW 10 rfl rfl (frac00)) (.tmp rfl (VT.le_refl _))
    · rw [if_neg hy0]
      have smy1 : small (y.1 : Int) := small_abs' smm (by omega)
      have smy2 : small y.2 := small_abs' smm (by omega)
      have hq := qOf_ok (y.1 : Int) y.2 hy0 smy1 smy2
      have hnl := num_le (a := (y.1 : Int)) (b := y.2)
      have hdl := den_le (a := (y.1 : Int)) hy0
      have hden0 := (Rat.divInt (y.1 : Int) y.2).den_nz
      generalize Rat.divInt (y.1 : Int) y.2 = f at *
      unfold ratT fracT at hq
      have smn : small f.num := small_abs' smm (by omega)
      have smd : small (f.den : Int) := small_abs' smm (by omega)
      have hp1 : (a * (f.den : Int)).natAbs ≤ 2 ^ 1600 := by
        rw [Int.natAbs_mul]
        exact mul800 ha (by omega)
      have hmu := MulI_ok a (f.den : Int) sma smd
      have smp := small_of (n := 1600) hp1 (by decide)
      have hsb := SubI_ok f.num (a * (f.den : Int)) smn smp
      have smq : small (f.num - a * (f.den : Int)) := small_of (n := 1601) (by
        have e : 2 ^ 1601 = 2 ^ 1600 + 2 ^ 1600 := pw_two 1600 1601 rfl
        have e2 : 2 ^ 800 ≤ 2 ^ 1600 := Nat.pow_le_pow_right (n := 2) (i := 800) (j := 1600) (by decide) (by decide)
        rw [e]
        generalize 2 ^ 1600 = z at *
        generalize 2 ^ 800 = z2 at *
        generalize a * (f.den : Int) = q at *
        omega) (by decide)
      have hdm := DivMod_ok (f.num - a * (f.den : Int)) (m : Int) (by omega) smq smm
      have hab := AbsI_ok f.num smn
      have hc1 := CmpI_ok (f.num.natAbs : Int) (s : Int)
      have hc2 := CmpI_ok (f.den : Int) (s : Int)
      have hgc := Gcd_ok (f.den : Int) (m : Int) smd smm
      rw [Int.natAbs_natCast, Int.natAbs_natCast] at hgc
      have hc3 := CmpI_ok (Nat.gcd f.den m : Nat) 1
      have hsi := SignI_ok ((f.num - a * (f.den : Int)) % (m : Int))
      refine J_seq ?_
      refine J_seq ?_
      refine J_reg ?_
      refine st (s_fieldAddr rfl) rfl ?_
      refine st (s_loadB 0 rfl rfl rfl) rfl ?_
      refine st (s_loadB 4 rfl rfl rfl) rfl ?_
      refine st (s_callk (hcy ) rfl ⟨VT.le_refl _, VT.le_refl _, trivial⟩) rfl ?_
      refine st (sF (by assumption) (s_gt rfl rfl)) rfl ?_
      refine Run.nil ?_
      refine pj_then ?_
      refine J_cond0 rfl ?_
      refine J_exit ?_
      refine px_then ?_
      refine px_then ?_
      refine px_block ?_
      refine pj_then ?_
      refine J_seq ?_
      refine J_reg ?_
      refine st (s_fieldAddr rfl) rfl ?_
      refine st (s_loadB 0 rfl rfl rfl) rfl ?_
      refine st (s_fieldAddr rfl) rfl ?_
      refine st (s_loadB 0 rfl rfl rfl) rfl ?_
      refine st (s_callk (hq ) rfl ⟨VT.le_refl _, VT.le_refl _, trivial⟩) rfl ?_
      refine st (s_move rfl) rfl ?_
      refine st (s_extract rfl rfl) rfl ?_
      refine st (s_extract rfl rfl) rfl ?_
      refine a_allocS (T := 59) rfl rfl rfl (fun b18 => ?_)
      refine a_storeW 0 rfl rfl rfl rfl ?_
      refine st (s_assign rfl) rfl ?_
      refine Run.nil ?_
      refine pj_then ?_
      refine J_seq ?_
      refine J_seq ?_
      refine J_reg ?_
      refine st (s_move rfl) rfl ?_
      refine st (sF (by omega) (s_ne rfl rfl)) rfl ?_
      refine Run.nil ?_
      refine pj_then ?_
      refine J_cond0 rfl ?_
      refine J_skip ?_
      refine pj_then ?_
      refine J_seq ?_
      refine J_regU2 mixed (by kernel_rfl) (by kernel_rfl) ?_
      refine ux (fun B => s_fieldAddr rfl) rfl rfl ?_
      refine ux (fun B => s_loadB 0 rfl rfl rfl) rfl rfl ?_
      refine ux (fun B => s_loadW 12 rfl rfl) rfl rfl ?_
      refine ux (fun B => s_fieldAddr rfl) rfl rfl ?_
      refine ux (fun B => s_loadB 0 rfl rfl rfl) rfl rfl ?_
      refine uxk (hmu ) rfl ⟨VT.le_refl _, VT.le_refl _, trivial⟩ rfl ?_
      refine uxk (hsb ) rfl ⟨VT.le_refl _, VT.le_refl _, trivial⟩ rfl ?_
      refine ux (fun B => s_loadW 11 rfl rfl) rfl rfl ?_
      refine uxk (hdm ) rfl ⟨VT.le_refl _, VT.le_refl _, trivial⟩ rfl ?_
      refine ux (fun B => s_move rfl) rfl rfl ?_
      refine ux (fun B => s_extract rfl rfl) rfl rfl ?_
      refine ux (fun B => s_extract rfl rfl) rfl rfl ?_
      refine ux (fun B => s_extract rfl rfl) rfl rfl ?_
      refine ua rfl ?_
      refine ua rfl ?_
      refine us rfl ?_
      refine us rfl ?_
      refine ux (fun B => s_assign rfl) rfl rfl ?_
      refine RunU.nil (fun γ => ?_)
      refine PJ_normM (M' := [_, _, _, _, _, _, _, _, _, _, _, _, _, _, _]) rfl ?_
      refine pj_then ?_
      refine J_seq ?_
      refine J_regU2 mixed (by kernel_rfl) (by kernel_rfl) ?_
      refine ux (fun B => s_fieldAddr rfl) rfl rfl ?_
      refine ux (fun B => s_loadB 2 rfl rfl rfl) rfl rfl ?_
      refine uxk (hab ) rfl ⟨VT.le_refl _, trivial⟩ rfl ?_
      refine ux (fun B => s_loadB 7 rfl rfl rfl) rfl rfl ?_
      refine uxk (hc1 ) rfl ⟨VT.le_refl _, VT.le_refl _, trivial⟩ rfl ?_
      refine ux (fun B => s_le rfl rfl) rfl rfl ?_
      refine ux (fun B => s_fieldAddr rfl) rfl rfl ?_
      refine ux (fun B => s_loadB 2 rfl rfl rfl) rfl rfl ?_
      refine ux (fun B => s_loadB 7 rfl rfl rfl) rfl rfl ?_
      refine uxk (hc2 ) rfl ⟨VT.le_refl _, VT.le_refl _, trivial⟩ rfl ?_
      refine ux (fun B => s_le rfl rfl) rfl rfl ?_
      refine ux (fun B => s_fieldAddr rfl) rfl rfl ?_
      refine ux (fun B => s_loadB 2 rfl rfl rfl) rfl rfl ?_
      refine ux (fun B => s_loadW 13 rfl rfl) rfl rfl ?_
      refine uxk (hgc ) rfl ⟨VT.le_refl _, VT.le_refl _, trivial⟩ rfl ?_
      refine ux (fun B => s_loadB 11 rfl rfl rfl) rfl rfl ?_
      refine uxk (hc3 ) rfl ⟨VT.le_refl _, VT.le_refl _, trivial⟩ rfl ?_
      refine ux (fun B => s_eq rfl rfl) rfl rfl ?_
      refine ux (fun B => s_loadB 0 rfl rfl rfl) rfl rfl ?_
      refine uxk (hsi ) rfl ⟨VT.le_refl _, trivial⟩ rfl ?_
      refine ux (fun B => s_eq rfl rfl) rfl rfl ?_
      refine uB rfl rfl rfl ?_
      refine BuildK.cons rfl rfl rfl ?_
      refine BuildK.cons rfl rfl rfl ?_
      refine BuildK.cons rfl rfl rfl ?_
      refine BuildK.cons rfl rfl rfl ?_
      refine BuildK.nil ?_
      refine ua rfl ?_
      refine us rfl ?_
      refine RunU.nil (fun γ => ?_)
      refine PJ_normM (M' := [_, _, _, _, _, _, _, _, _, _, _, _, _, _, _, _]) rfl ?_
      refine PJ_sub (SubG.refl _) (.keep box_flat (SubM.refl _)) ?_
      refine pj_then ?_
      refine J_seq ?_
      refine J_seq ?_
      refine J_reg ?_
      refine st (s_loadW 0 rfl rfl) rfl ?_
      refine stB rfl rfl rfl ?_
      refine BuildK.cons rfl rfl rfl ?_
      refine BuildK.cons rfl rfl rfl ?_
      refine BuildK.cons rfl rfl rfl ?_
      refine BuildK.cons rfl rfl rfl ?_
      refine BuildK.nil ?_
      refine st (s_neQ rfl rfl) rfl ?_
      refine Run.nil ?_
      refine pj_then ?_
      refine J_retype (t := 115) (ψ := one (.bool (!ratCond a m s f))) rfl (one_le (by rw [rc_eq])) ?_
      unfold ratO ratT fracT
      cases hrc : ratCond a m s f
      · rw [if_neg (by decide)]
        refine J_cond1 rfl ?_
        refine J_seq ?_
        refine J_reg ?_
        refine stB rfl rfl rfl ?_
        refine BuildK.nil ?_
        refine a_storeW 13 rfl rfl rfl rfl ?_
        refine st (s_assign rfl) rfl ?_
        refine Run.nil ?_
        refine pj_then ?_
        refine J_ret ?_
        refine pr_then ?_
        refine retc2 Try.results30 (.cellW 13 rfl rfl (frac00)) (.tmp rfl (VT.le_refl _))
      · rw [if_pos rfl]
        refine J_cond0 rfl ?_
        refine J_skip ?_
        refine pj_then ?_
        refine J_seq ?_
        refine J_reg ?_
        refine st (s_loadW 3 rfl rfl) rfl ?_
        refine a_storeW 13 rfl rfl rfl rfl ?_
        refine st (s_assign rfl) rfl ?_
        refine Run.nil ?_
        refine pj_then ?_
        refine J_ret ?_
        refine retc2 Try.results30 (.cellW 13 rfl rfl (VT.le_refl _)) (.tmp rfl (VT.le_refl _))
end Tor
end

section
set_option linter.unusedVariables false
set_option linter.unusedSimpArgs false
namespace Tor
open Go Go.RowKit Go.Proofs
theorem res1_le {a : Nat × Nat} {φ : VT} (h : φ = resT a) : VT.le (slT (.agg 2) 1 (fun _ => φ)) (ressT [a]) := by
  subst h
  exact slT_le' rfl (fun q hq => by
    match q, hq with
    | 0, _ => rfl)
theorem res1g_le {a : Nat × Nat} {φ : VT} (h : φ = resT a) : VT.le (slT (.agg 2) 1 (fun q => [φ].reverse.getD q anyT)) (ressT [a]) := by
  subst h
  exact slT_le' rfl (fun q hq => by
    match q, hq with
    | 0, _ => rfl)
theorem res2_le {a b : Nat × Nat} {φ ψ : VT} (h : φ = resT a) (h' : ψ = resT b) : VT.le (slT (.agg 2) 2 (fun q => [ψ, φ].reverse.getD q anyT)) (ressT [a, b]) := by
  subst h h'
  exact slT_le' rfl (fun q hq => by
    match q, hq with
    | 0, _ => rfl
    | 1, _ => rfl)
theorem res0_le : VT.le (one (.slice none 0 0)) (ressT []) := nil_slT
theorem res64 {l : List (Nat × Nat)} (h : (l.all fun p => decide (p.1 < 18446744073709551616) && decide (p.2 < 18446744073709551616)) = true) : Res64 l := fun p hp => by
  have := List.all_eq_true.1 h p hp
  simpa using this
attribute [local irreducible] Tor.J Tor.PJ Tor.StepO Tor.one Tor.slT Tor.ptrT Tor.aggT Tor.tupT Tor.exT Tor.andT Tor.gT Tor.eP Tor.boxO Tor.sliO Tor.slV Tor.VT.le Tor.Ret Tor.anyT Tor.mapO Tor.metT
set_option maxHeartbeats 4000000 in
theorem rat_ok (n d : Int) (hd : d ≠ 0) (h1 : -9223372036854775808 ≤ n) (h2 : n ≤ 9223372036854775807) (h3 : -9223372036854775808 ≤ d) (h4 : d ≤ 9223372036854775807) : Ok Try.prog 40 [one (.int .i64 n), one (.int .i64 d)] (ratT (Rat.divInt n d)) := by
  have e1 : small0 n := small0_lt (Nat.lt_of_le_of_lt (show n.natAbs ≤ 9223372036854775808 by omega) (by decide +kernel))
  have e2 : small0 d := small0_lt (Nat.lt_of_le_of_lt (show d.natAbs ≤ 9223372036854775808 by omega) (by decide +kernel))
  have hq := rqOf_ok n d hd e1 e2
  unfold ratT fracT at *
  refine Ok.enter Try.func40 rfl Try.ntmps40 rfl (fun w O => ?_)
  refine J_seq ?_
  refine J_reg ?_
  refine a_allocS (T := 59) rfl rfl rfl (fun b4 => ?_)
  refine Run.nil ?_
  refine pj_then ?_
  refine J_seq ?_
  refine J_reg ?_
  refine st (s_move rfl) rfl ?_
  refine st (s_callk (rOf_ok _ (by assumption) (by assumption)) rfl ⟨VT.le_refl _, trivial⟩) rfl ?_
  refine st (s_move rfl) rfl ?_
  refine st (s_callk (rOf_ok _ (by assumption) (by assumption)) rfl ⟨VT.le_refl _, trivial⟩) rfl ?_
  refine st (s_callk (hq ) rfl ⟨VT.le_refl _, VT.le_refl _, trivial⟩) rfl ?_
  refine st (s_move rfl) rfl ?_
  refine st (s_extract rfl rfl) rfl ?_
  refine st (s_extract rfl rfl) rfl ?_
  refine a_allocS (T := 59) rfl rfl rfl (fun b5 => ?_)
  refine a_storeW 0 rfl rfl rfl rfl ?_
  refine st (s_assign rfl) rfl ?_
  refine Run.nil ?_
  refine pj_then ?_
  refine J_seq ?_
  refine J_reg ?_
  refine st (s_loadW 0 rfl rfl) rfl ?_
  refine a_storeW 1 rfl rfl rfl rfl ?_
  refine Run.nil ?_
  refine pj_then ?_
  refine J_ret ?_
  refine retc1 Try.results40 (.cellW 1 rfl rfl (VT.le_refl _))
theorem small7 : small (-7) := small_lt (by decide +kernel)
theorem small5 : small 5 := small_lt (by decide +kernel)
set_option maxHeartbeats 8000000 in
set_option maxRecDepth 20000 in
theorem sanity_ok : Ok Try.prog 11 [] (one (.bool true)) := by
  have c1 := Combine_ok [(3, 2), (5, 3)] (res64 rfl) (by decide) (by decide +kernel)
  rw [show combI [(3, 2), (5, 3)] = -7 by decide +kernel] at c1
  have c2 := Combine_ok [(2, 1)] (res64 rfl) (by decide) (by decide +kernel)
  rw [show combI [(2, 1)] = 1 by decide +kernel] at c2
  have c3 := Combine_ok [] (res64 rfl) (by decide) (by decide +kernel)
  rw [show combI [] = 0 by decide +kernel] at c3
  have c4 := Combine0_ok [(4, 1)] (res64 rfl) (by decide +kernel)
  have c5 := Combine0_ok [(3, 3)] (res64 rfl) (by decide +kernel)
  have c6 := Combine0_ok [(3, 1), (3, 1)] (res64 rfl) (by decide +kernel)
  have c7 := Combine0_ok [(2147483659, 1)] (res64 rfl) (by decide +kernel)
  have r1 := Rational_ok 67 100 7 (by decide) (Nat.le_trans (by decide) (Nat.pow_le_pow_right (n := 2) (i := 7) (j := 800) (by decide) (by decide))) (Nat.le_trans (by decide) (Nat.pow_le_pow_right (n := 2) (i := 7) (j := 800) (by decide) (by decide))) (by decide) (by decide)
  rw [show ratE 67 100 7 = some (Rat.divInt 1 3) by decide +kernel] at r1
  have r2 := Rational_ok 50 100 7 (by decide) (Nat.le_trans (by decide) (Nat.pow_le_pow_right (n := 2) (i := 7) (j := 800) (by decide) (by decide))) (Nat.le_trans (by decide) (Nat.pow_le_pow_right (n := 2) (i := 7) (j := 800) (by decide) (by decide))) (by decide) (by decide)
  rw [show ratE 50 100 7 = none by decide +kernel] at r2
  have r3 := Rational1_ok 5 1 (by decide)
  have p1 := Product_ok [(3, 0), (5, 9)] (res64 rfl) (by decide)
  have p2 := Product_ok [] (res64 rfl) (by decide)
  have k1 := Consistent_ok [(3, 2)] (-7) (res64 rfl) small7
  rw [show (validF [] [(3, 2)] && consB [(3, 2)] (-7)) = true by decide +kernel] at k1
  have k2 := Consistent_ok [(3, 1)] (-7) (res64 rfl) small7
  rw [show (validF [] [(3, 1)] && consB [(3, 1)] (-7)) = false by decide +kernel] at k2
  have k3 := Consistent_ok [] 5 (res64 rfl) small5
  rw [show (validF [] [] && consB [] 5) = true by decide +kernel] at k3
  refine Ok.enter Try.func11 rfl Try.ntmps11 rfl (fun w O => ?_)
  refine J_seq ?_
  refine J_reg ?_
  refine st (s_assign rfl) rfl ?_
  refine Run.nil ?_
  refine pj_then ?_
  refine J_seq ?_
  refine J_reg ?_
  refine stB rfl rfl rfl ?_
  refine BuildK.cons rfl rfl rfl ?_
  refine BuildK.cons rfl rfl rfl ?_
  refine BuildK.nil ?_
  refine stB rfl rfl rfl ?_
  refine BuildK.cons rfl rfl rfl ?_
  refine BuildK.cons rfl rfl rfl ?_
  refine BuildK.nil ?_
  refine stS rfl rfl rfl rfl ?_
  refine PartsK.cons rfl ?_
  refine PartsK.cons rfl ?_
  refine PartsK.nil ?_
  refine st (s_callk (c1 ) rfl ⟨(res2_le rfl rfl), trivial⟩) rfl ?_
  refine st (s_move rfl) rfl ?_
  refine st (s_extract rfl rfl) rfl ?_
  refine st (s_extract rfl rfl) rfl ?_
  refine a_alloc (T := 29) rfl (ltN rfl) (fun b1 => ?_)
  refine a_storeB 0 rfl rfl rfl rfl rfl (leN rfl) rfl ?_
  refine st (s_assign rfl) rfl ?_
  refine Run.nil ?_
  refine pj_then ?_
  refine J_seq ?_
  refine J_reg ?_
  refine stB rfl rfl rfl ?_
  refine BuildK.cons rfl rfl rfl ?_
  refine BuildK.cons rfl rfl rfl ?_
  refine BuildK.nil ?_
  refine stS1 rfl rfl rfl rfl ?_
  refine st (s_callk (c2 ) rfl ⟨(res1_le rfl), trivial⟩) rfl ?_
  refine st (s_move rfl) rfl ?_
  refine st (s_extract rfl rfl) rfl ?_
  refine st (s_extract rfl rfl) rfl ?_
  refine a_alloc (T := 29) rfl (ltN rfl) (fun b3 => ?_)
  refine a_storeB 0 rfl rfl rfl rfl rfl (leN rfl) rfl ?_
  refine st (s_assign rfl) rfl ?_
  refine Run.nil ?_
  refine pj_then ?_
  refine J_seq ?_
  refine J_reg ?_
  refine st (s_callk (c3 ) rfl ⟨(res0_le), trivial⟩) rfl ?_
  refine st (s_move rfl) rfl ?_
  refine st (s_extract rfl rfl) rfl ?_
  refine st (s_extract rfl rfl) rfl ?_
  refine a_alloc (T := 29) rfl (ltN rfl) (fun b5 => ?_)
  refine a_storeB 0 rfl rfl rfl rfl rfl (leN rfl) rfl ?_
  refine st (s_assign rfl) rfl ?_
  refine Run.nil ?_
  refine pj_then ?_
  refine J_seq ?_
  refine J_reg ?_
  refine stB rfl rfl rfl ?_
  refine BuildK.cons rfl rfl rfl ?_
  refine BuildK.cons rfl rfl rfl ?_
  refine BuildK.nil ?_
  refine stS1 rfl rfl rfl rfl ?_
  refine st (s_callk (c4 ) rfl ⟨(res1_le rfl), trivial⟩) rfl ?_
  refine st (s_move rfl) rfl ?_
  refine st (s_extract rfl rfl) rfl ?_
  refine st (s_extract rfl rfl) rfl ?_
  refine a_alloc (T := 29) rfl (ltN rfl) (fun b7 => ?_)
  refine a_storeB 0 rfl rfl rfl rfl rfl (leN rfl) rfl ?_
  refine st (s_assign rfl) rfl ?_
  refine Run.nil ?_
  refine pj_then ?_
  refine J_seq ?_
  refine J_reg ?_
  refine stB rfl rfl rfl ?_
  refine BuildK.cons rfl rfl rfl ?_
  refine BuildK.cons rfl rfl rfl ?_
  refine BuildK.nil ?_
  refine stS1 rfl rfl rfl rfl ?_
  refine st (s_callk (c5 ) rfl ⟨(res1_le rfl), trivial⟩) rfl ?_
  refine st (s_move rfl) rfl ?_
  refine st (s_extract rfl rfl) rfl ?_
  refine st (s_extract rfl rfl) rfl ?_
  refine a_alloc (T := 29) rfl (ltN rfl) (fun b9 => ?_)
  refine a_storeB 0 rfl rfl rfl rfl rfl (leN rfl) rfl ?_
  refine st (s_assign rfl) rfl ?_
  refine Run.nil ?_
  refine pj_then ?_
  refine J_seq ?_
  refine J_reg ?_
  refine stB rfl rfl rfl ?_
  refine BuildK.cons rfl rfl rfl ?_
  refine BuildK.cons rfl rfl rfl ?_
  refine BuildK.nil ?_
  refine stB rfl rfl rfl ?_
  refine BuildK.cons rfl rfl rfl ?_
  refine BuildK.cons rfl rfl rfl ?_
  refine BuildK.nil ?_
  refine stS rfl rfl rfl rfl ?_
  refine PartsK.cons rfl ?_
  refine PartsK.cons rfl ?_
  refine PartsK.nil ?_
  refine st (s_callk (c6 ) rfl ⟨(res2_le rfl rfl), trivial⟩) rfl ?_
  refine st (s_move rfl) rfl ?_
  refine st (s_extract rfl rfl) rfl ?_
  refine st (s_extract rfl rfl) rfl ?_
  refine a_alloc (T := 29) rfl (ltN rfl) (fun b11 => ?_)
  refine a_storeB 0 rfl rfl rfl rfl rfl (leN rfl) rfl ?_
  refine st (s_assign rfl) rfl ?_
  refine Run.nil ?_
  refine pj_then ?_
  refine J_seq ?_
  refine J_reg ?_
  refine stB rfl rfl rfl ?_
  refine BuildK.cons rfl rfl rfl ?_
  refine BuildK.cons rfl rfl rfl ?_
  refine BuildK.nil ?_
  refine stS1 rfl rfl rfl rfl ?_
  refine st (s_callk (c7 ) rfl ⟨(res1_le rfl), trivial⟩) rfl ?_
  refine st (s_move rfl) rfl ?_
  refine st (s_extract rfl rfl) rfl ?_
  refine st (s_extract rfl rfl) rfl ?_
  refine a_alloc (T := 29) rfl (ltN rfl) (fun b13 => ?_)
  refine a_storeB 0 rfl rfl rfl rfl rfl (leN rfl) rfl ?_
  refine st (s_assign rfl) rfl ?_
  refine Run.nil ?_
  refine pj_then ?_
  refine J_seq ?_
  refine J_reg ?_
  refine st (s_callk (rOf_ok _ (by omega) (by omega)) rfl ⟨VT.le_refl _, trivial⟩) rfl ?_
  refine st (s_callk (rOf_ok _ (by omega) (by omega)) rfl ⟨VT.le_refl _, trivial⟩) rfl ?_
  refine st (s_callk (r1 ) rfl ⟨VT.le_refl _, VT.le_refl _, trivial⟩) rfl ?_
  refine st (s_move rfl) rfl ?_
  refine st (s_extract rfl rfl) rfl ?_
  refine st (s_extract rfl rfl) rfl ?_
  refine a_allocS (T := 59) rfl rfl rfl (fun b15 => ?_)
  refine a_storeW 0 rfl rfl rfl rfl ?_
  refine st (s_assign rfl) rfl ?_
  refine Run.nil ?_
  refine pj_then ?_
  refine J_seq ?_
  refine J_reg ?_
  refine st (s_callk (rOf_ok _ (by omega) (by omega)) rfl ⟨VT.le_refl _, trivial⟩) rfl ?_
  refine st (s_callk (rOf_ok _ (by omega) (by omega)) rfl ⟨VT.le_refl _, trivial⟩) rfl ?_
  refine st (s_callk (r2 ) rfl ⟨VT.le_refl _, VT.le_refl _, trivial⟩) rfl ?_
  refine st (s_move rfl) rfl ?_
  refine st (s_extract rfl rfl) rfl ?_
  refine st (s_extract rfl rfl) rfl ?_
  refine a_allocS (T := 59) rfl rfl rfl (fun b17 => ?_)
  refine a_storeW 0 rfl rfl rfl rfl ?_
  refine st (s_assign rfl) rfl ?_
  refine Run.nil ?_
  refine pj_then ?_
  refine J_seq ?_
  refine J_reg ?_
  refine st (s_callk (rOf_ok _ (by omega) (by omega)) rfl ⟨VT.le_refl _, trivial⟩) rfl ?_
  refine st (s_callk (rOf_ok _ (by omega) (by omega)) rfl ⟨VT.le_refl _, trivial⟩) rfl ?_
  refine st (s_callk (r3 ) rfl ⟨VT.le_refl _, VT.le_refl _, trivial⟩) rfl ?_
  refine st (s_move rfl) rfl ?_
  refine st (s_extract rfl rfl) rfl ?_
  refine st (s_extract rfl rfl) rfl ?_
  refine a_allocS (T := 59) rfl rfl rfl (fun b19 => ?_)
  refine a_storeW 0 rfl rfl rfl rfl ?_
  refine st (s_assign rfl) rfl ?_
  refine Run.nil ?_
  refine pj_then ?_
  refine J_seq ?_
  refine J_regd 25 mixed (by kernel_rfl) (by decide) ?_
  refine st (s_move rfl) rfl ?_
  refine st (sT (by omega) (s_eq rfl rfl)) rfl ?_
  refine st (s_move rfl) rfl ?_
  refine sg1 rfl rfl (s_move rfl) rfl ?_
  refine sg1 rfl rfl (sT (by omega) (s_eq rfl rfl)) rfl ?_
  refine st (s_pickT rfl rfl) rfl ?_
  refine st (s_move rfl) rfl ?_
  refine sg1 rfl rfl (s_move rfl) rfl ?_
  refine sg1 rfl rfl (sT (by omega) (s_eq rfl rfl)) rfl ?_
  refine st (s_pickT rfl rfl) rfl ?_
  refine st (s_move rfl) rfl ?_
  refine sg1 rfl rfl (s_loadB 9 rfl rfl rfl) rfl ?_
  refine sg1 rfl rfl (s_callk (rOf_ok _ (by omega) (by omega)) rfl ⟨VT.le_refl _, trivial⟩) rfl ?_
  refine sg1 rfl rfl (sT (by omega) (s_callk (rSame_ok _ _) rfl ⟨VT.le_refl _, VT.le_refl _, trivial⟩)) rfl ?_
  refine st (s_pickT rfl rfl) rfl ?_
  refine st (s_move rfl) rfl ?_
  refine sg1 rfl rfl (s_loadB 8 rfl rfl rfl) rfl ?_
  refine sg1 rfl rfl (s_callk (rOf_ok _ (by omega) (by omega)) rfl ⟨VT.le_refl _, trivial⟩) rfl ?_
  refine sg1 rfl rfl (sT (by omega) (s_callk (rSame_ok _ _) rfl ⟨VT.le_refl _, VT.le_refl _, trivial⟩)) rfl ?_
  refine st (s_pickT rfl rfl) rfl ?_
  refine st (s_move rfl) rfl ?_
  refine sg1 rfl rfl (s_loadB 7 rfl rfl rfl) rfl ?_
  refine sg1 rfl rfl (s_callk (rOf_ok _ (by omega) (by omega)) rfl ⟨VT.le_refl _, trivial⟩) rfl ?_
  refine sg1 rfl rfl (sT (by omega) (s_callk (rSame_ok _ _) rfl ⟨VT.le_refl _, VT.le_refl _, trivial⟩)) rfl ?_
  refine st (s_pickT rfl rfl) rfl ?_
  refine Run.nil ?_
  refine st (s_assign rfl) rfl ?_
  refine Run.nil ?_
  refine pj_then ?_
  refine J_seq ?_
  refine J_reg ?_
  refine st (s_move rfl) rfl ?_
  refine st (sT (by omega) (s_eq rfl rfl)) rfl ?_
  refine st (s_move rfl) rfl ?_
  refine sg1 rfl rfl (s_move rfl) rfl ?_
  refine sg1 rfl rfl (sT (by omega) (s_eq rfl rfl)) rfl ?_
  refine st (s_pickT rfl rfl) rfl ?_
  refine st (s_move rfl) rfl ?_
  refine sg1 rfl rfl (s_move rfl) rfl ?_
  refine sg1 rfl rfl (sT (by omega) (s_eq rfl rfl)) rfl ?_
  refine st (s_pickT rfl rfl) rfl ?_
  refine st (s_move rfl) rfl ?_
  refine sg1 rfl rfl (s_move rfl) rfl ?_
  refine sg1 rfl rfl (sT (by omega) (s_eq rfl rfl)) rfl ?_
  refine st (s_pickT rfl rfl) rfl ?_
  refine st (s_move rfl) rfl ?_
  refine sg1 rfl rfl (s_move rfl) rfl ?_
  refine sg1 rfl rfl (sT (rfl) (s_eq rfl rfl)) rfl ?_
  refine st (s_pickT rfl rfl) rfl ?_
  refine st (s_move rfl) rfl ?_
  refine sg1 rfl rfl (s_move rfl) rfl ?_
  refine sg1 rfl rfl (sT (by omega) (s_eq rfl rfl)) rfl ?_
  refine st (s_pickT rfl rfl) rfl ?_
  refine st (s_assign rfl) rfl ?_
  refine Run.nil ?_
  refine pj_then ?_
  refine J_seq ?_
  refine J_regd 43 mixed (by kernel_rfl) (by decide) ?_
  refine st (s_move rfl) rfl ?_
  refine st (s_move rfl) rfl ?_
  refine sg1 rfl rfl (s_move rfl) rfl ?_
  refine st (s_pickT rfl rfl) rfl ?_
  refine st (s_move rfl) rfl ?_
  refine sg1 rfl rfl (s_move rfl) rfl ?_
  refine sg1 rfl rfl (sT (rfl) (s_eq rfl rfl)) rfl ?_
  refine st (s_pickT rfl rfl) rfl ?_
  refine st (s_move rfl) rfl ?_
  refine sg1 rfl rfl (s_loadW 2 rfl rfl) rfl ?_
  refine sg1 rfl rfl (s_callk (rat_ok _ _ (by omega) (by omega) (by omega) (by omega) (by omega)) rfl ⟨VT.le_refl _, VT.le_refl _, trivial⟩) rfl ?_
  refine sg1 rfl rfl (sT (rfl) (s_callk (rqSame_ok _ _) rfl ⟨VT.le_refl _, VT.le_refl _, trivial⟩)) rfl ?_
  refine st (s_pickT rfl rfl) rfl ?_
  refine st (s_move rfl) rfl ?_
  refine stBg rfl rfl rfl rfl rfl ?_
  refine BuildK.cons rfl rfl rfl ?_
  refine BuildK.nil ?_
  refine stBg rfl rfl rfl rfl rfl ?_
  refine BuildK.cons rfl rfl rfl ?_
  refine BuildK.cons rfl rfl rfl ?_
  refine BuildK.nil ?_
  refine stSg rfl rfl rfl rfl rfl rfl ?_
  refine PartsK.cons rfl ?_
  refine PartsK.cons rfl ?_
  refine PartsK.nil ?_
  refine sg1 rfl rfl (s_callk (p1 ) rfl ⟨(res2_le rfl rfl), trivial⟩) rfl ?_
  refine sg1 rfl rfl (s_callk (rOf_ok _ (by omega) (by omega)) rfl ⟨VT.le_refl _, trivial⟩) rfl ?_
  refine sg1 rfl rfl (sT (rfl) (s_callk (rSame_ok _ _) rfl ⟨VT.le_refl _, VT.le_refl _, trivial⟩)) rfl ?_
  refine st (s_pickT rfl rfl) rfl ?_
  refine st (s_move rfl) rfl ?_
  refine sg1 rfl rfl (s_callk (p2 ) rfl ⟨(res0_le), trivial⟩) rfl ?_
  refine sg1 rfl rfl (s_callk (rOf_ok _ (by omega) (by omega)) rfl ⟨VT.le_refl _, trivial⟩) rfl ?_
  refine sg1 rfl rfl (sT (rfl) (s_callk (rSame_ok _ _) rfl ⟨VT.le_refl _, VT.le_refl _, trivial⟩)) rfl ?_
  refine st (s_pickT rfl rfl) rfl ?_
  refine st (s_move rfl) rfl ?_
  refine stBg rfl rfl rfl rfl rfl ?_
  refine BuildK.cons rfl rfl rfl ?_
  refine BuildK.cons rfl rfl rfl ?_
  refine BuildK.nil ?_
  refine stSg rfl rfl rfl rfl rfl rfl ?_
  refine PartsK.cons rfl ?_
  refine PartsK.nil ?_
  refine sg1 rfl rfl (s_callk (rOf_ok _ (by omega) (by omega)) rfl ⟨VT.le_refl _, trivial⟩) rfl ?_
  refine sg1 rfl rfl (s_callk (k1 ) rfl ⟨(res1g_le rfl), VT.le_refl _, trivial⟩) rfl ?_
  refine st (s_pickT rfl rfl) rfl ?_
  refine st (s_move rfl) rfl ?_
  refine stBg rfl rfl rfl rfl rfl ?_
  refine BuildK.cons rfl rfl rfl ?_
  refine BuildK.cons rfl rfl rfl ?_
  refine BuildK.nil ?_
  refine stSg rfl rfl rfl rfl rfl rfl ?_
  refine PartsK.cons rfl ?_
  refine PartsK.nil ?_
  refine sg1 rfl rfl (s_callk (rOf_ok _ (by omega) (by omega)) rfl ⟨VT.le_refl _, trivial⟩) rfl ?_
  refine sg1 rfl rfl (s_callk (k2 ) rfl ⟨(res1g_le rfl), VT.le_refl _, trivial⟩) rfl ?_
  refine sg1 rfl rfl (s_not rfl) rfl ?_
  refine st (s_pickT rfl rfl) rfl ?_
  refine st (s_move rfl) rfl ?_
  refine sg1 rfl rfl (s_callk (rOf_ok _ (by omega) (by omega)) rfl ⟨VT.le_refl _, trivial⟩) rfl ?_
  refine sg1 rfl rfl (s_callk (k3 ) rfl ⟨(res0_le), VT.le_refl _, trivial⟩) rfl ?_
  refine st (s_pickT rfl rfl) rfl ?_
  refine Run.nil ?_
  refine st (s_assign rfl) rfl ?_
  refine Run.nil ?_
  refine pj_then ?_
  refine J_ret ?_
  refine retc1 Try.results11 (.tmp rfl (VT.le_refl _))
end Tor
end

section
set_option linter.unusedVariables false
set_option linter.unusedSimpArgs false
namespace Tor
open Go Go.RowKit Go.Proofs
theorem madeL_len (l : List (Nat × Nat)) : (madeL l).length ≤ l.length := by
  have := made_len l []
  unfold madeL; simpa using this
theorem prod_le {l : List (Nat × Nat)} (h : MadeR l) (hl : l.length ≤ 16) : prodN l ≤ 2 ^ 1024 := by
  have := prodN_le h.res64 l.length (Nat.le_refl _)
  rw [List.take_length] at this
  exact Nat.le_trans this (Nat.pow_le_pow_right (n := 2) (i := 64 * l.length) (j := 1024) (by decide) (by omega))
theorem Comb.le {l : List (Nat × Nat)} {x : Int} (h : Comb l x) : x.natAbs ≤ prodN l := by
  have h1 := h.hi
  have h2 := h.lo
  omega
attribute [local irreducible] Tor.J Tor.PJ Tor.StepO Tor.one Tor.slT Tor.ptrT Tor.aggT Tor.tupT Tor.exT Tor.andT Tor.gT Tor.eP Tor.boxO Tor.sliO Tor.slV Tor.VT.le Tor.Ret Tor.anyT Tor.mapO Tor.metT
set_option maxHeartbeats 4000000 in
theorem combinesLaw_ok (l : List (Nat × Nat)) (h64 : Raw64 l) : Ok Try.prog 4 [rawsT l] (one (.bool true)) := by
  have hs := sanity_ok
  have hmd := rMadeL_ok l 10 h64 (by decide)
  have hm := madeR (l.take 10)
  have hl : (madeL (l.take 10)).length ≤ 16 := by have := madeL_len (l.take 10); rw [List.length_take] at this; omega
  generalize madeL (l.take 10) = r at *
  have hc := Combine_ok r hm.res64 hl hm.valid
  have hco := hm.comb
  generalize combI r = x at *
  have hp := rProd_ok r hm.res64 hl
  have hple := prod_le hm hl
  have sx : small0 x := small0_lt (Nat.lt_of_le_of_lt (Nat.le_trans hco.le hple) (Nat.pow_lt_pow_right (a := 2) (m := 1024) (n := 2048) (by decide) (by decide)))
  have sp : small0 (prodN r : Int) := small0_pow hple (by decide)
  have hv := rValidI_ok x sx.small
  have hcs := rCons_ok r x hm.goodR hm.nd sx
  rw [(consB_iff (fun p hp => (hm.goodR p hp).1)).2 hco.res] at hcs
  have had := rAddI_ok x x sx.small sx.small
  have h1 := hco.hi
  have h2 := hco.lo
  have sxx : small0 (x + x) := small0_abs sp (by omega)
  have hc1 := rCmpI_ok (x + x) (prodN r : Int) sxx.small sp.small
  have hng := rNegI_ok (prodN r : Int) sp.small
  have sn : small0 (-(prodN r : Int)) := small0_abs sp (by omega)
  have hc2 := rCmpI_ok (x + x) (-(prodN r : Int)) sxx.small sn.small
  have e1 : cmpI (x + x) (prodN r : Int) ≤ 0 := by unfold cmpI; split <;> (try split) <;> omega
  have e2 : 0 < cmpI (x + x) (-(prodN r : Int)) := by unfold cmpI; rw [if_neg (by omega), if_pos (by omega)]; decide
  refine Ok.enter Try.func4 rfl Try.ntmps4 rfl (fun w O => ?_)
  refine J_seq ?_
  refine J_reg ?_
  refine st (s_assign rfl) rfl ?_
  refine Run.nil ?_
  refine pj_then ?_
  refine J_seq ?_
  refine J_reg ?_
  refine st (s_callk (hs ) rfl trivial) rfl ?_
  refine st (s_assign rfl) rfl ?_
  refine Run.nil ?_
  refine pj_then ?_
  refine J_seq ?_
  refine J_reg ?_
  refine st (s_move rfl) rfl ?_
  refine st (s_callk (hmd ) rfl ⟨VT.le_refl _, VT.le_refl _, trivial⟩) rfl ?_
  refine st (s_assign rfl) rfl ?_
  refine Run.nil ?_
  refine pj_then ?_
  refine J_seq ?_
  refine J_reg ?_
  refine st (s_move rfl) rfl ?_
  refine st (s_callk (hc ) rfl ⟨VT.le_refl _, trivial⟩) rfl ?_
  refine st (s_move rfl) rfl ?_
  refine st (s_extract rfl rfl) rfl ?_
  refine st (s_extract rfl rfl) rfl ?_
  refine a_alloc (T := 29) rfl (ltN rfl) (fun b5 => ?_)
  refine a_storeB 0 rfl rfl rfl rfl rfl (leN rfl) rfl ?_
  refine st (s_assign rfl) rfl ?_
  refine Run.nil ?_
  refine pj_then ?_
  refine J_seq ?_
  refine J_seq ?_
  refine J_reg ?_
  refine st (s_move rfl) rfl ?_
  refine st (sF (by omega) (s_ne rfl rfl)) rfl ?_
  refine st (s_move rfl) rfl ?_
  refine sg1 rfl rfl (s_loadB 0 rfl rfl rfl) rfl ?_
  refine sg1 rfl rfl (s_callk (hv ) rfl ⟨VT.le_refl _, trivial⟩) rfl ?_
  refine sg1 rfl rfl (s_not rfl) rfl ?_
  refine st (s_pickF rfl rfl) rfl ?_
  refine Run.nil ?_
  refine pj_then ?_
  refine J_cond0 rfl ?_
  refine J_skip ?_
  refine pj_then ?_
  refine J_seq ?_
  refine J_regU2 mixed (by kernel_rfl) (by kernel_rfl) ?_
  refine ux (fun B => s_move rfl) rfl rfl ?_
  refine uxk (hp ) rfl ⟨VT.le_refl _, trivial⟩ rfl ?_
  refine ux (fun B => s_loadB 0 rfl rfl rfl) rfl rfl ?_
  refine ux (fun B => s_loadB 0 rfl rfl rfl) rfl rfl ?_
  refine uxk (had ) rfl ⟨VT.le_refl _, VT.le_refl _, trivial⟩ rfl ?_
  refine ua rfl ?_
  refine ua rfl ?_
  refine us rfl ?_
  refine us rfl ?_
  refine RunU.nil (fun γ => ?_)
  refine PJ_normM (M' := [_, _, _]) rfl ?_
  refine pj_then ?_
  refine J_seq ?_
  refine J_regd 19 mixed (by kernel_rfl) (by decide) ?_
  refine st (s_move rfl) rfl ?_
  refine st (s_loadB 2 rfl rfl rfl) rfl ?_
  refine st (s_callk (hcs ) rfl ⟨VT.le_refl _, VT.le_refl _, trivial⟩) rfl ?_
  refine st (s_move rfl) rfl ?_
  refine sg1 rfl rfl (s_loadB 0 rfl rfl rfl) rfl ?_
  refine sg1 rfl rfl (s_loadB 1 rfl rfl rfl) rfl ?_
  refine sg1 rfl rfl (s_callk (hc1 ) rfl ⟨VT.le_refl _, VT.le_refl _, trivial⟩) rfl ?_
  refine sg1 rfl rfl (sT (by assumption) (s_le rfl rfl)) rfl ?_
  refine st (s_pickT rfl rfl) rfl ?_
  refine st (s_move rfl) rfl ?_
  refine sg1 rfl rfl (s_loadB 0 rfl rfl rfl) rfl ?_
  refine sg1 rfl rfl (s_loadB 1 rfl rfl rfl) rfl ?_
  refine sg1 rfl rfl (s_callk (hng ) rfl ⟨VT.le_refl _, trivial⟩) rfl ?_
  refine sg1 rfl rfl (s_callk (hc2 ) rfl ⟨VT.le_refl _, VT.le_refl _, trivial⟩) rfl ?_
  refine sg1 rfl rfl (sT (by assumption) (s_gt rfl rfl)) rfl ?_
  refine st (s_pickT rfl rfl) rfl ?_
  refine st (s_move rfl) rfl ?_
  refine sg1 rfl rfl (s_move rfl) rfl ?_
  refine st (s_pickT rfl rfl) rfl ?_
  refine Run.nil ?_
  refine st (s_assign rfl) rfl ?_
  refine Run.nil ?_
  refine pj_then ?_
  refine J_ret ?_
  refine retc1 Try.results4 (.tmp rfl (VT.le_refl _))
theorem raw_of {l : List (Nat × Nat)} (h : (∀ p ∈ l, (p.1 : Int) ≤ IntKind.max .u8 ∧ (p.2 : Int) ≤ IntKind.max .u32) ∧ True) : Raw64 l := fun p hp => by
  have := h.1 p hp
  simp only [IntKind.max, IntKind.signed, IntKind.bits] at this
  simp at this
  omega
theorem combinesLawY_ok (l : List (Nat × Nat)) (h : (∀ p ∈ l, (p.1 : Int) ≤ IntKind.max .u8 ∧ (p.2 : Int) ≤ IntKind.max .u32) ∧ True) : Ok Try.prog 4 [rawsT l] (one (.bool true)) := combinesLaw_ok l (raw_of h)
end Tor
end

section
set_option linter.unusedVariables false
set_option linter.unusedSimpArgs false
namespace Tor
open Go Go.RowKit Go.Proofs
/-- A number by its limbs and its sign. -/
def numP (l : List Nat) (n : Bool) : VT := aggT 2 [(0, .one, limT l), (1, .one, one (.bool n))]
def numI (l : List Nat) (n : Bool) (k : Nat) : Int := if n then -(lv (l.take k) : Int) else (lv (l.take k) : Int)
instance {l : List Nat} {n : Bool} : Flat (numP l n) (.agg 2) := by unfold numP; infer_instance
theorem numI_le {l : List Nat} {n : Bool} {k : Nat} (h : Limbs l) : (numI l n k).natAbs < 2 ^ (32 * k) := by
  have := lv_take_lt h k
  unfold numI
  cases n
  · rw [if_neg (by decide)]; omega
  · rw [if_pos rfl]; omega
theorem take_natS {l : List Nat} {k : Nat} {m : Int} (h : Limbs l) (hk : k ≤ 16) (hm : m = min (l.length : Int) k) : VT.le (slT .one (m - 0).toNat (fun i => one (.int .u32 (l.getD (Int.toNat 0 + i) 0 : Nat)))) (natS (lv (l.take k))) := by
  refine VT.le_trans (slT_le' (m := (l.take k).length) (ψ := limF (l.take k)) (by rw [List.length_take]; omega) (fun i hi => ?_)) (natS_of (h.take k) rfl (by rw [List.length_take]; omega))
  have e : Int.toNat 0 + i = i := Nat.zero_add i
  unfold limF
  rw [e]
  have : i < k := by omega
  simp [List.getD, List.getElem?_take, this]
theorem mem_ofL {l : List (Nat × Nat)} {a : Int} {q : Nat × Nat} : q ∈ ofL l a ↔ ∃ p ∈ l, q = (p.1, (a % (p.1 : Int)).toNat) := by
  unfold ofL; rw [List.mem_map]
  constructor
  · rintro ⟨p, h1, h2⟩; exact ⟨p, h1, h2.symm⟩
  · rintro ⟨p, h1, h2⟩; exact ⟨p, h1, h2.symm⟩
theorem MadeR.ofL {l : List (Nat × Nat)} (h : MadeR l) (a : Int) : MadeR (ofL l a) := by
  refine ⟨fun q hq => ?_, ?_⟩
  · obtain ⟨p, hp, rfl⟩ := mem_ofL.1 hq
    obtain ⟨h1, h2⟩ := h.good p hp
    have h3 := (somes_rng _ h1).1
    refine ⟨h1, ?_⟩
    have := Int.emod_lt_of_pos a (show 0 < (p.1 : Int) by omega)
    have := Int.emod_nonneg a (show (p.1 : Int) ≠ 0 by omega)
    show (a % (p.1 : Int)).toNat < p.1
    omega
  · have e : (Tor.ofL l a).map (·.1) = l.map (·.1) := by unfold Tor.ofL; rw [List.map_map]; rfl
    rw [e]; exact h.nd
theorem prod_ofL (l : List (Nat × Nat)) (a : Int) : prodN (ofL l a) = prodN l := by
  unfold prodN ofL; rw [List.foldl_map]
/-- The remainder around 0. -/
def centr (a : Int) (m : Nat) : Int := if (m : Int) < a % (m : Int) + a % (m : Int) then a % (m : Int) - (m : Int) else a % (m : Int)
theorem comb_ofL {l : List (Nat × Nat)} (h : MadeR l) (a : Int) : combI (ofL l a) = centr a (prodN l) := by
  have hM := h.pos
  refine Comb.uniq (h.ofL a) (h.ofL a).comb ⟨fun q hq => ?_, ?_, ?_⟩
  · obtain ⟨p, hp, rfl⟩ := mem_ofL.1 hq
    have h3 := (somes_rng _ (h.good p hp).1).1
    have hn := Int.emod_nonneg a (show (p.1 : Int) ≠ 0 by omega)
    have hd : (p.1 : Int) ∣ (prodN l : Int) := Int.natCast_dvd_natCast.2 (MadeR.dvd hp)
    have hr : a % (prodN l : Int) % (p.1 : Int) = a % (p.1 : Int) := Int.emod_emod_of_dvd _ hd
    show centr a (prodN l) % (p.1 : Int) = ((a % (p.1 : Int)).toNat : Int)
    rw [Int.toNat_of_nonneg hn]
    unfold centr
    split
    · obtain ⟨k, hk⟩ := hd
      rw [hk] at hr ⊢
      rw [Int.sub_mul_emod_self_left]; exact hr
    · exact hr
  · rw [prod_ofL]
    have h1 := Int.emod_nonneg a (show (prodN l : Int) ≠ 0 by omega)
    have h2 := Int.emod_lt_of_pos a (show 0 < (prodN l : Int) by omega)
    unfold centr; split <;> omega
  · rw [prod_ofL]
    have h1 := Int.emod_nonneg a (show (prodN l : Int) ≠ 0 by omega)
    have h2 := Int.emod_lt_of_pos a (show 0 < (prodN l : Int) by omega)
    unfold centr; split <;> omega
theorem cons_ofL {l : List (Nat × Nat)} (h : MadeR l) (a b : Int) : consB (ofL l a) b = decide ((a - b) % (prodN l : Int) = 0) := by
  have hM := h.pos
  have hiff : consB (ofL l a) b = true ↔ (a - b) % (prodN l : Int) = 0 := by
    rw [consB_iff (fun q hq => ((h.ofL a).goodR q hq).1)]
    constructor
    · intro hr
      refine Int.emod_eq_zero_of_dvd (h.allI fun p hp => ?_)
      have h1 := hr _ (mem_ofL.2 ⟨p, hp, rfl⟩)
      have h3 := (somes_rng _ (h.good p hp).1).1
      have hn := Int.emod_nonneg a (show (p.1 : Int) ≠ 0 by omega)
      dsimp only at h1
      rw [Int.toNat_of_nonneg hn] at h1
      exact Int.dvd_of_emod_eq_zero (by rw [Int.sub_emod, h1, Int.sub_self, Int.zero_emod])
    · intro hz q hq
      obtain ⟨p, hp, rfl⟩ := mem_ofL.1 hq
      have h3 := (somes_rng _ (h.good p hp).1).1
      have hn := Int.emod_nonneg a (show (p.1 : Int) ≠ 0 by omega)
      dsimp only
      rw [Int.toNat_of_nonneg hn]
      have hd : (p.1 : Int) ∣ a - b := Int.dvd_trans (Int.natCast_dvd_natCast.2 (MadeR.dvd hp)) (Int.dvd_of_emod_eq_zero hz)
      obtain ⟨k, hk⟩ := hd
      rw [show a = b + (p.1 : Int) * k by omega, Int.add_mul_emod_self_left]
  by_cases c : (a - b) % (prodN l : Int) = 0
  · rw [decide_eq_true c]; exact hiff.2 c
  · rw [decide_eq_false c, ← Bool.not_eq_true]; exact fun k => c (hiff.1 k)
theorem gap_eq {g : Int} : (decide (g = 0) == decide (sgnI g = 0)) = true := by
  unfold sgnI
  by_cases h : g = 0
  · rw [if_pos h, h]; rfl
  · rw [if_neg h, decide_eq_false h]; split <;> rfl
attribute [local irreducible] Tor.J Tor.PJ Tor.StepO Tor.one Tor.slT Tor.ptrT Tor.aggT Tor.tupT Tor.exT Tor.andT Tor.gT Tor.eP Tor.boxO Tor.sliO Tor.slV Tor.VT.le Tor.Ret Tor.anyT Tor.mapO Tor.metT
set_option maxHeartbeats 4000000 in
theorem number_ok (l : List Nat) (n : Bool) (k : Nat) (h : Limbs l) (hk : k ≤ 16) : Ok Try.prog 12 [numP l n, one (.int .i64 (k : Int))] (bigT (numI l n k)) := by
  have hmd := rMade_ok n (lv (l.take k))
  unfold numP
  refine Ok.enter Try.func12 rfl Try.ntmps12 rfl (fun w O => ?_)
  refine J_seq ?_
  refine J_reg ?_
  refine a_boxS rfl rfl (ltN rfl) (fun b2 => ?_)
  refine a_alloc (T := 29) rfl (ltN rfl) (fun b4 => ?_)
  refine Run.nil ?_
  refine pj_then ?_
  refine J_seq ?_
  refine J_regd 11 mixed (by kernel_rfl) (by decide) ?_
  refine st (s_fieldAddr rfl) rfl ?_
  refine st (s_loadB 1 rfl rfl rfl) rfl ?_
  refine st (s_fieldAddr rfl) rfl ?_
  refine st (s_loadB 1 rfl rfl rfl) rfl ?_
  refine st (s_len rfl) rfl ?_
  refine st (s_move rfl) rfl ?_
  refine st (s_min rfl rfl) rfl ?_
  refine st (s_slice rfl rfl rfl rfl (fun _ => rfl) (by omega) (by omega) (by omega) (by omega)) rfl ?_
  refine st (s_fieldAddr rfl) rfl ?_
  refine st (s_loadB 1 rfl rfl rfl) rfl ?_
  refine st (s_callk (hmd ) rfl ⟨(take_natS h hk rfl), VT.le_refl _, trivial⟩) rfl ?_
  refine Run.nil ?_
  refine a_storeB 0 rfl rfl rfl rfl rfl (leN rfl) rfl ?_
  refine Run.nil ?_
  refine pj_then ?_
  refine J_ret ?_
  refine retc1 Try.results12 (.cellB 0 rfl rfl rfl (VT.le_refl _))
set_option maxHeartbeats 4000000 in
theorem recoversLaw_ok (l : List (Nat × Nat)) (x : List Nat) (xn : Bool) (y : List Nat) (yn : Bool) (h64 : Raw64 l) (hx : Limbs x) (hy : Limbs y) : Ok Try.prog 6 [rawsT l, numP x xn, numP y yn] (one (.bool true)) := by
  have hs := sanity_ok
  have hmd := rMadeL_ok l 10 h64 (by decide)
  have hm := madeR (l.take 10)
  have hl : (madeL (l.take 10)).length ≤ 16 := by have := madeL_len (l.take 10); rw [List.length_take] at this; omega
  generalize madeL (l.take 10) = r at *
  have hn1 := number_ok x xn 8 hx (by decide)
  have hn2 := number_ok y yn 8 hy (by decide)
  have ha := numI_le (n := xn) (k := 8) hx
  have hb := numI_le (n := yn) (k := 8) hy
  generalize numI x xn 8 = a at *
  generalize numI y yn 8 = b at *
  have hM := hm.pos
  have hple := prod_le hm hl
  have hp := rProd_ok r hm.res64 hl
  have hcl := cons_ofL hm a b
  have hcomb := comb_ofL hm a
  have hmo := hm.ofL a
  have hco := Combine_ok (ofL r a) hmo.res64 (by rw [ofL_len]; exact hl) hmo.valid
  have sa : small0 a := small0_lt (Nat.lt_of_lt_of_le ha (Nat.pow_le_pow_right (n := 2) (i := 32 * 8) (j := 2048) (by decide) (by decide)))
  have sb : small0 b := small0_lt (Nat.lt_of_lt_of_le hb (Nat.pow_le_pow_right (n := 2) (i := 32 * 8) (j := 2048) (by decide) (by decide)))
  have hof := rOfL_ok r a hm.goodR hl sa
  have hcs := Consistent_ok (ofL r a) b hmo.res64 sb.small
  rw [hmo.valid, Bool.true_and, hcl] at hcs
  rw [hcomb] at hco
  have sM : small0 (prodN r : Int) := small0_pow hple (by decide)
  generalize prodN r = M at *
  have hd1 := rDivMod_ok a (M : Int) (by omega) sa sM
  have n1 := Int.emod_nonneg a (show (M : Int) ≠ 0 by omega)
  have n2 := Int.emod_lt_of_pos a (show 0 < (M : Int) by omega)
  obtain ⟨t, ht⟩ : ∃ t, t = a % (M : Int) := ⟨_, rfl⟩
  unfold centr at hco
  rw [← ht] at hd1 n1 n2 hco
  have st0 : small t := small_abs' sM.small (by omega)
  have had := rAddI_ok t t st0 st0
  have stt : small (t + t) := by
    have e : t + t = t * 2 := by omega
    exact small_lt (Nat.lt_of_le_of_lt (show (t + t).natAbs ≤ 2 ^ 1024 + 2 ^ 1024 by generalize 2 ^ 1024 = z at *; omega) (by rw [← pw_two 1024 1025 rfl]; exact Nat.pow_lt_pow_right (a := 2) (m := 1025) (n := 2048) (by decide) (by decide)))
  have hcm := rCmpI_ok (t + t) (M : Int) stt sM.small
  have hsub := rSubI_ok t (M : Int) st0 sM.small
  have hab := rSubI_ok a b sa.small sb.small
  have sab : small0 (a - b) := small0_lt (Nat.lt_of_le_of_lt (show (a - b).natAbs ≤ 2 ^ (32 * 8) + 2 ^ (32 * 8) by generalize 2 ^ (32 * 8) = z at *; omega) (by rw [← pw_two (32 * 8) 257 rfl]; exact Nat.pow_lt_pow_right (a := 2) (m := 257) (n := 2048) (by decide) (by decide)))
  have hd2 := rDivMod_ok (a - b) (M : Int) (by omega) sab sM
  have hsg := rSignI_ok ((a - b) % (M : Int))
  refine Ok.enter Try.func6 rfl Try.ntmps6 rfl (fun w O => ?_)
  by_cases c : (M : Int) < t + t
  · have hcc : 0 < cmpI (t + t) (M : Int) := by unfold cmpI; rw [if_neg (by omega), if_pos c]; decide
    rw [if_pos c] at hco
    have hsm := rSame_ok (t - (M : Int)) (t - (M : Int))
    rw [decide_eq_true rfl] at hsm
    refine J_seq ?_
    refine J_reg ?_
    refine a_boxS rfl rfl (ltN rfl) (fun b4 => ?_)
    refine a_boxS rfl rfl (ltN rfl) (fun b5 => ?_)
    refine st (s_assign rfl) rfl ?_
    refine Run.nil ?_
    refine pj_then ?_
    refine J_seq ?_
    refine J_reg ?_
    refine st (s_callk (hs ) rfl trivial) rfl ?_
    refine st (s_assign rfl) rfl ?_
    refine Run.nil ?_
    refine pj_then ?_
    refine J_seq ?_
    refine J_regU2 mixed (by kernel_rfl) (by kernel_rfl) ?_
    refine ux (fun B => s_move rfl) rfl rfl ?_
    refine uxk (hmd ) rfl ⟨VT.le_refl _, VT.le_refl _, trivial⟩ rfl ?_
    refine ux (fun B => s_loadW 1 rfl rfl) rfl rfl ?_
    refine uxk (hn1 ) rfl ⟨VT.le_refl _, VT.le_refl _, trivial⟩ rfl ?_
    refine ux (fun B => s_loadW 0 rfl rfl) rfl rfl ?_
    refine uxk (hn2 ) rfl ⟨VT.le_refl _, VT.le_refl _, trivial⟩ rfl ?_
    refine ua rfl ?_
    refine ua rfl ?_
    refine ux (fun B => s_assign rfl) rfl rfl ?_
    refine us rfl ?_
    refine us rfl ?_
    refine RunU.nil (fun γ => ?_)
    refine PJ_normM (M' := [_, _, _, _]) rfl ?_
    refine pj_then ?_
    refine J_seq ?_
    refine J_reg ?_
    refine st (s_move rfl) rfl ?_
    refine st (s_callk (hp ) rfl ⟨VT.le_refl _, trivial⟩) rfl ?_
    refine a_alloc (T := 29) rfl (ltN rfl) (fun b11 => ?_)
    refine a_storeB 0 rfl rfl rfl rfl rfl (leN rfl) rfl ?_
    refine Run.nil ?_
    refine pj_then ?_
    refine J_seq ?_
    refine J_reg ?_
    refine st (s_loadB 2 rfl rfl rfl) rfl ?_
    refine st (s_loadB 0 rfl rfl rfl) rfl ?_
    refine st (s_callk (hd1 ) rfl ⟨VT.le_refl _, VT.le_refl _, trivial⟩) rfl ?_
    refine st (s_move rfl) rfl ?_
    refine st (s_extract rfl rfl) rfl ?_
    refine st (s_extract rfl rfl) rfl ?_
    refine st (s_extract rfl rfl) rfl ?_
    refine a_alloc (T := 29) rfl (ltN rfl) (fun b12 => ?_)
    refine a_alloc (T := 29) rfl (ltN rfl) (fun b13 => ?_)
    refine a_storeB 1 rfl rfl rfl rfl rfl (leN rfl) rfl ?_
    refine a_storeB 0 rfl rfl rfl rfl rfl (leN rfl) rfl ?_
    refine st (s_assign rfl) rfl ?_
    refine Run.nil ?_
    refine pj_then ?_
    refine J_seq ?_
    refine J_seq ?_
    refine J_regd 6 mixed (by kernel_rfl) (by decide) ?_
    refine st (s_loadB 0 rfl rfl rfl) rfl ?_
    refine st (s_loadB 0 rfl rfl rfl) rfl ?_
    refine st (s_callk (had ) rfl ⟨VT.le_refl _, VT.le_refl _, trivial⟩) rfl ?_
    refine st (s_loadB 2 rfl rfl rfl) rfl ?_
    refine st (s_callk (hcm ) rfl ⟨VT.le_refl _, VT.le_refl _, trivial⟩) rfl ?_
    refine st (sT (by assumption) (s_gt rfl rfl)) rfl ?_
    refine Run.nil ?_
    refine Run.nil ?_
    refine pj_then ?_
    refine J_cond1 rfl ?_
    refine J_reg ?_
    refine st (s_loadB 0 rfl rfl rfl) rfl ?_
    refine st (s_loadB 2 rfl rfl rfl) rfl ?_
    refine st (s_callk (hsub ) rfl ⟨VT.le_refl _, VT.le_refl _, trivial⟩) rfl ?_
    refine a_storeB 0 rfl rfl rfl rfl rfl (leN rfl) rfl ?_
    refine Run.nil ?_
    refine pj_then ?_
    refine J_seq ?_
    refine J_reg ?_
    refine st (s_move rfl) rfl ?_
    refine st (s_loadB 4 rfl rfl rfl) rfl ?_
    refine st (s_callk (hof ) rfl ⟨VT.le_refl _, VT.le_refl _, trivial⟩) rfl ?_
    refine st (s_callk (hco ) rfl ⟨VT.le_refl _, trivial⟩) rfl ?_
    refine st (s_move rfl) rfl ?_
    refine st (s_extract rfl rfl) rfl ?_
    refine st (s_extract rfl rfl) rfl ?_
    refine a_alloc (T := 29) rfl (ltN rfl) (fun b15 => ?_)
    refine a_storeB 0 rfl rfl rfl rfl rfl (leN rfl) rfl ?_
    refine st (s_assign rfl) rfl ?_
    refine Run.nil ?_
    refine pj_then ?_
    refine J_seq ?_
    refine J_regU2 mixed (by kernel_rfl) (by kernel_rfl) ?_
    refine ux (fun B => s_loadB 5 rfl rfl rfl) rfl rfl ?_
    refine ux (fun B => s_loadB 4 rfl rfl rfl) rfl rfl ?_
    refine uxk (hab ) rfl ⟨VT.le_refl _, VT.le_refl _, trivial⟩ rfl ?_
    refine ux (fun B => s_loadB 3 rfl rfl rfl) rfl rfl ?_
    refine uxk (hd2 ) rfl ⟨VT.le_refl _, VT.le_refl _, trivial⟩ rfl ?_
    refine ux (fun B => s_move rfl) rfl rfl ?_
    refine ux (fun B => s_extract rfl rfl) rfl rfl ?_
    refine ux (fun B => s_extract rfl rfl) rfl rfl ?_
    refine ux (fun B => s_extract rfl rfl) rfl rfl ?_
    refine ua rfl ?_
    refine ua rfl ?_
    refine us rfl ?_
    refine us rfl ?_
    refine ux (fun B => s_assign rfl) rfl rfl ?_
    refine RunU.nil (fun γ => ?_)
    refine PJ_normM (M' := [_, _, _, _, _, _, _, _, _, _]) rfl ?_
    refine pj_then ?_
    refine J_seq ?_
    refine J_regd 21 mixed (by kernel_rfl) (by decide) ?_
    refine st (s_move rfl) rfl ?_
    refine st (sT (by omega) (s_eq rfl rfl)) rfl ?_
    refine st (s_move rfl) rfl ?_
    refine sg1 rfl rfl (s_loadB 2 rfl rfl rfl) rfl ?_
    refine sg1 rfl rfl (s_loadB 3 rfl rfl rfl) rfl ?_
    refine sg1 rfl rfl (s_callk (hsm ) rfl ⟨VT.le_refl _, VT.le_refl _, trivial⟩) rfl ?_
    refine st (s_pickT rfl rfl) rfl ?_
    refine st (s_move rfl) rfl ?_
    refine sg1 rfl rfl (s_move rfl) rfl ?_
    refine sg1 rfl rfl (s_loadB 7 rfl rfl rfl) rfl ?_
    refine sg1 rfl rfl (s_callk (hof ) rfl ⟨VT.le_refl _, VT.le_refl _, trivial⟩) rfl ?_
    refine sg1 rfl rfl (s_loadB 6 rfl rfl rfl) rfl ?_
    refine sg1 rfl rfl (s_callk (hcs ) rfl ⟨VT.le_refl _, VT.le_refl _, trivial⟩) rfl ?_
    refine sg1 rfl rfl (s_loadB 0 rfl rfl rfl) rfl ?_
    refine sg1 rfl rfl (s_callk (hsg ) rfl ⟨VT.le_refl _, trivial⟩) rfl ?_
    refine sg1 rfl rfl (s_eq rfl rfl) rfl ?_
    refine sg1 rfl rfl (sBt (gap_eq) (s_eqB rfl rfl)) rfl ?_
    refine st (s_pickT rfl rfl) rfl ?_
    refine st (s_move rfl) rfl ?_
    refine sg1 rfl rfl (s_move rfl) rfl ?_
    refine st (s_pickT rfl rfl) rfl ?_
    refine Run.nil ?_
    refine st (s_assign rfl) rfl ?_
    refine Run.nil ?_
    refine pj_then ?_
    refine J_ret ?_
    refine retc1 Try.results6 (.tmp rfl (VT.le_refl _))
  · have hcc : ¬ 0 < cmpI (t + t) (M : Int) := by unfold cmpI; split <;> (try split) <;> omega
    rw [if_neg c] at hco
    have hsm := rSame_ok t t
    rw [decide_eq_true rfl] at hsm
    refine J_seq ?_
    refine J_reg ?_
    refine a_boxS rfl rfl (ltN rfl) (fun b4 => ?_)
    refine a_boxS rfl rfl (ltN rfl) (fun b5 => ?_)
    refine st (s_assign rfl) rfl ?_
    refine Run.nil ?_
    refine pj_then ?_
    refine J_seq ?_
    refine J_reg ?_
    refine st (s_callk (hs ) rfl trivial) rfl ?_
    refine st (s_assign rfl) rfl ?_
    refine Run.nil ?_
    refine pj_then ?_
    refine J_seq ?_
    refine J_regU2 mixed (by kernel_rfl) (by kernel_rfl) ?_
    refine ux (fun B => s_move rfl) rfl rfl ?_
    refine uxk (hmd ) rfl ⟨VT.le_refl _, VT.le_refl _, trivial⟩ rfl ?_
    refine ux (fun B => s_loadW 1 rfl rfl) rfl rfl ?_
    refine uxk (hn1 ) rfl ⟨VT.le_refl _, VT.le_refl _, trivial⟩ rfl ?_
    refine ux (fun B => s_loadW 0 rfl rfl) rfl rfl ?_
    refine uxk (hn2 ) rfl ⟨VT.le_refl _, VT.le_refl _, trivial⟩ rfl ?_
    refine ua rfl ?_
    refine ua rfl ?_
    refine ux (fun B => s_assign rfl) rfl rfl ?_
    refine us rfl ?_
    refine us rfl ?_
    refine RunU.nil (fun γ => ?_)
    refine PJ_normM (M' := [_, _, _, _]) rfl ?_
    refine pj_then ?_
    refine J_seq ?_
    refine J_reg ?_
    refine st (s_move rfl) rfl ?_
    refine st (s_callk (hp ) rfl ⟨VT.le_refl _, trivial⟩) rfl ?_
    refine a_alloc (T := 29) rfl (ltN rfl) (fun b11 => ?_)
    refine a_storeB 0 rfl rfl rfl rfl rfl (leN rfl) rfl ?_
    refine Run.nil ?_
    refine pj_then ?_
    refine J_seq ?_
    refine J_reg ?_
    refine st (s_loadB 2 rfl rfl rfl) rfl ?_
    refine st (s_loadB 0 rfl rfl rfl) rfl ?_
    refine st (s_callk (hd1 ) rfl ⟨VT.le_refl _, VT.le_refl _, trivial⟩) rfl ?_
    refine st (s_move rfl) rfl ?_
    refine st (s_extract rfl rfl) rfl ?_
    refine st (s_extract rfl rfl) rfl ?_
    refine st (s_extract rfl rfl) rfl ?_
    refine a_alloc (T := 29) rfl (ltN rfl) (fun b12 => ?_)
    refine a_alloc (T := 29) rfl (ltN rfl) (fun b13 => ?_)
    refine a_storeB 1 rfl rfl rfl rfl rfl (leN rfl) rfl ?_
    refine a_storeB 0 rfl rfl rfl rfl rfl (leN rfl) rfl ?_
    refine st (s_assign rfl) rfl ?_
    refine Run.nil ?_
    refine pj_then ?_
    refine J_seq ?_
    refine J_seq ?_
    refine J_regd 6 mixed (by kernel_rfl) (by decide) ?_
    refine st (s_loadB 0 rfl rfl rfl) rfl ?_
    refine st (s_loadB 0 rfl rfl rfl) rfl ?_
    refine st (s_callk (had ) rfl ⟨VT.le_refl _, VT.le_refl _, trivial⟩) rfl ?_
    refine st (s_loadB 2 rfl rfl rfl) rfl ?_
    refine st (s_callk (hcm ) rfl ⟨VT.le_refl _, VT.le_refl _, trivial⟩) rfl ?_
    refine st (sF (by assumption) (s_gt rfl rfl)) rfl ?_
    refine Run.nil ?_
    refine Run.nil ?_
    refine pj_then ?_
    refine J_cond0 rfl ?_
    refine J_skip ?_
    refine pj_then ?_
    refine J_seq ?_
    refine J_reg ?_
    refine st (s_move rfl) rfl ?_
    refine st (s_loadB 4 rfl rfl rfl) rfl ?_
    refine st (s_callk (hof ) rfl ⟨VT.le_refl _, VT.le_refl _, trivial⟩) rfl ?_
    refine st (s_callk (hco ) rfl ⟨VT.le_refl _, trivial⟩) rfl ?_
    refine st (s_move rfl) rfl ?_
    refine st (s_extract rfl rfl) rfl ?_
    refine st (s_extract rfl rfl) rfl ?_
    refine a_alloc (T := 29) rfl (ltN rfl) (fun b15 => ?_)
    refine a_storeB 0 rfl rfl rfl rfl rfl (leN rfl) rfl ?_
    refine st (s_assign rfl) rfl ?_
    refine Run.nil ?_
    refine pj_then ?_
    refine J_seq ?_
    refine J_regU2 mixed (by kernel_rfl) (by kernel_rfl) ?_
    refine ux (fun B => s_loadB 5 rfl rfl rfl) rfl rfl ?_
    refine ux (fun B => s_loadB 4 rfl rfl rfl) rfl rfl ?_
    refine uxk (hab ) rfl ⟨VT.le_refl _, VT.le_refl _, trivial⟩ rfl ?_
    refine ux (fun B => s_loadB 3 rfl rfl rfl) rfl rfl ?_
    refine uxk (hd2 ) rfl ⟨VT.le_refl _, VT.le_refl _, trivial⟩ rfl ?_
    refine ux (fun B => s_move rfl) rfl rfl ?_
    refine ux (fun B => s_extract rfl rfl) rfl rfl ?_
    refine ux (fun B => s_extract rfl rfl) rfl rfl ?_
    refine ux (fun B => s_extract rfl rfl) rfl rfl ?_
    refine ua rfl ?_
    refine ua rfl ?_
    refine us rfl ?_
    refine us rfl ?_
    refine ux (fun B => s_assign rfl) rfl rfl ?_
    refine RunU.nil (fun γ => ?_)
    refine PJ_normM (M' := [_, _, _, _, _, _, _, _, _, _]) rfl ?_
    refine pj_then ?_
    refine J_seq ?_
    refine J_regd 21 mixed (by kernel_rfl) (by decide) ?_
    refine st (s_move rfl) rfl ?_
    refine st (sT (by omega) (s_eq rfl rfl)) rfl ?_
    refine st (s_move rfl) rfl ?_
    refine sg1 rfl rfl (s_loadB 2 rfl rfl rfl) rfl ?_
    refine sg1 rfl rfl (s_loadB 3 rfl rfl rfl) rfl ?_
    refine sg1 rfl rfl (s_callk (hsm ) rfl ⟨VT.le_refl _, VT.le_refl _, trivial⟩) rfl ?_
    refine st (s_pickT rfl rfl) rfl ?_
    refine st (s_move rfl) rfl ?_
    refine sg1 rfl rfl (s_move rfl) rfl ?_
    refine sg1 rfl rfl (s_loadB 7 rfl rfl rfl) rfl ?_
    refine sg1 rfl rfl (s_callk (hof ) rfl ⟨VT.le_refl _, VT.le_refl _, trivial⟩) rfl ?_
    refine sg1 rfl rfl (s_loadB 6 rfl rfl rfl) rfl ?_
    refine sg1 rfl rfl (s_callk (hcs ) rfl ⟨VT.le_refl _, VT.le_refl _, trivial⟩) rfl ?_
    refine sg1 rfl rfl (s_loadB 0 rfl rfl rfl) rfl ?_
    refine sg1 rfl rfl (s_callk (hsg ) rfl ⟨VT.le_refl _, trivial⟩) rfl ?_
    refine sg1 rfl rfl (s_eq rfl rfl) rfl ?_
    refine sg1 rfl rfl (sBt (gap_eq) (s_eqB rfl rfl)) rfl ?_
    refine st (s_pickT rfl rfl) rfl ?_
    refine st (s_move rfl) rfl ?_
    refine sg1 rfl rfl (s_move rfl) rfl ?_
    refine st (s_pickT rfl rfl) rfl ?_
    refine Run.nil ?_
    refine st (s_assign rfl) rfl ?_
    refine Run.nil ?_
    refine pj_then ?_
    refine J_ret ?_
    refine retc1 Try.results6 (.tmp rfl (VT.le_refl _))
theorem recoversLawY_ok (l : List (Nat × Nat)) (x : List Nat) (xn : Bool) (y : List Nat) (yn : Bool) (h : (∀ p ∈ l, (p.1 : Int) ≤ IntKind.max .u8 ∧ (p.2 : Int) ≤ IntKind.max .u32) ∧ True) (hx : (∀ d ∈ x, d < 4294967296) ∧ True) (hy : (∀ d ∈ y, d < 4294967296) ∧ True) : Ok Try.prog 6 [rawsT l, numP x xn, numP y yn] (one (.bool true)) := recoversLaw_ok l x xn y yn (raw_of h) hx.1 hy.1
end Tor
end

section
set_option linter.unusedVariables false
set_option linter.unusedSimpArgs false
namespace Tor
open Go Go.RowKit Go.Proofs
theorem blen_eq {x k : Nat} (hk : k < 64) (h1 : 2 ^ k ≤ x) (h2 : x < 2 ^ (k + 1)) : blen x = k + 1 := by
  have h3 := blen_le (n := k + 1) (x := x) h2 (by omega)
  have h4 := blen_lt (x := x) (by
    have : 2 ^ (k + 1) ≤ 2 ^ 64 := Nat.pow_le_pow_right (n := 2) (i := k + 1) (j := 64) (by decide) (by omega)
    omega)
  rcases Nat.lt_or_ge (blen x) (k + 1) with h | h
  · have := Nat.pow_le_pow_right (n := 2) (i := blen x) (j := k) (by decide) (by omega)
    omega
  · omega
theorem box_zeroI {b : Nat} {T : TypeId} : Own.le (boxO b T 2 [(0, .agg 2, aggT 2 (zeroC #[Value.bool false, Value.slice none 0 0] [(0, .one), (1, .one)]))]) (boxO b T 2 [(0, .agg 2, bigT 0)]) := boxO_le (fun q hq => by
  rw [List.mem_singleton.1 hq]
  exact ⟨_, List.mem_cons_self, bigT_zero⟩)
theorem start_leS (n : Nat) (hn : n ≤ 1000000) : VT.le (slT .one (n / 32 + 1) (upd (fun _ => one (.int .u32 0)) (n / 32) (one (.int .u32 ((2 ^ (n % 32) : Nat) : Int))))) (natS (2 ^ n)) :=
  VT.le_trans (slT_le' (m := ((List.replicate (n / 32 + 1) 0).set (n / 32) (2 ^ (n % 32))).length) (ψ := limF ((List.replicate (n / 32 + 1) 0).set (n / 32) (2 ^ (n % 32)))) (by simp) (fun q hq => by
    unfold upd limF
    by_cases h : q = n / 32
    · subst h; rw [if_pos rfl]; simp [List.getD]
    · rw [if_neg h]
      simp only [List.getD, List.getElem?_set, if_neg (Ne.symm h), List.getElem?_replicate, if_pos hq]; rfl)) (natS_of (start_val n).1 (start_val n).2 (by simp; omega))
attribute [local irreducible] Tor.J Tor.PJ Tor.StepO Tor.one Tor.slT Tor.ptrT Tor.aggT Tor.tupT Tor.exT Tor.andT Tor.gT Tor.eP Tor.boxO Tor.sliO Tor.slV Tor.VT.le Tor.Ret Tor.anyT
set_option maxHeartbeats 4000000 in
theorem rBits_ok (a : Nat) (h0 : a ≠ 0) (ha : (digs a).length ≤ 1099511627776) : Ok Try.prog 90 [bigT (a : Int)] (one (.int .i64 (bitsN a : Nat))) := by
  have hl0 : (digs a).length ≠ 0 := fun k => h0 (digs_nil k)
  have htop := topd_pos h0
  have hlt := getD_lt (limbs_digs a) ((digs a).length - 1)
  unfold bitsN
  rw [if_neg h0]
  unfold bigT
  rw [Int.natAbs_natCast]
  refine Ok.enter Try.func90 rfl Try.ntmps90 rfl (fun w O => ?_)
  refine J_seq ?_
  refine J_reg ?_
  refine a_boxS rfl rfl (ltN rfl) (fun b1 => ?_)
  refine st (s_assign rfl) rfl ?_
  refine Run.nil ?_
  refine pj_then ?_
  refine J_seq ?_
  refine J_reg ?_
  refine st (s_fieldAddr rfl) rfl ?_
  refine st (s_loadB 0 rfl rfl rfl) rfl ?_
  refine st (s_len rfl) rfl ?_
  refine st (s_mulN 32 _ rfl rfl (by omega)) rfl ?_
  refine st (s_assign rfl) rfl ?_
  refine Run.nil ?_
  refine pj_then ?_
  refine J_seq ?_
  refine J_seq ?_
  refine J_reg ?_
  refine st (s_fieldAddr rfl) rfl ?_
  refine st (s_loadB 0 rfl rfl rfl) rfl ?_
  refine st (s_len rfl) rfl ?_
  refine st (s_subN _ 1 rfl rfl (by omega) (by omega)) rfl ?_
  refine st (s_assign rfl) rfl ?_
  refine Run.nil ?_
  refine pj_then ?_
  refine J_block ?_
  refine J_sub (Γ' := [(1, _), (2, _), (3, _), (4, _)]) (SubG.cons rfl (VT.le_refl _) (SubG.cons rfl (VT.le_refl _) (SubG.cons rfl (VT.le_refl _) (SubG.cons rfl (VT.le_refl _) (SubG.nil))))) (SubM.refl _) ?_
  refine J_loopA (σ := Unit) (Γk := [(1, _)]) (SubG.cons rfl (VT.le_refl _) (SubG.nil)) (fun u => [(4, one (.int .i64 (((digs a).length - 1 : Nat) : Int))), (3, one (.int .i64 ((32 * (digs a).length : Nat) : Int)))]) (fun u M0 => M0) (fun u => True) (fun u => 0) (()) (trivial) (by repeat (first | exact SubG.refl _ | exact SubG.nil | refine SubG.cons rfl (VT.le_refl _) ?_ | (refine SubG.cons rfl (one_le ?_) ?_; (congr 1; first | omega | (simp; omega) | simp)))) (.keep (Own.le_refl _) (.nil)) (fun u hu => ?_)
  refine J_norm (Γ' := [(4, _), (3, _), (1, _)]) (M' := [_]) rfl rfl ?_
  refine J_seq ?_
  refine J_seq ?_
  refine J_reg ?_
  refine st (s_move rfl) rfl ?_
  refine st (sT (by omega) (s_ge rfl rfl)) rfl ?_
  refine Run.nil ?_
  refine pj_then ?_
  refine J_cond1 rfl ?_
  refine J_skip ?_
  refine pj_then ?_
  refine J_seq ?_
  refine J_block ?_
  refine J_seq ?_
  refine J_reg ?_
  refine st (s_assign rfl) rfl ?_
  refine Run.nil ?_
  refine pj_then ?_
  refine J_block ?_
  refine J_sub (Γ' := [(1, _), (3, _), (4, _), (5, _)]) (SubG.cons rfl (VT.le_refl _) (SubG.cons rfl (VT.le_refl _) (SubG.cons rfl (VT.le_refl _) (SubG.cons rfl (VT.le_refl _) (SubG.nil))))) (SubM.refl _) ?_
  refine J_loopA (σ := Nat) (Γk := [(1, _), (4, _)]) (SubG.cons rfl (VT.le_refl _) (SubG.cons rfl (VT.le_refl _) (SubG.nil))) (fun c => [(5, one (.int .i64 ((c : Nat) - 1 : Int))), (3, one (.int .i64 ((32 * (digs a).length - (32 - c) : Nat) : Int)))]) (fun c M0 => M0) (fun c => c ≤ 32 ∧ (digs a).getD ((digs a).length - 1) 0 < 2 ^ c) (fun c => c) (32) (⟨Nat.le_refl _, hlt⟩) (by repeat (first | exact SubG.refl _ | exact SubG.nil | refine SubG.cons rfl (VT.le_refl _) ?_ | (refine SubG.cons rfl (one_le ?_) ?_; (congr 1; first | omega | (simp; omega) | simp)))) (.keep (Own.le_refl _) (.nil)) (fun c hc => ?_)
  refine J_norm (Γ' := [(5, _), (3, _), (1, _), (4, _)]) (M' := [_]) rfl rfl ?_
  obtain ⟨c1, c2⟩ := hc
  cases c with
  | zero => omega
  | succ c =>
    have hd : (digs a).getD ((digs a).length - 1) 0 / 2 ^ c < 2 := Nat.div_lt_of_lt_mul (by rw [← Nat.pow_succ]; exact c2)
    have en : ((c + 1 : Nat) : Int) - 1 = (c : Nat) := by omega
    rw [en]
    by_cases hb : 2 ^ c ≤ (digs a).getD ((digs a).length - 1) 0
    · have hq : (digs a).getD ((digs a).length - 1) 0 / 2 ^ c = 1 := by
        have := Nat.div_pos hb (Nat.two_pow_pos c)
        omega
      rw [blen_eq (by omega) hb c2]
      refine J_seq ?_
      refine J_seq ?_
      refine J_reg ?_
      refine st (s_move rfl) rfl ?_
      refine st (sT (by omega) (s_ge rfl rfl)) rfl ?_
      refine Run.nil ?_
      refine pj_then ?_
      refine J_cond1 rfl ?_
      refine J_skip ?_
      refine pj_then ?_
      refine J_seq ?_
      refine J_block ?_
      refine J_seq ?_
      refine J_seq ?_
      refine J_reg ?_
      refine st (s_fieldAddr rfl) rfl ?_
      refine st (s_loadB 0 rfl rfl rfl) rfl ?_
      refine st (s_move rfl) rfl ?_
      refine st (s_indexIN rfl rfl (by omega)) rfl ?_
      refine st (s_load rfl) rfl ?_
      refine st (s_move rfl) rfl ?_
      refine st (s_shrU rfl rfl (by assumption)) rfl ?_
      refine Run_retype (t := 28) (ψ := one (.int .u32 1)) rfl (one_le (by rw [hq]; rfl)) ?_
      refine st (s_and (a := 1) (b := 1) (r := 1) rfl rfl (by decide)) rfl ?_
      refine st (sT (by omega) (s_eq rfl rfl)) rfl ?_
      refine Run.nil ?_
      refine pj_then ?_
      refine J_cond1 rfl ?_
      refine J_seq ?_
      refine J_reg ?_
      refine st (s_move rfl) rfl ?_
      refine st (s_mulN 32 _ rfl rfl (by omega)) rfl ?_
      refine st (s_move rfl) rfl ?_
      refine st (s_addN _ _ rfl rfl (by omega)) rfl ?_
      refine st (s_addN _ 1 rfl rfl (by omega)) rfl ?_
      refine st (s_assign rfl) rfl ?_
      refine Run.nil ?_
      refine pj_then ?_
      refine J_ret ?_
      refine pr_then ?_
      refine pr_block ?_
      refine pr_then ?_
      refine pr_then ?_
      refine pr_block ?_
      refine pr_block ?_
      refine pr_then ?_
      refine pr_then ?_
      refine pr_block ?_
      refine pr_then ?_
      refine retc1 Try.results90 (.tmp rfl (VT.le_refl _))
    · have hq : (digs a).getD ((digs a).length - 1) 0 / 2 ^ c = 0 := Nat.div_eq_of_lt (by omega)
      refine J_seq ?_
      refine J_seq ?_
      refine J_reg ?_
      refine st (s_move rfl) rfl ?_
      refine st (sT (by omega) (s_ge rfl rfl)) rfl ?_
      refine Run.nil ?_
      refine pj_then ?_
      refine J_cond1 rfl ?_
      refine J_skip ?_
      refine pj_then ?_
      refine J_seq ?_
      refine J_block ?_
      refine J_seq ?_
      refine J_seq ?_
      refine J_reg ?_
      refine st (s_fieldAddr rfl) rfl ?_
      refine st (s_loadB 0 rfl rfl rfl) rfl ?_
      refine st (s_move rfl) rfl ?_
      refine st (s_indexIN rfl rfl (by omega)) rfl ?_
      refine st (s_load rfl) rfl ?_
      refine st (s_move rfl) rfl ?_
      refine st (s_shrU rfl rfl (by assumption)) rfl ?_
      refine Run_retype (t := 28) (ψ := one (.int .u32 0)) rfl (one_le (by rw [hq]; rfl)) ?_
      refine st (s_and (a := 0) (b := 1) (r := 0) rfl rfl (by decide)) rfl ?_
      refine st (sF (by omega) (s_eq rfl rfl)) rfl ?_
      refine Run.nil ?_
      refine pj_then ?_
      refine J_cond0 rfl ?_
      refine J_skip ?_
      refine pj_then ?_
      refine J_reg ?_
      refine st (s_move rfl) rfl ?_
      refine st (s_subN _ 1 rfl rfl (by omega) (by omega)) rfl ?_
      refine st (s_assign rfl) rfl ?_
      refine Run.nil ?_
      refine pn_block ?_
      refine pj_then ?_
      refine J_reg ?_
      refine st (s_move rfl) rfl ?_
      refine st (s_sub rfl rfl (wrap_i64 (by omega) (by omega))) rfl ?_
      refine st (s_assign rfl) rfl ?_
      refine Run.nil ?_
      refine pj_roundM (c) (⟨by omega, by omega⟩) (by omega) (by repeat (first | exact SubG.refl _ | exact SubG.nil | refine SubG.cons rfl (VT.le_refl _) ?_ | (refine SubG.cons rfl (one_le ?_) ?_; (congr 1; first | omega | (simp; omega) | simp)))) (.keep (Own.le_refl _) (.nil))
set_option maxHeartbeats 4000000 in
theorem rRoot_ok (a s : Nat) (ha : a < 2 ^ 800) (h1 : s * s ≤ a) (h2 : a < (s + 1) * (s + 1)) (hb : ∃ bn, Ok Try.prog 90 [bigT (a : Int)] (one (.int .i64 (bn : Nat))) ∧ a < 2 ^ bn ∧ bn ≤ 832) : Ok Try.prog 70 [bigT (a : Int)] (tupT [bigT (s : Int), one (.int .i64 0)]) := by
  obtain ⟨bn, hbi, hbl, hb8⟩ := hb
  have hsi := rSignI_ok (a : Int)
  have hsg : ¬ sgnI (a : Int) < 0 := by unfold sgnI; split <;> (try split) <;> omega
  obtain ⟨e3, he3⟩ : ∃ e, e = 419 := ⟨_, rfl⟩
  have hs3 : s < 2 ^ e3 := by
    rcases Nat.lt_or_ge s (2 ^ e3) with h | h
    · exact h
    · have h5 := Nat.mul_le_mul h h
      rw [← Nat.pow_add] at h5
      have h6 := pw_mono 800 (e3 + e3) (by omega)
      omega
  have sma : small (a : Int) := small_lt (Nat.lt_of_lt_of_le ha (pw_mono 800 2048 (by decide)))
  have hst : a < (0 + 2 ^ ((bn + 1) / 2 + 1)) * (0 + 2 ^ ((bn + 1) / 2 + 1)) := by
    rw [Nat.zero_add, ← Nat.pow_add]
    exact Nat.lt_of_lt_of_le hbl (pw_mono _ _ (by omega))
  refine Ok.enter Try.func70 rfl Try.ntmps70 rfl (fun w O => ?_)
  refine J_seq ?_
  refine J_reg ?_
  refine a_boxS rfl rfl (ltN rfl) (fun b1 => ?_)
  refine a_alloc (T := 29) rfl (ltN rfl) (fun b2 => ?_)
  refine st (s_assign rfl) rfl ?_
  refine Run.nil ?_
  refine pj_then ?_
  refine J_seq ?_
  refine J_seq ?_
  refine J_reg ?_
  refine st (s_loadW 1 rfl rfl) rfl ?_
  refine st (s_callk (hsi ) rfl ⟨VT.le_refl _, trivial⟩) rfl ?_
  refine st (sF (by assumption) (s_lt rfl rfl)) rfl ?_
  refine Run.nil ?_
  refine pj_then ?_
  refine J_cond0 rfl ?_
  refine J_skip ?_
  refine pj_then ?_
  refine J_seq ?_
  refine J_reg ?_
  refine stB rfl rfl rfl ?_
  refine BuildK.nil ?_
  refine a_alloc (T := 29) rfl (ltN rfl) (fun b4 => ?_)
  refine a_storeB 0 rfl rfl rfl rfl rfl (leN rfl) rfl ?_
  refine Run.nil ?_
  refine pj_then ?_
  refine J_seq ?_
  refine J_seq ?_
  refine J_reg ?_
  refine st (s_loadW 2 rfl rfl) rfl ?_
  refine st (s_callk (hbi ) rfl ⟨VT.le_refl _, trivial⟩) rfl ?_
  refine st (s_addN _ 1 rfl rfl (by omega)) rfl ?_
  refine st (s_quoN 2 rfl rfl rfl (by decide) (by omega)) rfl ?_
  refine st (s_assign rfl) rfl ?_
  refine Run.nil ?_
  refine pj_then ?_
  refine J_block ?_
  refine J_sub (Γ' := [(1, _), (2, _), (3, _), (4, _), (5, _)]) (SubG.cons rfl (VT.le_refl _) (SubG.cons rfl (VT.le_refl _) (SubG.cons rfl (VT.le_refl _) (SubG.cons rfl (VT.le_refl _) (SubG.cons rfl (VT.le_refl _) (SubG.nil)))))) (SubM.refl _) ?_
  refine J_loopA (σ := Nat × Nat) (Γk := [(1, _), (2, _), (3, _), (4, _)]) (SubG.cons rfl (VT.le_refl _) (SubG.cons rfl (VT.le_refl _) (SubG.cons rfl (VT.le_refl _) (SubG.cons rfl (VT.le_refl _) (SubG.nil))))) (fun p => [(5, one (.int .i64 ((p.1 : Nat) - 1 : Int)))]) (fun p M0 => (M0.set 0 (boxO b4 29 (Lay.agg 2).sz [(0, Lay.agg 2, bigT (p.2 : Int))]))) (fun p => p.1 ≤ 418 ∧ p.2 * p.2 ≤ a ∧ a < (p.2 + 2 ^ p.1) * (p.2 + 2 ^ p.1)) (fun p => p.1) (((bn + 1) / 2 + 1, 0)) (⟨by dsimp only; omega, Nat.zero_le _, hst⟩) (by repeat (first | exact SubG.refl _ | exact SubG.nil | refine SubG.cons rfl (VT.le_refl _) ?_ | (refine SubG.cons rfl (one_le ?_) ?_; (congr 1; first | omega | (simp; omega) | simp)))) (.keep (box_zeroI) (.keep (Own.le_refl _) (.keep (Own.le_refl _) (.nil)))) (fun p hp => ?_)
  refine J_norm (Γ' := [(5, _), (1, _), (2, _), (3, _), (4, _)]) (M' := [_, _, _]) rfl rfl ?_
  obtain ⟨c, out⟩ := p
  dsimp only at hp ⊢
  obtain ⟨p1, p2, p3⟩ := hp
  have hos : out ≤ s := by
    rcases Nat.lt_or_ge s out with h | h
    · have h5 : (s + 1) * (s + 1) ≤ out * out := Nat.mul_le_mul h h
      exact absurd (Nat.lt_of_lt_of_le h2 (Nat.le_trans h5 p2)) (Nat.lt_irrefl _)
    · exact h
  cases c with
  | zero =>
    rw [Nat.pow_zero] at p3
    have he : out = s := by
      rcases Nat.lt_or_ge out s with h | h
      · have h5 : (out + 1) * (out + 1) ≤ s * s := Nat.mul_le_mul h h
        exact absurd (Nat.lt_of_lt_of_le p3 (Nat.le_trans h5 h1)) (Nat.lt_irrefl _)
      · exact Nat.le_antisymm hos h
    refine J_seq ?_
    refine J_seq ?_
    refine J_reg ?_
    refine st (s_move rfl) rfl ?_
    refine st (sF (by omega) (s_ge rfl rfl)) rfl ?_
    refine Run.nil ?_
    refine pj_then ?_
    refine J_cond0 rfl ?_
    refine J_exit ?_
    refine px_then ?_
    refine px_then ?_
    refine px_block ?_
    refine pj_then ?_
    refine J_seq ?_
    refine J_reg ?_
    refine st (s_loadB 0 rfl rfl rfl) rfl ?_
    refine a_storeB 1 rfl rfl rfl rfl rfl (leN rfl) rfl ?_
    refine st (s_assign rfl) rfl ?_
    refine Run.nil ?_
    refine pj_then ?_
    refine J_ret ?_
    refine retc2 Try.results70 (.cellB 1 rfl rfl rfl (bigT_eq (by rw [he]))) (.tmp rfl (VT.le_refl _))
  | succ n =>
    have en : ((n + 1 : Nat) : Int) - 1 = (n : Nat) := by omega
    rw [en]
    have hn3 : 2 ^ n ≤ 2 ^ e3 := pw_mono _ _ (by omega)
    have hmd := rMade_ok false (2 ^ n)
    rw [if_neg (by decide)] at hmd
    have ho3 : out + 2 ^ n < 2 ^ (e3 + 1) := by rw [pw_two e3 (e3 + 1) rfl]; exact Nat.add_lt_add_of_lt_of_le (Nat.lt_of_le_of_lt hos hs3) hn3
    have s1 : small (out : Int) := small_lt (Nat.lt_of_lt_of_le (show (out : Int).natAbs < 2 ^ e3 by omega) (pw_mono e3 2048 (by omega)))
    have s2 : small ((2 ^ n : Nat) : Int) := small_lt (Nat.lt_of_le_of_lt (show ((2 ^ n : Nat) : Int).natAbs ≤ 2 ^ e3 by rw [Int.natAbs_natCast]; exact hn3) (Nat.pow_lt_pow_right (a := 2) (m := e3) (n := 2048) (by decide) (by omega)))
    have s3 : small ((out + 2 ^ n : Nat) : Int) := small_lt (Nat.lt_of_lt_of_le (show ((out + 2 ^ n : Nat) : Int).natAbs < 2 ^ (e3 + 1) by rw [Int.natAbs_natCast]; exact ho3) (pw_mono (e3 + 1) 2048 (by omega)))
    have hpp := Nat.mul_lt_mul'' ho3 ho3
    rw [← Nat.pow_add] at hpp
    have s4 : small (((out + 2 ^ n) * (out + 2 ^ n) : Nat) : Int) := small_lt (Nat.lt_of_lt_of_le (show (((out + 2 ^ n) * (out + 2 ^ n) : Nat) : Int).natAbs < 2 ^ (e3 + 1 + (e3 + 1)) by rw [Int.natAbs_natCast]; exact hpp) (pw_mono (e3 + 1 + (e3 + 1)) 2048 (by omega)))
    have had := rAddI_ok (out : Int) ((2 ^ n : Nat) : Int) s1 s2
    rw [← Int.natCast_add] at had
    have hmu := rMulI_ok ((out + 2 ^ n : Nat) : Int) ((out + 2 ^ n : Nat) : Int) s3 s3
    rw [← Int.natCast_mul] at hmu
    have hcm := rCmpI_ok (((out + 2 ^ n) * (out + 2 ^ n) : Nat) : Int) (a : Int) s4 sma
    rw [Nat.pow_succ, show out + 2 ^ n * 2 = (out + 2 ^ n) + 2 ^ n by omega] at p3
    refine J_seq ?_
    refine J_seq ?_
    refine J_reg ?_
    refine st (s_move rfl) rfl ?_
    refine st (sT (by omega) (s_ge rfl rfl)) rfl ?_
    refine Run.nil ?_
    refine pj_then ?_
    refine J_cond1 rfl ?_
    refine J_skip ?_
    refine pj_then ?_
    refine J_seq ?_
    refine J_block ?_
    refine J_seq ?_
    refine J_reg ?_
    refine st (s_move rfl) rfl ?_
    refine st (s_quoN 32 rfl rfl rfl (by decide) (by omega)) rfl ?_
    refine st (s_addN _ 1 rfl rfl (by omega)) rfl ?_
    refine a_makeSlice (n / 32 + 1) (n / 32 + 1) rfl rfl rfl rfl (Nat.le_refl _) rfl rfl (by omega) rfl rfl (fun bz => ?_)
    refine st (s_assign rfl) rfl ?_
    refine Run.nil ?_
    refine pj_then ?_
    refine J_seq ?_
    refine J_reg ?_
    refine st (s_move rfl) rfl ?_
    refine st (s_move rfl) rfl ?_
    refine st (s_quoN 32 rfl rfl rfl (by decide) (by omega)) rfl ?_
    refine st (s_move rfl) rfl ?_
    refine st (s_remN 32 rfl rfl rfl (by decide)) rfl ?_
    refine st (s_shl1 (s := n % 32) rfl rfl (by omega)) rfl ?_
    refine st (s_indexON rfl rfl (by omega)) rfl ?_
    (refine a_storeE 0 rfl rfl rfl ?_ rfl ?_; omega)
    refine Run.nil ?_
    refine pj_then ?_
    refine J_seq ?_
    refine J_freeze (t := 6) (i := 0) rfl rfl ?_
    by_cases hle : (out + 2 ^ n) * (out + 2 ^ n) ≤ a
    · have hc0 : cmpI (((out + 2 ^ n) * (out + 2 ^ n) : Nat) : Int) (a : Int) ≤ 0 := by unfold cmpI; split <;> (try split) <;> omega
      refine J_regU2 mixed (by kernel_rfl) (by kernel_rfl) ?_
      refine ux (fun B => s_loadB 0 rfl rfl rfl) rfl rfl ?_
      refine ux (fun B => s_move rfl) rfl rfl ?_
      refine uxk (hmd ) rfl ⟨(start_leS n (by omega)), VT.le_refl _, trivial⟩ rfl ?_
      refine uxk (had ) rfl ⟨VT.le_refl _, VT.le_refl _, trivial⟩ rfl ?_
      refine ua rfl ?_
      refine us rfl ?_
      refine RunU.nil (fun γ => ?_)
      refine PJ_normM (M' := [_, _, _, _]) rfl ?_
      refine pj_then ?_
      refine J_seq ?_
      refine J_regd 6 mixed (by kernel_rfl) (by decide) ?_
      refine st (s_loadB 0 rfl rfl rfl) rfl ?_
      refine st (s_loadB 0 rfl rfl rfl) rfl ?_
      refine st (s_callk (hmu ) rfl ⟨VT.le_refl _, VT.le_refl _, trivial⟩) rfl ?_
      refine st (s_loadW 3 rfl rfl) rfl ?_
      refine st (s_callk (hcm ) rfl ⟨VT.le_refl _, VT.le_refl _, trivial⟩) rfl ?_
      refine st (sT (by assumption) (s_le rfl rfl)) rfl ?_
      refine Run.nil ?_
      refine Run.nil ?_
      refine pj_then ?_
      refine J_cond1 rfl ?_
      refine J_reg ?_
      refine st (s_loadB 0 rfl rfl rfl) rfl ?_
      refine a_storeB 1 rfl rfl rfl rfl rfl (leN rfl) rfl ?_
      refine Run.nil ?_
      refine pn_block ?_
      refine pj_then ?_
      refine J_reg ?_
      refine st (s_move rfl) rfl ?_
      refine st (s_sub rfl rfl (wrap_i64 (by omega) (by omega))) rfl ?_
      refine st (s_assign rfl) rfl ?_
      refine Run.nil ?_
      refine pj_roundM ((n, out + 2 ^ n)) (⟨by dsimp only; omega, hle, p3⟩) (by omega) (by repeat (first | exact SubG.refl _ | exact SubG.nil | refine SubG.cons rfl (VT.le_refl _) ?_ | (refine SubG.cons rfl (one_le ?_) ?_; (congr 1; first | omega | (simp; omega) | simp)))) (.drop (.keep (Own.le_refl _) (.keep (Own.le_refl _) (.keep (Own.le_refl _) (.nil)))))
    · have hc0 : ¬ cmpI (((out + 2 ^ n) * (out + 2 ^ n) : Nat) : Int) (a : Int) ≤ 0 := by unfold cmpI; rw [if_neg (by omega), if_pos (by omega)]; decide
      refine J_regU2 mixed (by kernel_rfl) (by kernel_rfl) ?_
      refine ux (fun B => s_loadB 0 rfl rfl rfl) rfl rfl ?_
      refine ux (fun B => s_move rfl) rfl rfl ?_
      refine uxk (hmd ) rfl ⟨(start_leS n (by omega)), VT.le_refl _, trivial⟩ rfl ?_
      refine uxk (had ) rfl ⟨VT.le_refl _, VT.le_refl _, trivial⟩ rfl ?_
      refine ua rfl ?_
      refine us rfl ?_
      refine RunU.nil (fun γ => ?_)
      refine PJ_normM (M' := [_, _, _, _]) rfl ?_
      refine pj_then ?_
      refine J_seq ?_
      refine J_regd 6 mixed (by kernel_rfl) (by decide) ?_
      refine st (s_loadB 0 rfl rfl rfl) rfl ?_
      refine st (s_loadB 0 rfl rfl rfl) rfl ?_
      refine st (s_callk (hmu ) rfl ⟨VT.le_refl _, VT.le_refl _, trivial⟩) rfl ?_
      refine st (s_loadW 3 rfl rfl) rfl ?_
      refine st (s_callk (hcm ) rfl ⟨VT.le_refl _, VT.le_refl _, trivial⟩) rfl ?_
      refine st (sF (by assumption) (s_le rfl rfl)) rfl ?_
      refine Run.nil ?_
      refine Run.nil ?_
      refine pj_then ?_
      refine J_cond0 rfl ?_
      refine J_skip ?_
      refine pn_block ?_
      refine pj_then ?_
      refine J_reg ?_
      refine st (s_move rfl) rfl ?_
      refine st (s_sub rfl rfl (wrap_i64 (by omega) (by omega))) rfl ?_
      refine st (s_assign rfl) rfl ?_
      refine Run.nil ?_
      refine pj_roundM ((n, out)) (⟨by dsimp only; omega, p2, Nat.lt_of_not_le hle⟩) (by omega) (by repeat (first | exact SubG.refl _ | exact SubG.nil | refine SubG.cons rfl (VT.le_refl _) ?_ | (refine SubG.cons rfl (one_le ?_) ?_; (congr 1; first | omega | (simp; omega) | simp)))) (.drop (.keep (Own.le_refl _) (.keep (Own.le_refl _) (.keep (Own.le_refl _) (.nil)))))
set_option maxHeartbeats 4000000 in
theorem rBits0_ok : Ok Try.prog 90 [bigT 0] (one (.int .i64 0)) := by
  unfold bigT
  have hl : (digs (Int.natAbs 0)).length = 0 := rfl
  generalize digs (Int.natAbs 0) = l at hl ⊢
  refine Ok.enter Try.func90 rfl Try.ntmps90 rfl (fun w O => ?_)
  refine J_seq ?_
  refine J_reg ?_
  refine a_boxS rfl rfl (ltN rfl) (fun b1 => ?_)
  refine st (s_assign rfl) rfl ?_
  refine Run.nil ?_
  refine pj_then ?_
  refine J_seq ?_
  refine J_reg ?_
  refine st (s_fieldAddr rfl) rfl ?_
  refine st (s_loadB 0 rfl rfl rfl) rfl ?_
  refine st (s_len rfl) rfl ?_
  refine st (s_mulN 32 _ rfl rfl (by omega)) rfl ?_
  refine st (s_assign rfl) rfl ?_
  refine Run.nil ?_
  refine pj_then ?_
  refine J_seq ?_
  refine J_seq ?_
  refine J_reg ?_
  refine st (s_fieldAddr rfl) rfl ?_
  refine st (s_loadB 0 rfl rfl rfl) rfl ?_
  refine st (s_len rfl) rfl ?_
  refine st (s_sub rfl rfl (wrap_i64 (by omega) (by omega))) rfl ?_
  refine st (s_assign rfl) rfl ?_
  refine Run.nil ?_
  refine pj_then ?_
  refine J_block ?_
  refine J_sub (Γ' := [(1, _), (2, _), (3, _), (4, _)]) (SubG.cons rfl (VT.le_refl _) (SubG.cons rfl (VT.le_refl _) (SubG.cons rfl (VT.le_refl _) (SubG.cons rfl (VT.le_refl _) (SubG.nil))))) (SubM.refl _) ?_
  refine J_loopA (σ := Unit) (Γk := [(1, _)]) (SubG.cons rfl (VT.le_refl _) (SubG.nil)) (fun u => [(4, one (.int .i64 (-1))), (3, one (.int .i64 0))]) (fun u M0 => M0) (fun u => True) (fun u => 0) (()) (trivial) (by repeat (first | exact SubG.refl _ | exact SubG.nil | refine SubG.cons rfl (VT.le_refl _) ?_ | (refine SubG.cons rfl (one_le ?_) ?_; (congr 1; first | omega | (simp; omega) | simp)))) (.keep (Own.le_refl _) (.nil)) (fun u hu => ?_)
  refine J_norm (Γ' := [(4, _), (3, _), (1, _)]) (M' := [_]) rfl rfl ?_
  refine J_seq ?_
  refine J_seq ?_
  refine J_reg ?_
  refine st (s_move rfl) rfl ?_
  refine st (sF (by omega) (s_ge rfl rfl)) rfl ?_
  refine Run.nil ?_
  refine pj_then ?_
  refine J_cond0 rfl ?_
  refine J_exit ?_
  refine px_then ?_
  refine px_then ?_
  refine px_block ?_
  refine pj_then ?_
  refine J_seq ?_
  refine J_reg ?_
  refine st (s_move rfl) rfl ?_
  refine st (s_assign rfl) rfl ?_
  refine Run.nil ?_
  refine pj_then ?_
  refine J_ret ?_
  refine retc1 Try.results90 (.tmp rfl (VT.le_refl _))
theorem rRootN_ok (a s : Nat) (ha : a < 2 ^ 800) (h1 : s * s ≤ a) (h2 : a < (s + 1) * (s + 1)) : Ok Try.prog 70 [bigT (a : Int)] (tupT [bigT (s : Int), one (.int .i64 0)]) := by
  refine rRoot_ok a s ha h1 h2 ?_
  by_cases h : a = 0
  · subst h; exact ⟨0, rBits0_ok, by decide, by decide⟩
  · have hl : (digs a).length ≤ 25 := digs_len_le (Nat.lt_of_lt_of_le ha (Nat.le_trans (pw_mono 800 (32 * 25) (by decide)) (Nat.le_of_eq (Nat.pow_mul (a := 2) (m := 32) (n := 25)))))
    refine ⟨bitsN a, rBits_ok a h (by omega), bits_lt a, ?_⟩
    unfold bitsN
    rw [if_neg h]
    have := blen_le (n := 32) (x := (digs a).getD ((digs a).length - 1) 0) (getD_lt (limbs_digs a) ((digs a).length - 1)) (by omega)
    omega
set_option maxHeartbeats 4000000 in
theorem rLimit_ok (m s : Nat) (hm : 2 ≤ m) (hm8 : m < 2 ^ 800) (h1 : s * s ≤ (m - 1) / 2) (h2 : (m - 1) / 2 < (s + 1) * (s + 1)) : Ok Try.prog 34 [bigT (m : Int)] (bigT (s : Int)) := by
  have o1 := rOf_ok 1 (by decide) (by decide)
  have o2 := rOf_ok 2 (by decide) (by decide)
  have smm : small0 (m : Int) := small0_lt (Nat.lt_of_lt_of_le hm8 (pw_mono 800 2048 (by decide)))
  have sm1 : small 1 := small_lt (by decide +kernel)
  have sm2 : small0 2 := small0_lt (by decide +kernel)
  have hsu := rSubI_ok (m : Int) 1 smm.small sm1
  rw [show (m : Int) - 1 = ((m - 1 : Nat) : Int) by omega] at hsu
  have hd1 := rDivMod_ok ((m - 1 : Nat) : Int) 2 (by decide) (small0_abs smm (by omega)) sm2
  rw [show ((m - 1 : Nat) : Int) / 2 = (((m - 1) / 2 : Nat) : Int) from (Int.natCast_ediv _ _).symm, show ((m - 1 : Nat) : Int) % 2 = (((m - 1) % 2 : Nat) : Int) from (Int.natCast_emod _ _).symm] at hd1
  have hro := rRootN_ok ((m - 1) / 2) s (by generalize 2 ^ 800 = z at *; omega) h1 h2
  refine Ok.enter Try.func34 rfl Try.ntmps34 rfl (fun w O => ?_)
  refine J_seq ?_
  refine J_reg ?_
  refine a_boxS rfl rfl (ltN rfl) (fun b1 => ?_)
  refine a_alloc (T := 29) rfl (ltN rfl) (fun b2 => ?_)
  refine Run.nil ?_
  refine pj_then ?_
  refine J_seq ?_
  refine J_regU2 mixed (by kernel_rfl) (by kernel_rfl) ?_
  refine ux (fun B => s_loadW 1 rfl rfl) rfl rfl ?_
  refine uxk (o1 ) rfl ⟨VT.le_refl _, trivial⟩ rfl ?_
  refine uxk (hsu ) rfl ⟨VT.le_refl _, VT.le_refl _, trivial⟩ rfl ?_
  refine uxk (o2 ) rfl ⟨VT.le_refl _, trivial⟩ rfl ?_
  refine uxk (hd1 ) rfl ⟨VT.le_refl _, VT.le_refl _, trivial⟩ rfl ?_
  refine ux (fun B => s_move rfl) rfl rfl ?_
  refine ux (fun B => s_extract rfl rfl) rfl rfl ?_
  refine ux (fun B => s_extract rfl rfl) rfl rfl ?_
  refine ux (fun B => s_extract rfl rfl) rfl rfl ?_
  refine ua rfl ?_
  refine ua rfl ?_
  refine us rfl ?_
  refine us rfl ?_
  refine ux (fun B => s_assign rfl) rfl rfl ?_
  refine RunU.nil (fun γ => ?_)
  refine PJ_normM (M' := [_, _, _, _]) rfl ?_
  refine pj_then ?_
  refine J_seq ?_
  refine J_reg ?_
  refine st (s_loadB 1 rfl rfl rfl) rfl ?_
  refine st (s_callk (hro ) rfl ⟨VT.le_refl _, trivial⟩) rfl ?_
  refine st (s_move rfl) rfl ?_
  refine st (s_extract rfl rfl) rfl ?_
  refine st (s_extract rfl rfl) rfl ?_
  refine a_alloc (T := 29) rfl (ltN rfl) (fun b6 => ?_)
  refine a_storeB 0 rfl rfl rfl rfl rfl (leN rfl) rfl ?_
  refine st (s_assign rfl) rfl ?_
  refine Run.nil ?_
  refine pj_then ?_
  refine J_seq ?_
  refine J_reg ?_
  refine st (s_loadB 0 rfl rfl rfl) rfl ?_
  refine a_storeB 3 rfl rfl rfl rfl rfl (leN rfl) rfl ?_
  refine Run.nil ?_
  refine pj_then ?_
  refine J_ret ?_
  refine retc1 Try.results34 (.cellB 3 rfl rfl rfl (VT.le_refl _))
theorem sqrt_ex : ∀ n : Nat, ∃ s, s * s ≤ n ∧ n < (s + 1) * (s + 1)
  | 0 => ⟨0, by decide, by decide⟩
  | n + 1 => by
    obtain ⟨s, h1, h2⟩ := sqrt_ex n
    by_cases c : n + 1 < (s + 1) * (s + 1)
    · exact ⟨s, by omega, c⟩
    · refine ⟨s + 1, by omega, ?_⟩
      have : (s + 1) * (s + 1) < (s + 1 + 1) * (s + 1 + 1) := Nat.mul_lt_mul'' (by omega) (by omega)
      omega
end Tor
end

section
set_option linter.unusedVariables false
set_option linter.unusedSimpArgs false
namespace Tor
open Go Go.RowKit Go.Proofs
theorem ratCond_iff {a : Int} {m s : Nat} {f : Rat} : ratCond a m s f = true ↔ f.num.natAbs ≤ s ∧ f.den ≤ s ∧ Nat.gcd f.den m = 1 ∧ (f.num - a * f.den) % (m : Int) = 0 := by
  unfold ratCond
  simp only [Bool.and_eq_true, decide_eq_true_eq]
theorem ratE_cond {a : Int} {m s : Nat} {f : Rat} (h : ratE a m s = some f) : ratCond a m s f = true := by
  unfold ratE at h
  dsimp only at h
  split at h
  · cases h
  · split at h
    · rename_i hc; rw [Option.some.injEq] at h; rw [← h]; exact hc
    · cases h
theorem sqrt_le {m s : Nat} (h1 : s * s ≤ (m - 1) / 2) : s ≤ m := by
  rcases Nat.eq_zero_or_pos s with h | h
  · omega
  · have := Nat.le_mul_of_pos_right s h
    omega
attribute [local irreducible] Tor.J Tor.PJ Tor.StepO Tor.one Tor.slT Tor.ptrT Tor.aggT Tor.tupT Tor.exT Tor.andT Tor.gT Tor.eP Tor.boxO Tor.sliO Tor.slV Tor.VT.le Tor.Ret Tor.anyT Tor.mapO Tor.metT
set_option maxHeartbeats 4000000 in
theorem rationalsLaw_ok (x : List Nat) (xn : Bool) (y : List Nat) (yn : Bool) (hx : Limbs x) (hy : Limbs y) : Ok Try.prog 9 [numP x xn, numP y yn] (one (.bool true)) := by
  have hs := sanity_ok
  have hn1 := number_ok x xn 6 hx (by decide)
  have hn2 := number_ok y yn 6 hy (by decide)
  have ha := numI_le (n := xn) (k := 6) hx
  have hb := numI_le (n := yn) (k := 6) hy
  generalize numI x xn 6 = a at *
  generalize numI y yn 6 = b at *
  have sa : small0 a := small0_lt (Nat.lt_of_lt_of_le ha (pw_mono (32 * 6) 2048 (by decide)))
  have sb : small0 b := small0_lt (Nat.lt_of_lt_of_le hb (pw_mono (32 * 6) 2048 (by decide)))
  have hab := rAbsI_ok b sb.small
  obtain ⟨m, hm⟩ : ∃ m, m = b.natAbs := ⟨_, rfl⟩
  rw [← hm] at hab hb
  have sM : small0 (m : Int) := small0_abs sb (by omega)
  have o2 := rOf_ok 2 (by decide) (by decide)
  have o1 := rOf_ok 1 (by decide) (by decide)
  have s2 : small 2 := small_lt (by decide +kernel)
  have s1 : small 1 := small_lt (by decide +kernel)
  have hc2 := rCmpI_ok (m : Int) 2 sM.small s2
  refine Ok.enter Try.func9 rfl Try.ntmps9 rfl (fun w O => ?_)
  by_cases c : m < 2
  · have hcc : cmpI (m : Int) 2 < 0 := by unfold cmpI; rw [if_pos (by omega)]; decide
    have hra := Rational1_ok a (m : Int) (by omega)
    refine J_seq ?_
    refine J_reg ?_
    refine a_boxS rfl rfl (ltN rfl) (fun b2 => ?_)
    refine a_boxS rfl rfl (ltN rfl) (fun b3 => ?_)
    refine st (s_assign rfl) rfl ?_
    refine Run.nil ?_
    refine pj_then ?_
    refine J_seq ?_
    refine J_reg ?_
    refine st (s_callk (hs ) rfl trivial) rfl ?_
    refine st (s_assign rfl) rfl ?_
    refine Run.nil ?_
    refine pj_then ?_
    refine J_seq ?_
    refine J_regU2 mixed (by kernel_rfl) (by kernel_rfl) ?_
    refine ux (fun B => s_loadW 1 rfl rfl) rfl rfl ?_
    refine uxk (hn1 ) rfl ⟨VT.le_refl _, VT.le_refl _, trivial⟩ rfl ?_
    refine ux (fun B => s_loadW 0 rfl rfl) rfl rfl ?_
    refine uxk (hn2 ) rfl ⟨VT.le_refl _, VT.le_refl _, trivial⟩ rfl ?_
    refine uxk (hab ) rfl ⟨VT.le_refl _, trivial⟩ rfl ?_
    refine ua rfl ?_
    refine ua rfl ?_
    refine us rfl ?_
    refine us rfl ?_
    refine RunU.nil (fun γ => ?_)
    refine PJ_normM (M' := [_, _, _, _]) rfl ?_
    refine pj_then ?_
    refine J_seq ?_
    refine J_reg ?_
    refine st (s_loadB 1 rfl rfl rfl) rfl ?_
    refine st (s_loadB 0 rfl rfl rfl) rfl ?_
    refine st (s_callk (hra ) rfl ⟨VT.le_refl _, VT.le_refl _, trivial⟩) rfl ?_
    refine st (s_move rfl) rfl ?_
    refine st (s_extract rfl rfl) rfl ?_
    refine st (s_extract rfl rfl) rfl ?_
    refine a_allocS (T := 59) rfl rfl rfl (fun b8 => ?_)
    refine a_storeW 0 rfl rfl rfl rfl ?_
    refine st (s_assign rfl) rfl ?_
    refine Run.nil ?_
    refine pj_then ?_
    refine J_seq ?_
    refine J_seq ?_
    refine J_regd 4 mixed (by kernel_rfl) (by decide) ?_
    refine st (s_loadB 1 rfl rfl rfl) rfl ?_
    refine st (s_callk (o2 ) rfl ⟨VT.le_refl _, trivial⟩) rfl ?_
    refine st (s_callk (hc2 ) rfl ⟨VT.le_refl _, VT.le_refl _, trivial⟩) rfl ?_
    refine st (sT (by assumption) (s_lt rfl rfl)) rfl ?_
    refine Run.nil ?_
    refine Run.nil ?_
    refine pj_then ?_
    refine J_cond1 rfl ?_
    refine J_seq ?_
    refine J_reg ?_
    refine st (s_move rfl) rfl ?_
    refine st (sT (by omega) (s_eq rfl rfl)) rfl ?_
    refine st (s_move rfl) rfl ?_
    refine sg1 rfl rfl (s_move rfl) rfl ?_
    refine st (s_pickT rfl rfl) rfl ?_
    refine st (s_assign rfl) rfl ?_
    refine Run.nil ?_
    refine pj_then ?_
    refine J_ret ?_
    refine pr_then ?_
    refine retc1 Try.results9 (.tmp rfl (VT.le_refl _))
  · have hcc : ¬ cmpI (m : Int) 2 < 0 := by unfold cmpI; split <;> (try split) <;> omega
    obtain ⟨s, q1, q2⟩ := sqrt_ex ((m - 1) / 2)
    have hsm := sqrt_le q1
    have hra := Rational_ok a m s (by omega) (Nat.le_of_lt (Nat.lt_of_lt_of_le hb (pw_mono (32 * 6) 800 (by decide)))) (Nat.le_of_lt (Nat.lt_of_lt_of_le ha (pw_mono (32 * 6) 800 (by decide)))) q1 q2
    have hli := rLimit_ok m s (by omega) (Nat.lt_of_lt_of_le hb (pw_mono (32 * 6) 800 (by decide))) q1 q2
    cases hE : ratE a m s with
    | none =>
      rw [hE] at hra
      unfold ratO at hra
      rw [Option.isSome_none, if_neg (by decide)] at hra
      refine J_seq ?_
      refine J_reg ?_
      refine a_boxS rfl rfl (ltN rfl) (fun b2 => ?_)
      refine a_boxS rfl rfl (ltN rfl) (fun b3 => ?_)
      refine st (s_assign rfl) rfl ?_
      refine Run.nil ?_
      refine pj_then ?_
      refine J_seq ?_
      refine J_reg ?_
      refine st (s_callk (hs ) rfl trivial) rfl ?_
      refine st (s_assign rfl) rfl ?_
      refine Run.nil ?_
      refine pj_then ?_
      refine J_seq ?_
      refine J_regU2 mixed (by kernel_rfl) (by kernel_rfl) ?_
      refine ux (fun B => s_loadW 1 rfl rfl) rfl rfl ?_
      refine uxk (hn1 ) rfl ⟨VT.le_refl _, VT.le_refl _, trivial⟩ rfl ?_
      refine ux (fun B => s_loadW 0 rfl rfl) rfl rfl ?_
      refine uxk (hn2 ) rfl ⟨VT.le_refl _, VT.le_refl _, trivial⟩ rfl ?_
      refine uxk (hab ) rfl ⟨VT.le_refl _, trivial⟩ rfl ?_
      refine ua rfl ?_
      refine ua rfl ?_
      refine us rfl ?_
      refine us rfl ?_
      refine RunU.nil (fun γ => ?_)
      refine PJ_normM (M' := [_, _, _, _]) rfl ?_
      refine pj_then ?_
      refine J_seq ?_
      refine J_reg ?_
      refine st (s_loadB 1 rfl rfl rfl) rfl ?_
      refine st (s_loadB 0 rfl rfl rfl) rfl ?_
      refine st (s_callk (hra ) rfl ⟨VT.le_refl _, VT.le_refl _, trivial⟩) rfl ?_
      refine st (s_move rfl) rfl ?_
      refine st (s_extract rfl rfl) rfl ?_
      refine st (s_extract rfl rfl) rfl ?_
      refine a_allocS (T := 59) rfl rfl rfl (fun b8 => ?_)
      refine a_storeW 0 rfl rfl rfl rfl ?_
      refine st (s_assign rfl) rfl ?_
      refine Run.nil ?_
      refine pj_then ?_
      refine J_seq ?_
      refine J_seq ?_
      refine J_regd 4 mixed (by kernel_rfl) (by decide) ?_
      refine st (s_loadB 1 rfl rfl rfl) rfl ?_
      refine st (s_callk (o2 ) rfl ⟨VT.le_refl _, trivial⟩) rfl ?_
      refine st (s_callk (hc2 ) rfl ⟨VT.le_refl _, VT.le_refl _, trivial⟩) rfl ?_
      refine st (sF (by assumption) (s_lt rfl rfl)) rfl ?_
      refine Run.nil ?_
      refine Run.nil ?_
      refine pj_then ?_
      refine J_cond0 rfl ?_
      refine J_skip ?_
      refine pj_then ?_
      refine J_seq ?_
      refine J_seq ?_
      refine J_reg ?_
      refine st (s_move rfl) rfl ?_
      refine st (sT (by omega) (s_ne rfl rfl)) rfl ?_
      refine Run.nil ?_
      refine pj_then ?_
      refine J_cond1 rfl ?_
      refine J_seq ?_
      refine J_reg ?_
      refine st (s_move rfl) rfl ?_
      refine st (sT (by omega) (s_eq rfl rfl)) rfl ?_
      refine st (s_move rfl) rfl ?_
      refine sg1 rfl rfl (s_move rfl) rfl ?_
      refine st (s_pickT rfl rfl) rfl ?_
      refine st (s_assign rfl) rfl ?_
      refine Run.nil ?_
      refine pj_then ?_
      refine J_ret ?_
      refine pr_then ?_
      refine retc1 Try.results9 (.tmp rfl (VT.le_refl _))
    | some f =>
      rw [hE] at hra
      unfold ratO at hra
      rw [Option.isSome_some, if_pos rfl] at hra
      obtain ⟨k1, k2, k3, k4⟩ := ratCond_iff.1 (ratE_cond hE)
      have sfn : small0 f.num := small0_abs sM (by omega)
      have sfd : small0 (f.den : Int) := small0_abs sM (by omega)
      have ss : small0 (s : Int) := small0_abs sM (by omega)
      have hv := rqValid_ok f sfn sfd
      have hfa := rAbsI_ok f.num sfn.small
      have sfa : small ((f.num.natAbs : Nat) : Int) := small_abs' sfn.small (by omega)
      have g1 := rCmpI_ok ((f.num.natAbs : Nat) : Int) (s : Int) sfa ss.small
      have g1' : ¬ 0 < cmpI ((f.num.natAbs : Nat) : Int) (s : Int) := by unfold cmpI; split <;> (try split) <;> omega
      have g2 := rCmpI_ok (f.den : Int) (s : Int) sfd.small ss.small
      have g2' : ¬ 0 < cmpI (f.den : Int) (s : Int) := by unfold cmpI; split <;> (try split) <;> omega
      have hmu := rMulI_ok a (f.den : Int) sa.small sfd.small
      have hlp : (a * (f.den : Int)).natAbs < 2 ^ 384 := Nat.lt_of_le_of_lt (Nat.le_of_eq (Int.natAbs_mul a (f.den : Int))) (Nat.lt_of_lt_of_le (Nat.mul_lt_mul'' ha (show (f.den : Int).natAbs < 2 ^ (32 * 6) by omega)) (Nat.le_of_eq (pw_add (32 * 6) 384 rfl).symm))
      have smp : small0 (a * (f.den : Int)) := small0_lt (Nat.lt_of_lt_of_le hlp (pw_mono 384 2048 (by decide)))
      have hsu := rSubI_ok f.num (a * (f.den : Int)) sfn.small smp.small
      have smq : small0 (f.num - a * (f.den : Int)) := small0_lt (Nat.lt_of_lt_of_le (show (f.num - a * (f.den : Int)).natAbs < 2 ^ 385 by
        have h385 := pw_two 384 385 rfl
        have := pw_mono (32 * 6) 384 (by decide)
        generalize 2 ^ 385 = z3 at *
        generalize 2 ^ 384 = z at *
        generalize 2 ^ (32 * 6) = z2 at *
        generalize a * (f.den : Int) = q at *
        omega) (pw_mono 385 2048 (by decide)))
      have hdm := rDivMod_ok (f.num - a * (f.den : Int)) (m : Int) (by omega) smq sM
      rw [k4] at hdm
      have hsi := rSignI_ok 0
      rw [show sgnI 0 = 0 from rfl] at hsi
      have hgc := rGcd_ok (f.den : Int) (m : Int) sfd sM
      rw [Int.natAbs_natCast, Int.natAbs_natCast, k3] at hgc
      have hsa := rSame_ok ((1 : Nat) : Int) 1
      rw [show decide (((1 : Nat) : Int) = 1) = true from rfl] at hsa
      unfold ratT fracT at hra
      refine J_seq ?_
      refine J_reg ?_
      refine a_boxS rfl rfl (ltN rfl) (fun b2 => ?_)
      refine a_boxS rfl rfl (ltN rfl) (fun b3 => ?_)
      refine st (s_assign rfl) rfl ?_
      refine Run.nil ?_
      refine pj_then ?_
      refine J_seq ?_
      refine J_reg ?_
      refine st (s_callk (hs ) rfl trivial) rfl ?_
      refine st (s_assign rfl) rfl ?_
      refine Run.nil ?_
      refine pj_then ?_
      refine J_seq ?_
      refine J_regU2 mixed (by kernel_rfl) (by kernel_rfl) ?_
      refine ux (fun B => s_loadW 1 rfl rfl) rfl rfl ?_
      refine uxk (hn1 ) rfl ⟨VT.le_refl _, VT.le_refl _, trivial⟩ rfl ?_
      refine ux (fun B => s_loadW 0 rfl rfl) rfl rfl ?_
      refine uxk (hn2 ) rfl ⟨VT.le_refl _, VT.le_refl _, trivial⟩ rfl ?_
      refine uxk (hab ) rfl ⟨VT.le_refl _, trivial⟩ rfl ?_
      refine ua rfl ?_
      refine ua rfl ?_
      refine us rfl ?_
      refine us rfl ?_
      refine RunU.nil (fun γ => ?_)
      refine PJ_normM (M' := [_, _, _, _]) rfl ?_
      refine pj_then ?_
      refine J_seq ?_
      refine J_reg ?_
      refine st (s_loadB 1 rfl rfl rfl) rfl ?_
      refine st (s_loadB 0 rfl rfl rfl) rfl ?_
      refine st (s_callk (hra ) rfl ⟨VT.le_refl _, VT.le_refl _, trivial⟩) rfl ?_
      refine st (s_move rfl) rfl ?_
      refine st (s_extract rfl rfl) rfl ?_
      refine st (s_extract rfl rfl) rfl ?_
      refine a_allocS (T := 59) rfl rfl rfl (fun b8 => ?_)
      refine a_storeW 0 rfl rfl rfl rfl ?_
      refine st (s_assign rfl) rfl ?_
      refine Run.nil ?_
      refine pj_then ?_
      refine J_seq ?_
      refine J_seq ?_
      refine J_regd 4 mixed (by kernel_rfl) (by decide) ?_
      refine st (s_loadB 1 rfl rfl rfl) rfl ?_
      refine st (s_callk (o2 ) rfl ⟨VT.le_refl _, trivial⟩) rfl ?_
      refine st (s_callk (hc2 ) rfl ⟨VT.le_refl _, VT.le_refl _, trivial⟩) rfl ?_
      refine st (sF (by assumption) (s_lt rfl rfl)) rfl ?_
      refine Run.nil ?_
      refine Run.nil ?_
      refine pj_then ?_
      refine J_cond0 rfl ?_
      refine J_skip ?_
      refine pj_then ?_
      refine J_seq ?_
      refine J_seq ?_
      refine J_reg ?_
      refine st (s_move rfl) rfl ?_
      refine st (sF (by omega) (s_ne rfl rfl)) rfl ?_
      refine Run.nil ?_
      refine pj_then ?_
      refine J_cond0 rfl ?_
      refine J_skip ?_
      refine pj_then ?_
      refine J_seq ?_
      refine J_reg ?_
      refine st (s_loadB 1 rfl rfl rfl) rfl ?_
      refine st (s_callk (hli ) rfl ⟨VT.le_refl _, trivial⟩) rfl ?_
      refine a_alloc (T := 29) rfl (ltN rfl) (fun b10 => ?_)
      refine a_storeB 0 rfl rfl rfl rfl rfl (leN rfl) rfl ?_
      refine Run.nil ?_
      refine pj_then ?_
      refine J_seq ?_
      refine J_seq ?_
      refine J_regd 18 mixed (by kernel_rfl) (by decide) ?_
      refine st (s_loadW 1 rfl rfl) rfl ?_
      refine st (s_callk (hv ) rfl ⟨VT.le_refl _, trivial⟩) rfl ?_
      refine st (s_not rfl) rfl ?_
      refine st (s_move rfl) rfl ?_
      refine sg1 rfl rfl (s_fieldAddr rfl) rfl ?_
      refine sg1 rfl rfl (s_loadB 1 rfl rfl rfl) rfl ?_
      refine sg1 rfl rfl (s_callk (hfa ) rfl ⟨VT.le_refl _, trivial⟩) rfl ?_
      refine sg1 rfl rfl (s_loadB 0 rfl rfl rfl) rfl ?_
      refine sg1 rfl rfl (s_callk (g1 ) rfl ⟨VT.le_refl _, VT.le_refl _, trivial⟩) rfl ?_
      refine sg1 rfl rfl (sF (by assumption) (s_gt rfl rfl)) rfl ?_
      refine st (s_pickF rfl rfl) rfl ?_
      refine st (s_move rfl) rfl ?_
      refine sg1 rfl rfl (s_fieldAddr rfl) rfl ?_
      refine sg1 rfl rfl (s_loadB 1 rfl rfl rfl) rfl ?_
      refine sg1 rfl rfl (s_loadB 0 rfl rfl rfl) rfl ?_
      refine sg1 rfl rfl (s_callk (g2 ) rfl ⟨VT.le_refl _, VT.le_refl _, trivial⟩) rfl ?_
      refine sg1 rfl rfl (sF (by assumption) (s_gt rfl rfl)) rfl ?_
      refine st (s_pickF rfl rfl) rfl ?_
      refine Run.nil ?_
      refine Run.nil ?_
      refine pj_then ?_
      refine J_cond0 rfl ?_
      refine J_skip ?_
      refine pj_then ?_
      refine J_seq ?_
      refine J_regU2 mixed (by kernel_rfl) (by kernel_rfl) ?_
      refine ux (fun B => s_fieldAddr rfl) rfl rfl ?_
      refine ux (fun B => s_loadB 1 rfl rfl rfl) rfl rfl ?_
      refine ux (fun B => s_loadB 3 rfl rfl rfl) rfl rfl ?_
      refine ux (fun B => s_fieldAddr rfl) rfl rfl ?_
      refine ux (fun B => s_loadB 1 rfl rfl rfl) rfl rfl ?_
      refine uxk (hmu ) rfl ⟨VT.le_refl _, VT.le_refl _, trivial⟩ rfl ?_
      refine uxk (hsu ) rfl ⟨VT.le_refl _, VT.le_refl _, trivial⟩ rfl ?_
      refine ux (fun B => s_loadB 2 rfl rfl rfl) rfl rfl ?_
      refine uxk (hdm ) rfl ⟨VT.le_refl _, VT.le_refl _, trivial⟩ rfl ?_
      refine ux (fun B => s_move rfl) rfl rfl ?_
      refine ux (fun B => s_extract rfl rfl) rfl rfl ?_
      refine ux (fun B => s_extract rfl rfl) rfl rfl ?_
      refine ux (fun B => s_extract rfl rfl) rfl rfl ?_
      refine ua rfl ?_
      refine ua rfl ?_
      refine us rfl ?_
      refine us rfl ?_
      refine ux (fun B => s_assign rfl) rfl rfl ?_
      refine RunU.nil (fun γ => ?_)
      refine PJ_normM (M' := [_, _, _, _, _, _, _, _]) rfl ?_
      refine pj_then ?_
      refine J_seq ?_
      refine J_reg ?_
      refine st (s_loadB 0 rfl rfl rfl) rfl ?_
      refine st (s_callk (hsi ) rfl ⟨VT.le_refl _, trivial⟩) rfl ?_
      refine st (sT (by omega) (s_eq rfl rfl)) rfl ?_
      refine st (s_move rfl) rfl ?_
      refine sg1 rfl rfl (s_fieldAddr rfl) rfl ?_
      refine sg1 rfl rfl (s_loadB 3 rfl rfl rfl) rfl ?_
      refine sg1 rfl rfl (s_loadB 4 rfl rfl rfl) rfl ?_
      refine sg1 rfl rfl (s_callk (hgc ) rfl ⟨VT.le_refl _, VT.le_refl _, trivial⟩) rfl ?_
      refine sg1 rfl rfl (s_callk (o1 ) rfl ⟨VT.le_refl _, trivial⟩) rfl ?_
      refine sg1 rfl rfl (s_callk (hsa ) rfl ⟨VT.le_refl _, VT.le_refl _, trivial⟩) rfl ?_
      refine st (s_pickT rfl rfl) rfl ?_
      refine st (s_move rfl) rfl ?_
      refine sg1 rfl rfl (s_move rfl) rfl ?_
      refine st (s_pickT rfl rfl) rfl ?_
      refine st (s_assign rfl) rfl ?_
      refine Run.nil ?_
      refine pj_then ?_
      refine J_ret ?_
      refine retc1 Try.results9 (.tmp rfl (VT.le_refl _))
theorem rationalsLawY_ok (x : List Nat) (xn : Bool) (y : List Nat) (yn : Bool) (hx : (∀ d ∈ x, d < 4294967296) ∧ True) (hy : (∀ d ∈ y, d < 4294967296) ∧ True) : Ok Try.prog 9 [numP x xn, numP y yn] (one (.bool true)) := rationalsLaw_ok x xn y yn hx.1 hy.1
end Tor
end

section
set_option linter.unusedVariables false
set_option linter.unusedSimpArgs false
namespace Tor
open Go Go.RowKit Go.Proofs
structure EucI (a : Int) (m s : Nat) (x y : Nat × Int) : Prop where
  det : (x.1 : Int) * y.2 - (y.1 : Int) * x.2 = m ∨ (x.1 : Int) * y.2 - (y.1 : Int) * x.2 = -(m : Int)
  sg : x.2 * y.2 ≤ 0
  gx : s < x.1
  ax : (m : Int) ∣ (x.1 : Int) - a * x.2
  ay : (m : Int) ∣ (y.1 : Int) - a * y.2
theorem mul_self_nn (q : Int) : 0 ≤ q * q := by
  rcases Int.le_total 0 q with h | h
  · exact Int.mul_nonneg h h
  · exact Int.mul_nonneg_of_nonpos_of_nonpos h h
theorem EucI.step {a : Int} {m s : Nat} {x y : Nat × Int} (h : EucI a m s x y) (hc : s < y.1) : EucI a m s y (x.1 % y.1, x.2 - ((x.1 / y.1 : Nat) : Int) * y.2) := by
  have hd : (y.1 : Int) * ((x.1 / y.1 : Nat) : Int) + ((x.1 % y.1 : Nat) : Int) = (x.1 : Int) := by
    have := Nat.div_add_mod x.1 y.1
    rw [← Int.natCast_mul, ← Int.natCast_add, this]
  have hq : (0 : Int) ≤ ((x.1 / y.1 : Nat) : Int) := Int.natCast_nonneg _
  obtain ⟨u, v, w, k1, k2⟩ := h
  refine ⟨?_, ?_, hc, k2, ?_⟩ <;> dsimp only at *
  · generalize ((x.1 / y.1 : Nat) : Int) = q at *
    generalize ((x.1 % y.1 : Nat) : Int) = r at *
    have e : (y.1 : Int) * (x.2 - q * y.2) - r * y.2 = -((x.1 : Int) * y.2 - (y.1 : Int) * x.2) := by grind
    rw [e]
    rcases u with u | u <;> rw [u]
    · right; rfl
    · left; omega
  · generalize ((x.1 / y.1 : Nat) : Int) = q at *
    have e : y.2 * (x.2 - q * y.2) = x.2 * y.2 - q * (y.2 * y.2) := by grind
    rw [e]
    have := Int.mul_nonneg hq (mul_self_nn y.2)
    omega
  · generalize ((x.1 / y.1 : Nat) : Int) = q at *
    generalize ((x.1 % y.1 : Nat) : Int) = r at *
    have e : r - a * (x.2 - q * y.2) = ((x.1 : Int) - a * x.2) - q * ((y.1 : Int) - a * y.2) := by grind
    rw [e]
    exact Int.dvd_sub k1 (Int.dvd_mul_of_dvd_right k2)
theorem eucF_inv {a : Int} {m s : Nat} : ∀ (f : Nat) (x y : Nat × Int), y.1 < f → EucI a m s x y → ∃ x', EucI a m s x' (eucF s f x y) ∧ (eucF s f x y).1 ≤ s
  | 0, _, _, h, _ => absurd h (Nat.not_lt_zero _)
  | f + 1, x, y, h, hi => by
    rw [eucF]
    by_cases c : s < y.1
    · rw [if_pos c]
      exact eucF_inv f _ _ (by have := Nat.mod_lt x.1 (show 0 < y.1 by omega); show x.1 % y.1 < f; omega) (hi.step c)
    · rw [if_neg c]
      exact ⟨x, hi, by omega⟩
theorem abs_lt_dvd {m z : Int} (h : m ∣ z) (hl : z.natAbs < m.natAbs) : z = 0 := by
  obtain ⟨k, rfl⟩ := h
  rw [Int.natAbs_mul] at hl
  by_cases hk : k = 0
  · rw [hk, Int.mul_zero]
  · have := Nat.le_mul_of_pos_right m.natAbs (show 0 < k.natAbs by omega)
    omega
theorem add_same {P Q : Int} (h : 0 ≤ P * Q) : Q.natAbs ≤ (P + Q).natAbs := by
  rcases Int.lt_trichotomy P 0 with p | p | p
  · rcases Int.lt_trichotomy Q 0 with q | q | q
    · omega
    · omega
    · have := Int.mul_neg_of_neg_of_pos p q; omega
  · omega
  · rcases Int.lt_trichotomy Q 0 with q | q | q
    · have := Int.mul_neg_of_pos_of_neg p q; omega
    · omega
    · omega
/-- A pair of the lattice within the bounds lies on the line of the last row. -/
theorem lattice {a n d : Int} {m s : Nat} {x y : Nat × Int} (h : EucI a m s x y) (hy : y.1 ≤ s) (hm : 2 * (s * s) < m) (hn : n.natAbs ≤ s) (hd : d.natAbs ≤ s) (hd0 : 0 < d) (hc : (m : Int) ∣ n - a * d) :
    n * y.2 = (y.1 : Int) * d ∧ y.2 ≠ 0 := by
  obtain ⟨u, v, w, k1, k2⟩ := h
  have hA : (m : Int) ∣ n * y.2 - (y.1 : Int) * d := by
    have e : n * y.2 - (y.1 : Int) * d = (n - a * d) * y.2 - ((y.1 : Int) - a * y.2) * d := by grind
    rw [e]
    exact Int.dvd_sub (Int.dvd_mul_of_dvd_left hc) (Int.dvd_mul_of_dvd_left k2)
  have hB : (m : Int) ∣ (x.1 : Int) * d - n * x.2 := by
    have e : (x.1 : Int) * d - n * x.2 = ((x.1 : Int) - a * x.2) * d - (n - a * d) * x.2 := by grind
    rw [e]
    exact Int.dvd_sub (Int.dvd_mul_of_dvd_left k1) (Int.dvd_mul_of_dvd_left hc)
  have hm0 : (m : Int) ≠ 0 := by omega
  obtain ⟨α, hα⟩ := hA
  obtain ⟨β, hβ⟩ := hB
  -- with the sign of the determinant taken into the factors
  obtain ⟨α, β, eα, e1, e2⟩ : ∃ α' β' : Int, (α = α' ∨ α = -α') ∧ n = α' * x.1 + β' * y.1 ∧ d = α' * x.2 + β' * y.2 := by
    rcases u with u | u
    · refine ⟨α, β, .inl rfl, Int.eq_of_mul_eq_mul_left hm0 ?_, Int.eq_of_mul_eq_mul_left hm0 ?_⟩ <;> grind
    · refine ⟨-α, -β, .inr (by omega), Int.eq_of_mul_eq_mul_left hm0 ?_, Int.eq_of_mul_eq_mul_left hm0 ?_⟩ <;> grind
  have hx1 : (s : Int) < (x.1 : Int) := by omega
  have hy1 : (0 : Int) ≤ (y.1 : Int) := Int.natCast_nonneg _
  by_cases h0 : α = 0
  · rw [h0, Int.zero_mul, Int.zero_add] at e1 e2
    refine ⟨by rw [e1, e2]; ac_rfl, fun k => ?_⟩
    rw [k, Int.mul_zero] at e2
    omega
  · exfalso
    by_cases hs : y.2.natAbs ≤ s
    · have hl : (n * y.2 - (y.1 : Int) * d).natAbs < (m : Int).natAbs := by
        have t1 := Nat.mul_le_mul hn hs
        have t2 := Nat.mul_le_mul hy hd
        rw [← Int.natAbs_mul] at t1
        have t3 : ((y.1 : Int) * d).natAbs ≤ s * s := by rw [Int.natAbs_mul, Int.natAbs_natCast]; exact t2
        rw [Int.natAbs_natCast]
        omega
      have hz := abs_lt_dvd ⟨_, hα⟩ hl
      rw [hα] at hz
      rcases Int.mul_eq_zero.1 hz with k | k <;> omega
    · rcases Int.lt_trichotomy α 0 with p | p | p
      · rcases Int.lt_trichotomy β 0 with q | q | q
        · have t1 := Int.mul_le_mul_of_nonneg_right (show α ≤ -1 by omega) (show (0 : Int) ≤ x.1 by omega)
          have t2 := Int.mul_le_mul_of_nonneg_right (show β ≤ 0 by omega) hy1
          omega
        · have t1 := Int.mul_le_mul_of_nonneg_right (show α ≤ -1 by omega) (show (0 : Int) ≤ x.1 by omega)
          rw [q, Int.zero_mul] at e1
          omega
        · have t1 : 0 ≤ (α * x.2) * (β * y.2) := by
            have e : (α * x.2) * (β * y.2) = (α * β) * (x.2 * y.2) := by ac_rfl
            rw [e]
            exact Int.mul_nonneg_of_nonpos_of_nonpos (by have := Int.mul_neg_of_neg_of_pos p q; omega) v
          have t2 := add_same t1
          rw [← e2, Int.natAbs_mul] at t2
          have t3 := Nat.le_mul_of_pos_left y.2.natAbs (show 0 < β.natAbs by omega)
          omega
      · exact h0 p
      · rcases Int.lt_trichotomy β 0 with q | q | q
        · have t1 : 0 ≤ (α * x.2) * (β * y.2) := by
            have e : (α * x.2) * (β * y.2) = (α * β) * (x.2 * y.2) := by ac_rfl
            rw [e]
            exact Int.mul_nonneg_of_nonpos_of_nonpos (by have := Int.mul_neg_of_pos_of_neg p q; omega) v
          have t2 := add_same t1
          rw [← e2, Int.natAbs_mul] at t2
          have t3 := Nat.le_mul_of_pos_left y.2.natAbs (show 0 < β.natAbs by omega)
          omega
        · have t1 := Int.mul_le_mul_of_nonneg_right (show 1 ≤ α by omega) (show (0 : Int) ≤ x.1 by omega)
          rw [q, Int.zero_mul] at e1
          omega
        · have t1 := Int.mul_le_mul_of_nonneg_right (show 1 ≤ α by omega) (show (0 : Int) ≤ x.1 by omega)
          have t2 := Int.mul_le_mul_of_nonneg_right (show 0 ≤ β by omega) hy1
          omega
theorem ratE_of {a n d : Int} {m s : Nat} (hm : 2 * (s * s) < m) (hsm : s < m) (hn : n.natAbs ≤ s) (hd : d.natAbs ≤ s) (hd0 : 0 < d) (hg : Nat.gcd d.natAbs m = 1) (hc : (m : Int) ∣ n - a * d) :
    ratE a m s = some (Rat.divInt n d) := by
  have hm0 : (m : Int) ≠ 0 := by omega
  have n1 := Int.emod_nonneg a hm0
  have n2 := Int.emod_lt_of_pos a (show 0 < (m : Int) by omega)
  obtain ⟨x, hi, hy⟩ := eucF_inv (a := a) (m := m) (s := s) (m + 1) (m, 0) ((a % (m : Int)).toNat, 1) (show (a % (m : Int)).toNat < m + 1 by omega)
    ⟨.inl (by simp), by simp, hsm, by simp, by
      show (m : Int) ∣ ((a % (m : Int)).toNat : Int) - a * 1
      rw [Int.toNat_of_nonneg n1, Int.mul_one]
      have := Int.dvd_self_sub_emod (x := a) (m := (m : Int))
      have e : a % (m : Int) - a = -(a - a % (m : Int)) := by omega
      rw [e]; exact Int.dvd_neg.2 this⟩
  unfold ratE
  dsimp only
  generalize eucF s (m + 1) (m, 0) ((a % (m : Int)).toNat, 1) = y at *
  obtain ⟨l1, l2⟩ := lattice hi hy hm hn hd hd0 hc
  have hE : Rat.divInt (y.1 : Int) y.2 = Rat.divInt n d := (Rat.divInt_eq_divInt_iff l2 (by omega)).2 l1.symm
  rw [if_neg l2, hE, if_pos]
  have g0 : ((Nat.gcd n.natAbs d.natAbs : Nat) : Int) ≠ 0 := gcd_ne (by omega)
  obtain ⟨p1, p2⟩ := low_pos (n := n) hd0
  have d1 : ((Nat.gcd n.natAbs d.natAbs : Nat) : Int) ∣ n := Int.gcd_dvd_left ..
  have d2 : ((Nat.gcd n.natAbs d.natAbs : Nat) : Int) ∣ d := Int.gcd_dvd_right ..
  have hgm : Nat.gcd (Nat.gcd n.natAbs d.natAbs) m = 1 := Nat.eq_one_of_dvd_one (hg ▸ Nat.dvd_gcd (Nat.dvd_trans (Nat.gcd_dvd_left _ _) (Nat.gcd_dvd_right _ _)) (Nat.gcd_dvd_right _ _))
  have b1 := num_le (a := n) (b := d)
  have b2 := den_le (a := n) (b := d) (by omega)
  rw [ratCond_iff]
  generalize Nat.gcd n.natAbs d.natAbs = g at *
  obtain ⟨n', hn'⟩ := d1
  obtain ⟨d', hd'⟩ := d2
  rw [Int.ediv_eq_of_eq_mul_right g0 hn'] at p1
  rw [Int.ediv_eq_of_eq_mul_right g0 hd'] at p2
  refine ⟨by omega, by omega, ?_, ?_⟩
  · refine Nat.eq_one_of_dvd_one (hg ▸ Nat.dvd_gcd (Nat.dvd_trans (Nat.gcd_dvd_left _ _) ?_) (Nat.gcd_dvd_right _ _))
    have t := congrArg Int.natAbs hd'
    rw [Int.natAbs_mul, p2, Int.natAbs_natCast, Int.natAbs_natCast] at t
    exact ⟨g, by rw [t]; exact Nat.mul_comm _ _⟩
  · refine Int.emod_eq_zero_of_dvd ?_
    rw [← p1, ← p2]
    have e : n - a * d = (g : Int) * (n' - a * d') := by
      conv => lhs; rw [hn', hd']
      grind
    rw [e] at hc
    have t := Int.natAbs_dvd_natAbs.2 hc
    rw [Int.natAbs_mul, Int.natAbs_natCast, Int.natAbs_natCast] at t
    have hcop : Nat.Coprime m g := (Nat.gcd_comm m g).trans hgm
    exact Int.natAbs_dvd_natAbs.1 (by rw [Int.natAbs_natCast]; exact hcop.dvd_of_dvd_mul_left t)
end Tor
end
