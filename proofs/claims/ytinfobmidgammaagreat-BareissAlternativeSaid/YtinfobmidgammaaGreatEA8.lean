/-
  Proofs that laws of this seat return true for every input, and that their arguments read afterwards as before.
  No condition.
-/
import Derived.Test.YtinfobmidgammaaGreatEA7
import Derived.Test.YtinfobmidgammaaGreatRows
section
set_option linter.unusedVariables false
set_option linter.unusedSimpArgs false
namespace Tor
open Go Go.RowKit Go.Proofs
def smB (X : Nat) : Nat → Nat
  | 0 => 1
  | i + 1 => smB X i + X + 1
theorem smB_mono {X i k : Nat} (h : i ≤ k) : smB X i ≤ smB X k := by
  induction k with
  | zero => have : i = 0 := by omega
            subst this; exact Nat.le_refl _
  | succ k ih =>
    by_cases e : i = k + 1
    · rw [e]; exact Nat.le_refl _
    · have := ih (by omega)
      show smB X i ≤ smB X k + X + 1
      omega
theorem qz_sm {X : Nat} {f : Nat → Rat} {n : Nat} (h : ∀ i, i < n → qz X (f i)) : ∀ i, i ≤ n → qz (smB X i) (Lin.sm i f)
  | 0, _ => qz_zero 1 (Nat.le_refl _)
  | i + 1, hi => qz_add (qz_sm h i (by omega)) (h i (by omega))
attribute [local irreducible] Tor.J Tor.PJ Tor.StepO Tor.one Tor.slT Tor.ptrT Tor.aggT Tor.tupT Tor.exT Tor.andT Tor.gT Tor.eP Tor.boxO Tor.sliO Tor.slV Tor.VT.le Tor.Ret Tor.anyT Tor.mapO Tor.metT Tor.xO
attribute [local irreducible] bigT ratT
set_option maxHeartbeats 4000000 in
theorem r8Zeros_ok (n : Nat) (l : Nat → Rat) (hn : n ≤ 1048576) : Ok Tryz.prog 29 [ratF n l] (one (.bool (decide (∀ i, i < n → l i = 0)))) := by
  unfold ratF
  refine Ok.enter Tryz.func29 rfl Tryz.ntmps29 rfl (fun w O => ?_)
  refine J_seq ?_
  refine J_reg ?_
  refine st (s_assign rfl) rfl ?_
  refine Run.nil ?_
  refine pj_then ?_
  refine J_seq ?_
  refine J_seq ?_
  refine J_reg ?_
  refine st (s_assign rfl) rfl ?_
  refine Run.nil ?_
  refine pj_then ?_
  refine J_block ?_
  refine J_sub (Γ' := [(0, _), (2, _), (3, _)]) (SubG.cons rfl (VT.le_refl _) (SubG.cons rfl (VT.le_refl _) (SubG.cons rfl (VT.le_refl _) (SubG.nil)))) (SubM.refl _) ?_
  refine J_loopA (σ := Nat) (Γk := [(0, _)]) (SubG.cons rfl (VT.le_refl _) (SubG.nil)) (fun i => [(3, one (.int .i64 (i : Nat)))]) (fun i M0 => M0) (fun i => i ≤ n ∧ ∀ q, q < i → l q = 0) (fun i => n - i) (0) (⟨Nat.zero_le _, fun q h => absurd h (Nat.not_lt_zero _)⟩) (by repeat (first | exact SubG.refl _ | exact SubG.nil | refine SubG.cons rfl (VT.le_refl _) ?_ | (refine SubG.cons rfl (one_le ?_) ?_; (congr 1; first | omega | (simp; omega) | simp)))) (.nil) (fun i hi => ?_)
  refine J_norm (Γ' := [(3, _), (0, _)]) (M' := []) rfl rfl ?_
  obtain ⟨hi1, hi2⟩ := hi
  by_cases hi : i < n
  · have hs := sgnI_zero (l i).num
    by_cases h0 : l i = 0
    · have hs0 := hs.2 (Rat.num_eq_zero.2 h0)
      refine J_seq ?_
      refine J_seq ?_
      refine J_reg ?_
      refine st (s_move rfl) rfl ?_
      refine st (s_move rfl) rfl ?_
      refine st (s_len rfl) rfl ?_
      refine st (sT (by omega) (s_lt rfl rfl)) rfl ?_
      refine Run.nil ?_
      refine pj_then ?_
      refine J_cond1 rfl ?_
      refine J_skip ?_
      refine pj_then ?_
      refine J_seq ?_
      refine J_block ?_
      refine J_seq ?_
      refine J_reg ?_
      refine st (s_move rfl) rfl ?_
      refine st (s_move rfl) rfl ?_
      refine st (s_indexIN rfl rfl (by omega)) rfl ?_
      refine st (s_load rfl) rfl ?_
      refine st (s_callk (rqSign_ok _) rfl ⟨VT.le_refl _, trivial⟩) rfl ?_
      refine st (sF (by omega) (s_ne rfl rfl)) rfl ?_
      refine Run.nil ?_
      refine pj_then ?_
      refine J_cond0 rfl ?_
      refine J_skip ?_
      refine pn_block ?_
      refine pj_then ?_
      refine J_reg ?_
      refine st (s_move rfl) rfl ?_
      refine st (s_addN _ 1 rfl rfl (by omega)) rfl ?_
      refine st (s_assign rfl) rfl ?_
      refine Run.nil ?_
      refine pj_roundM (i + 1) (⟨hi, fun q h => by by_cases h3 : q = i; exact h3 ▸ h0; exact hi2 q (by omega)⟩) (by omega) (by repeat (first | exact SubG.refl _ | exact SubG.nil | refine SubG.cons rfl (VT.le_refl _) ?_ | (refine SubG.cons rfl (one_le ?_) ?_; (congr 1; first | omega | (simp; omega) | simp)))) (.nil)
    · have hs0 : sgnI (l i).num ≠ 0 := fun h => h0 (Rat.num_eq_zero.1 (hs.1 h))
      rw [decide_eq_false (fun h => h0 (h i hi))]
      refine J_seq ?_
      refine J_seq ?_
      refine J_reg ?_
      refine st (s_move rfl) rfl ?_
      refine st (s_move rfl) rfl ?_
      refine st (s_len rfl) rfl ?_
      refine st (sT (by omega) (s_lt rfl rfl)) rfl ?_
      refine Run.nil ?_
      refine pj_then ?_
      refine J_cond1 rfl ?_
      refine J_skip ?_
      refine pj_then ?_
      refine J_seq ?_
      refine J_block ?_
      refine J_seq ?_
      refine J_reg ?_
      refine st (s_move rfl) rfl ?_
      refine st (s_move rfl) rfl ?_
      refine st (s_indexIN rfl rfl (by omega)) rfl ?_
      refine st (s_load rfl) rfl ?_
      refine st (s_callk (rqSign_ok _) rfl ⟨VT.le_refl _, trivial⟩) rfl ?_
      refine st (sT (by assumption) (s_ne rfl rfl)) rfl ?_
      refine Run.nil ?_
      refine pj_then ?_
      refine J_cond1 rfl ?_
      refine J_seq ?_
      refine J_reg ?_
      refine st (s_assign rfl) rfl ?_
      refine Run.nil ?_
      refine pj_then ?_
      refine J_ret ?_
      refine pr_block ?_
      refine pr_then ?_
      refine pr_then ?_
      refine pr_block ?_
      refine pr_then ?_
      refine retc1 Tryz.results29 (.tmp rfl (VT.le_refl _))
  · rw [decide_eq_true (fun q h => hi2 q (by omega))]
    refine J_seq ?_
    refine J_seq ?_
    refine J_reg ?_
    refine st (s_move rfl) rfl ?_
    refine st (s_move rfl) rfl ?_
    refine st (s_len rfl) rfl ?_
    refine st (sF (by omega) (s_lt rfl rfl)) rfl ?_
    refine Run.nil ?_
    refine pj_then ?_
    refine J_cond0 rfl ?_
    refine J_exit ?_
    refine px_then ?_
    refine px_then ?_
    refine px_block ?_
    refine pj_then ?_
    refine J_seq ?_
    refine J_reg ?_
    refine st (s_assign rfl) rfl ?_
    refine Run.nil ?_
    refine pj_then ?_
    refine J_ret ?_
    refine retc1 Tryz.results29 (.tmp rfl (VT.le_refl _))
set_option maxHeartbeats 4000000 in
theorem r8Ints_ok (n m : Nat) (f g : Nat → Int) (hn : n ≤ 1048576) : Ok Tryz.prog 15 [slT .one n (fun q => one (.int .i64 (f q))), slT .one m (fun q => one (.int .i64 (g q)))] (one (.bool (decide (n = m ∧ ∀ i, i < n → f i = g i)))) := by
  refine Ok.enter Tryz.func15 rfl Tryz.ntmps15 rfl (fun w O => ?_)
  by_cases h : n = m
  · subst h
    refine J_seq ?_
    refine J_reg ?_
    refine st (s_assign rfl) rfl ?_
    refine Run.nil ?_
    refine pj_then ?_
    refine J_seq ?_
    refine J_seq ?_
    refine J_reg ?_
    refine st (s_move rfl) rfl ?_
    refine st (s_len rfl) rfl ?_
    refine st (s_move rfl) rfl ?_
    refine st (s_len rfl) rfl ?_
    refine st (sF (by omega) (s_ne rfl rfl)) rfl ?_
    refine Run.nil ?_
    refine pj_then ?_
    refine J_cond0 rfl ?_
    refine J_skip ?_
    refine pj_then ?_
    refine J_seq ?_
    refine J_seq ?_
    refine J_reg ?_
    refine st (s_assign rfl) rfl ?_
    refine Run.nil ?_
    refine pj_then ?_
    refine J_block ?_
    refine J_sub (Γ' := [(0, _), (1, _), (4, _), (5, _)]) (SubG.cons rfl (VT.le_refl _) (SubG.cons rfl (VT.le_refl _) (SubG.cons rfl (VT.le_refl _) (SubG.cons rfl (VT.le_refl _) (SubG.nil))))) (SubM.refl _) ?_
    refine J_loopA (σ := Nat) (Γk := [(0, _), (1, _)]) (SubG.cons rfl (VT.le_refl _) (SubG.cons rfl (VT.le_refl _) (SubG.nil))) (fun i => [(5, one (.int .i64 (i : Nat)))]) (fun i M0 => M0) (fun i => i ≤ n ∧ ∀ q, q < i → f q = g q) (fun i => n - i) (0) (⟨Nat.zero_le _, fun q h => absurd h (Nat.not_lt_zero _)⟩) (by repeat (first | exact SubG.refl _ | exact SubG.nil | refine SubG.cons rfl (VT.le_refl _) ?_ | (refine SubG.cons rfl (one_le ?_) ?_; (congr 1; first | omega | (simp; omega) | simp)))) (.nil) (fun i hi => ?_)
    refine J_norm (Γ' := [(5, _), (0, _), (1, _)]) (M' := []) rfl rfl ?_
    obtain ⟨hi, hq⟩ := hi
    by_cases hin : i < n
    · by_cases he : f i = g i
      · refine J_seq ?_
        refine J_seq ?_
        refine J_reg ?_
        refine st (s_move rfl) rfl ?_
        refine st (s_move rfl) rfl ?_
        refine st (s_len rfl) rfl ?_
        refine st (sT (by omega) (s_lt rfl rfl)) rfl ?_
        refine Run.nil ?_
        refine pj_then ?_
        refine J_cond1 rfl ?_
        refine J_skip ?_
        refine pj_then ?_
        refine J_seq ?_
        refine J_block ?_
        refine J_seq ?_
        refine J_regd 9 mixed (by kernel_rfl) (by decide) ?_
        refine st (s_move rfl) rfl ?_
        refine st (s_move rfl) rfl ?_
        refine st (s_indexIN rfl rfl (by omega)) rfl ?_
        refine st (s_load rfl) rfl ?_
        refine st (s_move rfl) rfl ?_
        refine st (s_move rfl) rfl ?_
        refine st (s_indexIN rfl rfl (by omega)) rfl ?_
        refine st (s_load rfl) rfl ?_
        refine st (sF (by omega) (s_ne rfl rfl)) rfl ?_
        refine Run.nil ?_
        refine Run.nil ?_
        refine pj_then ?_
        refine J_cond0 rfl ?_
        refine J_skip ?_
        refine pn_block ?_
        refine pj_then ?_
        refine J_reg ?_
        refine st (s_move rfl) rfl ?_
        refine st (s_addN _ 1 rfl rfl (by omega)) rfl ?_
        refine st (s_assign rfl) rfl ?_
        refine Run.nil ?_
        refine pj_roundM (i + 1) (⟨hin, fun q h => by by_cases h3 : q = i; exact h3 ▸ he; exact hq q (by omega)⟩) (by omega) (by repeat (first | exact SubG.refl _ | exact SubG.nil | refine SubG.cons rfl (VT.le_refl _) ?_ | (refine SubG.cons rfl (one_le ?_) ?_; (congr 1; first | omega | (simp; omega) | simp)))) (.nil)
      · rw [decide_eq_false (fun h => he (h.2 i hin))]
        refine J_seq ?_
        refine J_seq ?_
        refine J_reg ?_
        refine st (s_move rfl) rfl ?_
        refine st (s_move rfl) rfl ?_
        refine st (s_len rfl) rfl ?_
        refine st (sT (by omega) (s_lt rfl rfl)) rfl ?_
        refine Run.nil ?_
        refine pj_then ?_
        refine J_cond1 rfl ?_
        refine J_skip ?_
        refine pj_then ?_
        refine J_seq ?_
        refine J_block ?_
        refine J_seq ?_
        refine J_regd 9 mixed (by kernel_rfl) (by decide) ?_
        refine st (s_move rfl) rfl ?_
        refine st (s_move rfl) rfl ?_
        refine st (s_indexIN rfl rfl (by omega)) rfl ?_
        refine st (s_load rfl) rfl ?_
        refine st (s_move rfl) rfl ?_
        refine st (s_move rfl) rfl ?_
        refine st (s_indexIN rfl rfl (by omega)) rfl ?_
        refine st (s_load rfl) rfl ?_
        refine st (sT (by assumption) (s_ne rfl rfl)) rfl ?_
        refine Run.nil ?_
        refine Run.nil ?_
        refine pj_then ?_
        refine J_cond1 rfl ?_
        refine J_seq ?_
        refine J_reg ?_
        refine st (s_assign rfl) rfl ?_
        refine Run.nil ?_
        refine pj_then ?_
        refine J_ret ?_
        refine pr_block ?_
        refine pr_then ?_
        refine pr_then ?_
        refine pr_block ?_
        refine pr_then ?_
        refine retc1 Tryz.results15 (.tmp rfl (VT.le_refl _))
    · rw [decide_eq_true ⟨rfl, fun q h => hq q (by omega)⟩]
      refine J_seq ?_
      refine J_seq ?_
      refine J_reg ?_
      refine st (s_move rfl) rfl ?_
      refine st (s_move rfl) rfl ?_
      refine st (s_len rfl) rfl ?_
      refine st (sF (by omega) (s_lt rfl rfl)) rfl ?_
      refine Run.nil ?_
      refine pj_then ?_
      refine J_cond0 rfl ?_
      refine J_exit ?_
      refine px_then ?_
      refine px_then ?_
      refine px_block ?_
      refine pj_then ?_
      refine J_seq ?_
      refine J_reg ?_
      refine st (s_assign rfl) rfl ?_
      refine Run.nil ?_
      refine pj_then ?_
      refine J_ret ?_
      refine retc1 Tryz.results15 (.tmp rfl (VT.le_refl _))
  · rw [decide_eq_false (fun k => h k.1)]
    refine J_seq ?_
    refine J_reg ?_
    refine st (s_assign rfl) rfl ?_
    refine Run.nil ?_
    refine pj_then ?_
    refine J_seq ?_
    refine J_seq ?_
    refine J_reg ?_
    refine st (s_move rfl) rfl ?_
    refine st (s_len rfl) rfl ?_
    refine st (s_move rfl) rfl ?_
    refine st (s_len rfl) rfl ?_
    refine st (sT (by omega) (s_ne rfl rfl)) rfl ?_
    refine Run.nil ?_
    refine pj_then ?_
    refine J_cond1 rfl ?_
    refine J_seq ?_
    refine J_reg ?_
    refine st (s_assign rfl) rfl ?_
    refine Run.nil ?_
    refine pj_then ?_
    refine J_ret ?_
    refine pr_then ?_
    refine retc1 Tryz.results15 (.tmp rfl (VT.le_refl _))
set_option maxHeartbeats 4000000 in
theorem r8Act_ok (r c : Nat) (x : Nat → Rat) (F : Nat → Nat → Int) (X α : Nat) (hr : r ≤ 1024) (hc : c ≤ 1024) (hα : 1 ≤ α) (hx : ∀ i, i < r → qz X (x i)) (hF : ∀ i j, lz α (F i j)) (hz : smB (X + α) r ≤ 1099511627700) :
    Ok Tryz.prog 34 [ratF r x, matF r c F] (ratF c (fun j => Lin.sm r (fun i => x i * (F i j : Rat)))) := by
  have h0 := rqNumber_ok 0 (by decide) (by decide)
  unfold ratF matF
  refine Ok.enter Tryz.func34 rfl Tryz.ntmps34 rfl (fun w O => ?_)
  refine J_seq ?_
  refine J_reg ?_
  refine a_boxS rfl rfl (ltN rfl) (fun b3 => ?_)
  refine st (s_assign rfl) rfl ?_
  refine Run.nil ?_
  refine pj_then ?_
  refine J_seq ?_
  refine J_reg ?_
  refine stSO (n := 0) rfl rfl rfl rfl rfl ?_
  refine PartsK.nil (fun bl => ?_)
  refine st (s_assign rfl) rfl ?_
  refine Run.nil ?_
  refine pj_then ?_
  refine J_seq ?_
  refine J_seq ?_
  refine J_reg ?_
  refine st (s_assign rfl) rfl ?_
  refine Run.nil ?_
  refine pj_then ?_
  refine J_block ?_
  refine J_sub (Γ' := [(0, _), (3, _), (4, _), (5, _), (6, _)]) (SubG.cons rfl (VT.le_refl _) (SubG.cons rfl (VT.le_refl _) (SubG.cons rfl (VT.le_refl _) (SubG.cons rfl (VT.le_refl _) (SubG.cons rfl (VT.le_refl _) (SubG.nil)))))) (SubM.refl _) ?_
  refine J_loopA (σ := Nat × Option Nat × Nat) (Γk := [(0, _), (3, _), (4, _)]) (SubG.cons rfl (VT.le_refl _) (SubG.cons rfl (VT.le_refl _) (SubG.cons rfl (VT.le_refl _) (SubG.nil)))) (fun s => [(6, one (.int .i64 (s.1 : Nat))), (5, one (slV s.2.1 s.1 s.2.2))]) (fun s M0 => (M0.set 0 (sliO s.2.1 63 (.agg 4) s.2.2 s.1 (fun j => ratT (Lin.sm r (fun i => x i * (F i j : Rat))))))) (fun s => s.1 ≤ c) (fun s => c - s.1) ((0, some bl, 0)) (Nat.zero_le _) (by repeat (first | exact SubG.refl _ | exact SubG.nil | refine SubG.cons rfl (VT.le_refl _) ?_ | (refine SubG.cons rfl (one_le ?_) ?_; (congr 1; first | omega | (simp; omega) | simp)))) (.keep (sliO_eq (fun q hq => absurd hq (Nat.not_lt_zero _))) (.keep (Own.le_refl _) (.nil))) (fun s hs => ?_)
  refine J_norm (Γ' := [(6, _), (5, _), (0, _), (3, _), (4, _)]) (M' := [_, _]) rfl rfl ?_
  obtain ⟨j, sv, cap⟩ := s
  dsimp only at hs ⊢
  by_cases hj : j < c
  · have hp : ∀ i, i < r → qz (X + α) (x i * (F i j : Rat)) := fun i hi => qz_mul (hx i hi) (qz_int hα (hF i j))
    refine J_seq ?_
    refine J_seq ?_
    refine J_reg ?_
    refine st (s_move rfl) rfl ?_
    refine st (s_fieldAddr rfl) rfl ?_
    refine st (s_loadB 1 rfl rfl rfl) rfl ?_
    refine st (sT (by omega) (s_lt rfl rfl)) rfl ?_
    refine Run.nil ?_
    refine pj_then ?_
    refine J_cond1 rfl ?_
    refine J_skip ?_
    refine pj_then ?_
    refine J_seq ?_
    refine J_block ?_
    refine J_seq ?_
    refine J_reg ?_
    refine st (s_callk (h0 ) rfl ⟨VT.le_refl _, trivial⟩) rfl ?_
    refine a_allocS (T := 63) rfl rfl rfl (fun b7 => ?_)
    refine a_storeV 0 rfl rfl rfl rfl ?_
    refine Run.nil ?_
    refine pj_then ?_
    refine J_seq ?_
    refine J_seq ?_
    refine J_reg ?_
    refine st (s_assign rfl) rfl ?_
    refine Run.nil ?_
    refine pj_then ?_
    refine J_block ?_
    refine J_sub (Γ' := [(0, _), (3, _), (4, _), (5, _), (6, _), (7, _), (8, _)]) (SubG.cons rfl (VT.le_refl _) (SubG.cons rfl (VT.le_refl _) (SubG.cons rfl (VT.le_refl _) (SubG.cons rfl (VT.le_refl _) (SubG.cons rfl (VT.le_refl _) (SubG.cons rfl (VT.le_refl _) (SubG.cons rfl (VT.le_refl _) (SubG.nil)))))))) (SubM.refl _) ?_
    refine J_loopA (σ := Nat) (Γk := [(0, _), (3, _), (4, _), (5, _), (6, _), (7, _)]) (SubG.cons rfl (VT.le_refl _) (SubG.cons rfl (VT.le_refl _) (SubG.cons rfl (VT.le_refl _) (SubG.cons rfl (VT.le_refl _) (SubG.cons rfl (VT.le_refl _) (SubG.cons rfl (VT.le_refl _) (SubG.nil))))))) (fun i => [(8, one (.int .i64 (i : Nat)))]) (fun i M0 => (M0.set 0 (boxO b7 63 4 [(0, .agg 4, ratT (Lin.sm i (fun i => x i * (F i j : Rat))))]))) (fun i => i ≤ r) (fun i => r - i) (0) (Nat.zero_le _) (by repeat (first | exact SubG.refl _ | exact SubG.nil | refine SubG.cons rfl (VT.le_refl _) ?_ | (refine SubG.cons rfl (one_le ?_) ?_; (congr 1; first | omega | (simp; omega) | simp)))) (.keep (Own.le_refl _) (.keep (Own.le_refl _) (.keep (Own.le_refl _) (.nil)))) (fun i hi => ?_)
    refine J_norm (Γ' := [(8, _), (0, _), (3, _), (4, _), (5, _), (6, _), (7, _)]) (M' := [_, _, _]) rfl rfl ?_
    by_cases hi : i < r
    · have hsm := qz_sm (X := X + α) (n := r) hp i (by omega)
      have hz2 : smB (X + α) (i + 1) ≤ 1099511627700 := Nat.le_trans (smB_mono (by omega)) hz
      have hz3 : smB (X + α) (i + 1) = smB (X + α) i + (X + α) + 1 := rfl
      have hm := rqMul_ok (x i) (F i j : Rat) X α (hx i hi) (qz_int hα (hF i j)) (by omega)
      have ha := rqAdd_ok (Lin.sm i (fun i => x i * (F i j : Rat))) (x i * (F i j : Rat)) (smB (X + α) i) (X + α) hsm (hp i hi) (by omega)
      unfold rowF
      refine J_seq ?_
      refine J_seq ?_
      refine J_reg ?_
      refine st (s_move rfl) rfl ?_
      refine st (s_fieldAddr rfl) rfl ?_
      refine st (s_loadB 2 rfl rfl rfl) rfl ?_
      refine st (sT (by omega) (s_lt rfl rfl)) rfl ?_
      refine Run.nil ?_
      refine pj_then ?_
      refine J_cond1 rfl ?_
      refine J_skip ?_
      refine pj_then ?_
      refine J_seq ?_
      refine J_block ?_
      refine J_regd 16 mixed (by kernel_rfl) (by decide) ?_
      refine st (s_loadB 0 rfl rfl rfl) rfl ?_
      refine st (s_move rfl) rfl ?_
      refine st (s_move rfl) rfl ?_
      refine st (s_indexIN rfl rfl (by omega)) rfl ?_
      refine st (s_load rfl) rfl ?_
      refine st (s_fieldAddr rfl) rfl ?_
      refine st (s_loadB 2 rfl rfl rfl) rfl ?_
      refine st (s_move rfl) rfl ?_
      refine st (s_indexIN rfl rfl (by omega)) rfl ?_
      refine st (s_load rfl) rfl ?_
      refine st (s_move rfl) rfl ?_
      refine st (s_indexIN rfl rfl (by omega)) rfl ?_
      refine st (s_load rfl) rfl ?_
      refine st (s_callk (rqWhole_ok _) rfl ⟨VT.le_refl _, trivial⟩) rfl ?_
      refine st (s_callk (hm ) rfl ⟨VT.le_refl _, VT.le_refl _, trivial⟩) rfl ?_
      refine st (s_callk (ha ) rfl ⟨VT.le_refl _, VT.le_refl _, trivial⟩) rfl ?_
      refine Run.nil ?_
      refine a_storeB 0 rfl rfl rfl rfl rfl (leN rfl) rfl ?_
      refine Run.nil ?_
      refine pn_block ?_
      refine pj_then ?_
      refine J_reg ?_
      refine st (s_move rfl) rfl ?_
      refine st (s_addN _ 1 rfl rfl (by omega)) rfl ?_
      refine st (s_assign rfl) rfl ?_
      refine Run.nil ?_
      refine pj_roundM (i + 1) (hi) (by omega) (by repeat (first | exact SubG.refl _ | exact SubG.nil | refine SubG.cons rfl (VT.le_refl _) ?_ | (refine SubG.cons rfl (one_le ?_) ?_; (congr 1; first | omega | (simp; omega) | simp)))) (.keep (Own.le_refl _) (.keep (Own.le_refl _) (.keep (Own.le_refl _) (.nil))))
    · have hir : i = r := by omega
      rw [hir]
      refine J_seq ?_
      refine J_seq ?_
      refine J_reg ?_
      refine st (s_move rfl) rfl ?_
      refine st (s_fieldAddr rfl) rfl ?_
      refine st (s_loadB 2 rfl rfl rfl) rfl ?_
      refine st (sF (by omega) (s_lt rfl rfl)) rfl ?_
      refine Run.nil ?_
      refine pj_then ?_
      refine J_cond0 rfl ?_
      refine J_exit ?_
      refine px_then ?_
      refine px_then ?_
      refine px_block ?_
      refine pj_then ?_
      refine J_reg ?_
      refine st (s_move rfl) rfl ?_
      refine st (s_loadB 0 rfl rfl rfl) rfl ?_
      refine stS1 rfl rfl rfl rfl ?_
      (refine a_append 1 rfl rfl rfl (leN rfl) ?_ ?_ rfl (ltN rfl) (fun sv42 cap42 => ?_); omega; omega)
      refine st (s_assign rfl) rfl ?_
      refine Run.nil ?_
      refine pn_block ?_
      refine pj_then ?_
      refine J_reg ?_
      refine st (s_move rfl) rfl ?_
      refine st (s_addN _ 1 rfl rfl (by omega)) rfl ?_
      refine st (s_assign rfl) rfl ?_
      refine Run.nil ?_
      refine pj_roundM ((j + 1, sv42, cap42)) (hj) (by omega) (by repeat (first | exact SubG.refl _ | exact SubG.nil | refine SubG.cons rfl (VT.le_refl _) ?_ | (refine SubG.cons rfl (one_le ?_) ?_; (congr 1; first | omega | (simp; omega) | simp)))) (.drop (.keep (rat_snoc (h := fun j => Lin.sm r (fun i => x i * (F i j : Rat))) rfl) (.keep (Own.le_refl _) (.nil))))
  · have he : j = c := by omega
    subst he
    refine J_seq ?_
    refine J_seq ?_
    refine J_reg ?_
    refine st (s_move rfl) rfl ?_
    refine st (s_fieldAddr rfl) rfl ?_
    refine st (s_loadB 1 rfl rfl rfl) rfl ?_
    refine st (sF (by omega) (s_lt rfl rfl)) rfl ?_
    refine Run.nil ?_
    refine pj_then ?_
    refine J_cond0 rfl ?_
    refine J_exit ?_
    refine px_then ?_
    refine px_then ?_
    refine px_block ?_
    refine pj_then ?_
    refine J_seq ?_
    refine J_reg ?_
    refine st (s_move rfl) rfl ?_
    refine st (s_assign rfl) rfl ?_
    refine Run.nil ?_
    refine pj_then ?_
    refine J_ret ?_
    refine PJ_freeze (t := 4) (i := 0) rfl rfl ?_
    refine retc1 Tryz.results34 (.tmp rfl (VT.le_refl _))
set_option maxHeartbeats 4000000 in
theorem r8Columns_ok (r c : Nat) (y : Nat → Rat) (F : Nat → Nat → Int) (X α : Nat) (hr : r ≤ 1024) (hc : c ≤ 1024) (hα : 1 ≤ α) (hy : ∀ i, i < c → qz X (y i)) (hF : ∀ i j, lz α (F i j)) (hz : smB (X + α) c ≤ 1099511627700) :
    Ok Tryz.prog 30 [matF r c F, ratF c y] (ratF r (fun i => Lin.sm c (fun j => y j * (F i j : Rat)))) := by
  have ht := rTranspose_ok r c F (by omega) (by omega)
  have ha := r8Act_ok c r y (fun i j => F j i) X α hc hr hα hy (fun i j => hF j i) hz
  refine Ok.enter Tryz.func30 rfl Tryz.ntmps30 rfl (fun w O => ?_)
  refine J_seq ?_
  refine J_reg ?_
  refine a_boxS rfl rfl (ltN rfl) (fun b2 => ?_)
  refine st (s_assign rfl) rfl ?_
  refine Run.nil ?_
  refine pj_then ?_
  refine J_seq ?_
  refine J_reg ?_
  refine st (s_move rfl) rfl ?_
  refine st (s_loadW 0 rfl rfl) rfl ?_
  refine st (s_callk (ht ) rfl ⟨VT.le_refl _, trivial⟩) rfl ?_
  refine st (s_callk (ha ) rfl ⟨VT.le_refl _, VT.le_refl _, trivial⟩) rfl ?_
  refine st (s_assign rfl) rfl ?_
  refine Run.nil ?_
  refine pj_then ?_
  refine J_ret ?_
  refine retc1 Tryz.results30 (.tmp rfl (VT.le_refl _))
set_option maxHeartbeats 4000000 in
theorem r8Dot_ok (n : Nat) (b : Nat → Int) (y : Nat → Rat) (X α : Nat) (hn : n ≤ 1024) (hα : 1 ≤ α) (hb : ∀ i, lz α (b i)) (hy : ∀ i, i < n → qz X (y i)) (hz : smB (α + X) n ≤ 1099511627700) :
    Ok Tryz.prog 32 [rowF n b, ratF n y] (ratT (Lin.sm n (fun i => (b i : Rat) * y i))) := by
  have h0 := rqNumber_ok 0 (by decide) (by decide)
  have hp : ∀ i, i < n → qz (α + X) ((b i : Rat) * y i) := fun i hi => qz_mul (qz_int hα (hb i)) (hy i hi)
  unfold ratF rowF
  refine Ok.enter Tryz.func32 rfl Tryz.ntmps32 rfl (fun w O => ?_)
  refine J_seq ?_
  refine J_reg ?_
  refine a_allocS (T := 63) rfl rfl rfl (fun b4 => ?_)
  refine Run.nil ?_
  refine pj_then ?_
  refine J_seq ?_
  refine J_reg ?_
  refine st (s_callk (h0 ) rfl ⟨VT.le_refl _, trivial⟩) rfl ?_
  refine a_allocS (T := 63) rfl rfl rfl (fun b5 => ?_)
  refine a_storeV 0 rfl rfl rfl rfl ?_
  refine Run.nil ?_
  refine pj_then ?_
  refine J_seq ?_
  refine J_seq ?_
  refine J_reg ?_
  refine st (s_assign rfl) rfl ?_
  refine Run.nil ?_
  refine pj_then ?_
  refine J_block ?_
  refine J_sub (Γ' := [(0, _), (1, _), (4, _), (5, _), (6, _)]) (SubG.cons rfl (VT.le_refl _) (SubG.cons rfl (VT.le_refl _) (SubG.cons rfl (VT.le_refl _) (SubG.cons rfl (VT.le_refl _) (SubG.cons rfl (VT.le_refl _) (SubG.nil)))))) (SubM.refl _) ?_
  refine J_loopA (σ := Nat) (Γk := [(0, _), (1, _), (4, _), (5, _)]) (SubG.cons rfl (VT.le_refl _) (SubG.cons rfl (VT.le_refl _) (SubG.cons rfl (VT.le_refl _) (SubG.cons rfl (VT.le_refl _) (SubG.nil))))) (fun i => [(6, one (.int .i64 (i : Nat)))]) (fun i M0 => (M0.set 0 (boxO b5 63 4 [(0, .agg 4, ratT (Lin.sm i (fun i => (b i : Rat) * y i)))]))) (fun i => i ≤ n) (fun i => n - i) (0) (Nat.zero_le _) (by repeat (first | exact SubG.refl _ | exact SubG.nil | refine SubG.cons rfl (VT.le_refl _) ?_ | (refine SubG.cons rfl (one_le ?_) ?_; (congr 1; first | omega | (simp; omega) | simp)))) (.keep (Own.le_refl _) (.keep (Own.le_refl _) (.nil))) (fun i hi => ?_)
  refine J_norm (Γ' := [(6, _), (0, _), (1, _), (4, _), (5, _)]) (M' := [_, _]) rfl rfl ?_
  by_cases hi : i < n
  · have hsm := qz_sm (X := α + X) (n := n) hp i (by omega)
    have hz2 : smB (α + X) (i + 1) ≤ 1099511627700 := Nat.le_trans (smB_mono (by omega)) hz
    have hz3 : smB (α + X) (i + 1) = smB (α + X) i + (α + X) + 1 := rfl
    have hm := rqMul_ok (b i : Rat) (y i) α X (qz_int hα (hb i)) (hy i hi) (by omega)
    have ha := rqAdd_ok (Lin.sm i (fun i => (b i : Rat) * y i)) ((b i : Rat) * y i) (smB (α + X) i) (α + X) hsm (hp i hi) (by omega)
    refine J_seq ?_
    refine J_seq ?_
    refine J_reg ?_
    refine st (s_move rfl) rfl ?_
    refine st (s_move rfl) rfl ?_
    refine st (s_len rfl) rfl ?_
    refine st (sT (by omega) (s_lt rfl rfl)) rfl ?_
    refine st (s_move rfl) rfl ?_
    refine sg1 rfl rfl (s_move rfl) rfl ?_
    refine sg1 rfl rfl (s_move rfl) rfl ?_
    refine sg1 rfl rfl (s_len rfl) rfl ?_
    refine sg1 rfl rfl (sT (by omega) (s_lt rfl rfl)) rfl ?_
    refine st (s_pickT rfl rfl) rfl ?_
    refine Run.nil ?_
    refine pj_then ?_
    refine J_cond1 rfl ?_
    refine J_skip ?_
    refine pj_then ?_
    refine J_seq ?_
    refine J_block ?_
    refine J_regd 12 mixed (by kernel_rfl) (by decide) ?_
    refine st (s_loadB 0 rfl rfl rfl) rfl ?_
    refine st (s_move rfl) rfl ?_
    refine st (s_move rfl) rfl ?_
    refine st (s_indexIN rfl rfl (by omega)) rfl ?_
    refine st (s_load rfl) rfl ?_
    refine st (s_callk (rqWhole_ok _) rfl ⟨VT.le_refl _, trivial⟩) rfl ?_
    refine st (s_move rfl) rfl ?_
    refine st (s_move rfl) rfl ?_
    refine st (s_indexIN rfl rfl (by omega)) rfl ?_
    refine st (s_load rfl) rfl ?_
    refine st (s_callk (hm ) rfl ⟨VT.le_refl _, VT.le_refl _, trivial⟩) rfl ?_
    refine st (s_callk (ha ) rfl ⟨VT.le_refl _, VT.le_refl _, trivial⟩) rfl ?_
    refine Run.nil ?_
    refine a_storeB 0 rfl rfl rfl rfl rfl (leN rfl) rfl ?_
    refine Run.nil ?_
    refine pn_block ?_
    refine pj_then ?_
    refine J_reg ?_
    refine st (s_move rfl) rfl ?_
    refine st (s_addN _ 1 rfl rfl (by omega)) rfl ?_
    refine st (s_assign rfl) rfl ?_
    refine Run.nil ?_
    refine pj_roundM (i + 1) (hi) (by omega) (by repeat (first | exact SubG.refl _ | exact SubG.nil | refine SubG.cons rfl (VT.le_refl _) ?_ | (refine SubG.cons rfl (one_le ?_) ?_; (congr 1; first | omega | (simp; omega) | simp)))) (.keep (Own.le_refl _) (.keep (Own.le_refl _) (.nil)))
  · have hin : i = n := by omega
    subst hin
    refine J_seq ?_
    refine J_seq ?_
    refine J_reg ?_
    refine st (s_move rfl) rfl ?_
    refine st (s_move rfl) rfl ?_
    refine st (s_len rfl) rfl ?_
    refine st (sF (by omega) (s_lt rfl rfl)) rfl ?_
    refine st (s_move rfl) rfl ?_
    refine sn0 rfl rfl rfl rfl rfl ?_
    refine sn0 rfl rfl rfl rfl rfl ?_
    refine sn0 rfl rfl rfl rfl rfl ?_
    refine sn0 rfl rfl rfl rfl rfl ?_
    refine st (s_pickF rfl rfl) rfl ?_
    refine Run.nil ?_
    refine pj_then ?_
    refine J_cond0 rfl ?_
    refine J_exit ?_
    refine px_then ?_
    refine px_then ?_
    refine px_block ?_
    refine pj_then ?_
    refine J_seq ?_
    refine J_reg ?_
    refine st (s_loadB 0 rfl rfl rfl) rfl ?_
    refine a_storeV 1 rfl rfl rfl rfl ?_
    refine Run.nil ?_
    refine pj_then ?_
    refine J_ret ?_
    refine retc1 Tryz.results32 (.cellB 1 rfl rfl rfl (VT.le_refl _))
end Tor
end

section
set_option linter.unusedVariables false
set_option linter.unusedSimpArgs false
namespace Tor
open Go Go.RowKit Go.Proofs
attribute [local irreducible] Tor.J Tor.PJ Tor.StepO Tor.one Tor.slT Tor.ptrT Tor.aggT Tor.tupT Tor.exT Tor.andT Tor.gT Tor.eP Tor.boxO Tor.sliO Tor.slV Tor.VT.le Tor.Ret Tor.anyT Tor.mapO Tor.metT Tor.xO
attribute [local irreducible] bigT rowF Tor.rowsO
end Tor
end

section
set_option linter.unusedVariables false
set_option linter.unusedSimpArgs false
namespace Tor
open Go Go.RowKit Go.Proofs
def wideF (n : Nat) (F : Nat → Nat → Int) : Nat → Nat → Int := fun i k => if k < n then F i k else (if i = k - n then 1 else 0)
def adjE (n : Nat) (F : Nat → Nat → Int) (e : ElS) : Nat → Nat → Int := fun i j => if e.piv.length < n - 1 then 0 else if e.piv.length < n then cof n F j i else if e.odd then -(e.R i (n + j)) else e.R i (n + j)
theorem lz_wide {n r : Nat} {F : Nat → Nat → Int} (hn : 1 ≤ n) (hF : ∀ i j, lz n (F i j)) : ∀ i j, lz n (wideF r F i j) := fun i j => by
  unfold wideF; split
  · exact hF _ _
  · split
    · exact lz_one hn
    · exact lz_zero _
attribute [local irreducible] Tor.J Tor.PJ Tor.StepO Tor.one Tor.slT Tor.ptrT Tor.aggT Tor.tupT Tor.exT Tor.andT Tor.gT Tor.eP Tor.boxO Tor.sliO Tor.slV Tor.VT.le Tor.Ret Tor.anyT Tor.mapO Tor.metT Tor.xO
attribute [local irreducible] bigT rowF Tor.rowsO
set_option maxHeartbeats 4000000 in
theorem AdjugateS_ok (r c : Nat) (F : Nat → Nat → Int) (h : r ≠ c) : Ok Tryz.prog 19 [matF r c F] (tupT [matF 0 0 (fun _ _ => 0), one (.int .i64 50)]) := by
  have hs := square_ok r c F
  rw [decide_eq_false h] at hs
  refine Ok.enter Tryz.func19 rfl Tryz.ntmps19 rfl (fun w O => ?_)
  refine J_seq ?_
  refine J_reg ?_
  refine a_boxS rfl rfl (ltN rfl) (fun b1 => ?_)
  refine a_allocS (T := 28) rfl rfl rfl (fun b2 => ?_)
  refine st (s_assign rfl) rfl ?_
  refine Run.nil ?_
  refine pj_then ?_
  refine J_seq ?_
  refine J_seq ?_
  refine J_reg ?_
  refine st (s_loadW 1 rfl rfl) rfl ?_
  refine st (s_callk (hs ) rfl ⟨VT.le_refl _, trivial⟩) rfl ?_
  refine st (s_not rfl) rfl ?_
  refine Run.nil ?_
  refine pj_then ?_
  refine J_cond1 rfl ?_
  refine J_seq ?_
  refine J_reg ?_
  refine stB rfl rfl rfl ?_
  refine BuildK.nil ?_
  refine a_storeW 0 rfl rfl rfl rfl ?_
  refine st (s_assign rfl) rfl ?_
  refine Run.nil ?_
  refine pj_then ?_
  refine J_ret ?_
  refine pr_then ?_
  refine retc2 Tryz.results19 (.cellW 0 rfl rfl (zero_mat _)) (.tmp rfl (VT.le_refl _))
set_option maxHeartbeats 4000000 in
theorem Adjugate_ok (r : Nat) (F : Nat → Nat → Int) (n : Nat) (hr : r ≤ 1024) (he : elim0 n r) (hF : ∀ i j, lz n (F i j)) : Ok Tryz.prog 19 [matF r r F] (tupT [matF r r (adjE r F (elN r true (wideF r F) r)), one (.int .i64 0)]) := by
  have hs := square_ok r r F
  rw [decide_eq_true rfl] at hs
  have hid := Identity_ok r (by omega)
  have hsm : ∀ i j, small (F i j) := fun i j => (hF i j).small (Nat.le_trans (small_of_elim he) (by decide))
  have hbe := Beside_ok r r F r r (fun i j => if i = j then 1 else 0) (by omega) (by omega) (by omega) hsm (fun i j => by split; exact small_one; exact small_zero)
  rw [decide_eq_true rfl] at hbe
  have hbe' : Ok Tryz.prog 63 [matF r r F, matF r r (fun i j => if i = j then 1 else 0)] (tupT [matF r (r + r) (wideF r F), one (.int .i64 0)]) := by
    unfold resMT at hbe
    rw [if_pos rfl, if_pos rfl, if_pos rfl] at hbe
    exact hbe
  clear hbe
  have hW := lz_wide (r := r) he.1 hF
  have hru := runR_ok r (r + r) r (wideF r F) true n (by omega) (by omega) (by omega) he.1 he.b hW
  obtain ⟨A, V, hE⟩ := Lin.elN_EL r (r + r) true (wideF r F) r (by omega)
  have hok := elN_ok (r := r) true he.1 hW r
  have hpr := hE.gj.pr
  have hcof := fun i j hi hj => cofactor_ok r F i j n hi hj hr he hF
  have hneg := fun d (h : lz 1099511627700 d) => NegI_ok d (h.small (by decide))
  generalize elN r true (wideF r F) r = e at *
  unfold elimT at hru
  generalize hG : adjE r F e = G
  unfold matF at *
  refine Ok.enter Tryz.func19 rfl Tryz.ntmps19 rfl (fun w O => ?_)
  refine J_seq ?_
  refine J_reg ?_
  refine a_boxS rfl rfl (ltN rfl) (fun b1 => ?_)
  refine a_allocS (T := 28) rfl rfl rfl (fun b2 => ?_)
  refine st (s_assign rfl) rfl ?_
  refine Run.nil ?_
  refine pj_then ?_
  refine J_seq ?_
  refine J_seq ?_
  refine J_reg ?_
  refine st (s_loadW 1 rfl rfl) rfl ?_
  refine st (s_callk (hs ) rfl ⟨VT.le_refl _, trivial⟩) rfl ?_
  refine st (s_not rfl) rfl ?_
  refine Run.nil ?_
  refine pj_then ?_
  refine J_cond0 rfl ?_
  refine J_skip ?_
  refine pj_then ?_
  refine J_seq ?_
  refine J_reg ?_
  refine st (s_fieldAddr rfl) rfl ?_
  refine st (s_loadB 1 rfl rfl rfl) rfl ?_
  refine st (s_assign rfl) rfl ?_
  refine Run.nil ?_
  refine pj_then ?_
  refine J_seq ?_
  refine J_regU2 mixed (by kernel_rfl) (by kernel_rfl) ?_
  refine ux (fun B => s_loadW 1 rfl rfl) rfl rfl ?_
  refine ux (fun B => s_move rfl) rfl rfl ?_
  refine uxk (hid ) rfl ⟨VT.le_refl _, trivial⟩ rfl ?_
  refine uxk (hbe' ) rfl ⟨VT.le_refl _, VT.le_refl _, trivial⟩ rfl ?_
  refine ux (fun B => s_move rfl) rfl rfl ?_
  refine ux (fun B => s_extract rfl rfl) rfl rfl ?_
  refine ux (fun B => s_extract rfl rfl) rfl rfl ?_
  refine ua rfl ?_
  refine us rfl ?_
  refine ux (fun B => s_assign rfl) rfl rfl ?_
  refine RunU.nil (fun γ => ?_)
  refine PJ_normM (M' := [_, _, _]) rfl ?_
  refine PJ_sub (SubG.refl _) (.keep box_flat (SubM.refl _)) ?_
  refine pj_then ?_
  refine J_seq ?_
  refine J_reg ?_
  refine st (s_fieldAddr rfl) rfl ?_
  refine st (s_loadB 0 rfl rfl rfl) rfl ?_
  refine st (s_move rfl) rfl ?_
  refine st (s_callk (hru ) rfl ⟨VT.le_refl _, VT.le_refl _, VT.le_refl _, trivial⟩) rfl ?_
  refine st (s_assign rfl) rfl ?_
  refine Run.nil ?_
  refine pj_then ?_
  refine J_seq ?_
  refine J_reg ?_
  refine st (s_move rfl) rfl ?_
  refine st (s_move rfl) rfl ?_
  refine a_callM (New_ok _ _ (by omega) (by omega)) rfl ⟨VT.le_refl _, VT.le_refl _, trivial⟩ rfl rfl (fun s30 => ?_)
  refine a_allocS (T := 28) rfl rfl rfl (fun b8 => ?_)
  refine a_storeW 0 rfl rfl rfl rfl ?_
  refine Run.nil ?_
  refine pj_then ?_
  refine J_seq ?_
  refine J_seq ?_
  refine J_reg ?_
  refine st (s_move rfl) rfl ?_
  refine st (s_nilCheckI rfl) rfl ?_
  refine st (s_fieldI rfl rfl) rfl ?_
  refine st (s_load rfl) rfl ?_
  refine st (s_len rfl) rfl ?_
  refine st (s_move rfl) rfl ?_
  refine st (s_sub rfl rfl (wrap_i64 (by omega) (by omega))) rfl ?_
  refine st (s_lt rfl rfl) rfl ?_
  refine Run.nil ?_
  refine pj_then ?_
  obtain ⟨⟨bs, sv1, cap1⟩, hlen, hsv⟩ := s30
  simp only at hlen hsv
  unfold newT
  dsimp only
  by_cases hp1 : e.piv.length < r - 1
  · have hp1' : (e.piv.length : Int) < (r : Int) - 1 := by omega
    refine J_condT rfl (by assumption) ?_
    refine J_seq ?_
    refine J_reg ?_
    refine st (s_loadW 0 rfl rfl) rfl ?_
    refine a_storeW 4 rfl rfl rfl rfl ?_
    refine st (s_assign rfl) rfl ?_
    refine Run.nil ?_
    refine pj_then ?_
    refine J_ret ?_
    refine pr_then ?_
    refine PJ_open [outO sv1 cap1 r r bs, ownR r bs (fun _ _ => 0)] (perm6 _ _ _ _ _ _) (.keep (EntO.refl _) (.keep (EntO.refl _) (.keep (EntO.box (newT_open hlen ⟨by simp, by simp, by simp⟩)) (.keep (EntO.refl _) .nil)))) (EntG.refl _) ?_
    refine retc2 Tryz.results19 (.cellW 2 rfl rfl ((matF_le fun a b ha hb => by rw [← hG]; unfold adjE; rw [if_pos hp1]))) (.tmp rfl (VT.le_refl _))
  · have hp1' : ¬ (e.piv.length : Int) < (r : Int) - 1 := by omega
    refine J_condF rfl (by assumption) ?_
    refine J_skip ?_
    refine pj_then ?_
    refine J_seq ?_
    refine J_seq ?_
    refine J_reg ?_
    refine st (s_move rfl) rfl ?_
    refine st (s_move rfl) rfl ?_
    refine Run.nil ?_
    refine pj_then ?_
    refine J_block ?_
    refine J_sub (Γ' := [(1, _), (2, _), (3, _), (4, _), (7, _), (8, _), (40, _), (41, _)]) (SubG.cons rfl (VT.le_refl _) (SubG.cons rfl (VT.le_refl _) (SubG.cons rfl (VT.le_refl _) (SubG.cons rfl (VT.le_refl _) (SubG.cons rfl (VT.le_refl _) (SubG.cons rfl (VT.le_refl _) (SubG.cons rfl (VT.le_refl _) (SubG.cons rfl (VT.le_refl _) (SubG.nil))))))))) (SubM.refl _) ?_
    refine J_loopA (σ := Nat) (Γk := [(1, _), (2, _), (3, _), (4, _), (7, _), (8, _), (40, _)]) (SubG.cons rfl (VT.le_refl _) (SubG.cons rfl (VT.le_refl _) (SubG.cons rfl (VT.le_refl _) (SubG.cons rfl (VT.le_refl _) (SubG.cons rfl (VT.le_refl _) (SubG.cons rfl (VT.le_refl _) (SubG.cons rfl (VT.le_refl _) (SubG.nil)))))))) (fun i => [(41, one (.int .i64 (i : Nat)))]) (fun i M0 => (M0.set 2 (ownR r bs (fill2 G i 0)))) (fun i => i ≤ r) (fun i => r - i) (0) (Nat.zero_le _) (by repeat (first | exact SubG.refl _ | exact SubG.nil | refine SubG.cons rfl (VT.le_refl _) ?_ | (refine SubG.cons rfl (one_le ?_) ?_; (congr 1; first | omega | (simp; omega) | simp)))) (.keep (Own.le_refl _) (.keep (Own.le_refl _) (.keep (ownR_le fun i j hi hj => by simp [fill2]) (.keep (Own.le_refl _) (.keep (Own.le_refl _) (.keep (Own.le_refl _) (.nil))))))) (fun i hi => ?_)
    refine J_norm (Γ' := [(41, _), (1, _), (2, _), (3, _), (4, _), (7, _), (8, _), (40, _)]) (M' := [_, _, _, _, _, _]) rfl rfl ?_
    by_cases hi' : i < r
    · obtain ⟨bo, rfl⟩ := sv_some hsv (by omega)
      refine J_seq ?_
      refine J_reg ?_
      refine st (sT (by omega) (s_lt rfl rfl)) rfl ?_
      refine Run.nil ?_
      refine pj_then ?_
      refine J_seq ?_
      refine J_cond1 rfl ?_
      refine J_skip ?_
      refine pj_then ?_
      refine J_seq ?_
      refine J_block ?_
      refine J_seq ?_
      refine J_reg ?_
      refine st (s_move rfl) rfl ?_
      refine st (s_assign rfl) rfl ?_
      refine Run.nil ?_
      refine pj_then ?_
      refine J_seq ?_
      refine J_reg ?_
      refine st (s_move rfl) rfl ?_
      refine st (s_move rfl) rfl ?_
      refine Run.nil ?_
      refine pj_then ?_
      refine J_block ?_
      refine J_sub (Γ' := [(1, _), (2, _), (3, _), (4, _), (7, _), (8, _), (9, _), (40, _), (41, _), (44, _), (45, _)]) (SubG.cons rfl (VT.le_refl _) (SubG.cons rfl (VT.le_refl _) (SubG.cons rfl (VT.le_refl _) (SubG.cons rfl (VT.le_refl _) (SubG.cons rfl (VT.le_refl _) (SubG.cons rfl (VT.le_refl _) (SubG.cons rfl (VT.le_refl _) (SubG.cons rfl (VT.le_refl _) (SubG.cons rfl (VT.le_refl _) (SubG.cons rfl (VT.le_refl _) (SubG.cons rfl (VT.le_refl _) (SubG.nil)))))))))))) (SubM.refl _) ?_
      refine J_loopA (σ := Nat) (Γk := [(1, _), (2, _), (3, _), (4, _), (7, _), (8, _), (9, _), (40, _), (41, _), (44, _)]) (SubG.cons rfl (VT.le_refl _) (SubG.cons rfl (VT.le_refl _) (SubG.cons rfl (VT.le_refl _) (SubG.cons rfl (VT.le_refl _) (SubG.cons rfl (VT.le_refl _) (SubG.cons rfl (VT.le_refl _) (SubG.cons rfl (VT.le_refl _) (SubG.cons rfl (VT.le_refl _) (SubG.cons rfl (VT.le_refl _) (SubG.cons rfl (VT.le_refl _) (SubG.nil))))))))))) (fun j => [(45, one (.int .i64 (j : Nat)))]) (fun j M0 => (M0.set 2 (ownR r bs (fill2 G i j)))) (fun j => j ≤ r) (fun j => r - j) (0) (Nat.zero_le _) (by repeat (first | exact SubG.refl _ | exact SubG.nil | refine SubG.cons rfl (VT.le_refl _) ?_ | (refine SubG.cons rfl (one_le ?_) ?_; (congr 1; first | omega | (simp; omega) | simp)))) (.keep (Own.le_refl _) (.keep (Own.le_refl _) (.keep (Own.le_refl _) (.keep (Own.le_refl _) (.keep (Own.le_refl _) (.keep (Own.le_refl _) (.nil))))))) (fun j hj => ?_)
      refine J_norm (Γ' := [(45, _), (1, _), (2, _), (3, _), (4, _), (7, _), (8, _), (9, _), (40, _), (41, _), (44, _)]) (M' := [_, _, _, _, _, _]) rfl rfl ?_
      by_cases hj' : j < r
      · by_cases hp : e.piv.length < r
        · have hc := hcof j i hj' hi'
          have hv : cof r F j i = G i j := by rw [← hG]; unfold adjE; rw [if_neg hp1, if_pos hp]
          refine J_seq ?_
          refine J_reg ?_
          refine st (sT (by omega) (s_lt rfl rfl)) rfl ?_
          refine Run.nil ?_
          refine pj_then ?_
          refine J_seq ?_
          refine J_cond1 rfl ?_
          refine J_skip ?_
          refine pj_then ?_
          refine J_seq ?_
          refine J_block ?_
          refine J_seq ?_
          refine J_reg ?_
          refine st (s_move rfl) rfl ?_
          refine st (s_assign rfl) rfl ?_
          refine Run.nil ?_
          refine pj_then ?_
          refine J_block ?_
          refine J_seq ?_
          refine J_reg ?_
          refine st (s_move rfl) rfl ?_
          refine st (s_nilCheckI rfl) rfl ?_
          refine st (s_fieldI rfl rfl) rfl ?_
          refine st (s_load rfl) rfl ?_
          refine st (s_len rfl) rfl ?_
          refine st (s_move rfl) rfl ?_
          refine st (sT (by omega) (s_lt rfl rfl)) rfl ?_
          refine st (s_assign rfl) rfl ?_
          refine Run.nil ?_
          refine pj_then ?_
          refine J_cond1 rfl ?_
          refine J_regd 10 mixed (by kernel_rfl) (by decide) ?_
          refine st (s_fieldAddr rfl) rfl ?_
          refine st (s_loadB 0 rfl rfl rfl) rfl ?_
          refine st (s_move rfl) rfl ?_
          refine st (s_indexON rfl rfl (by omega)) rfl ?_
          refine st (s_loadE 1 rfl rfl (by omega)) rfl ?_
          refine st (s_move rfl) rfl ?_
          refine st (s_loadW 5 rfl rfl) rfl ?_
          refine st (s_move rfl) rfl ?_
          refine st (s_move rfl) rfl ?_
          refine st (s_callk (hcof _ _ (by assumption) (by assumption)) rfl ⟨VT.le_refl _, VT.le_refl _, VT.le_refl _, trivial⟩) rfl ?_
          refine Run.nil ?_
          refine st (s_indexON rfl rfl (by omega)) rfl ?_
          (refine a_storeR 2 rfl rfl rfl (getq ?_) ?_ rfl ?_; omega; omega)
          refine Run.nil ?_
          refine pn_block ?_
          refine pn_block ?_
          refine pj_then ?_
          refine J_reg ?_
          refine st (s_addN _ 1 rfl rfl (by omega)) rfl ?_
          refine st (s_move rfl) rfl ?_
          refine Run.nil ?_
          refine pj_roundM (j + 1) (by assumption) (by omega) (by repeat (first | exact SubG.refl _ | exact SubG.nil | refine SubG.cons rfl (VT.le_refl _) ?_ | (refine SubG.cons rfl (one_le ?_) ?_; (congr 1; first | omega | (simp; omega) | simp)))) (.keep (Own.le_refl _) (.keep (Own.le_refl _) (.keep (upd_fill2 _ hv) (.keep (Own.le_refl _) (.keep (Own.le_refl _) (.keep (Own.le_refl _) (.nil)))))))
        · have hp2 : ¬ (e.piv.length : Int) < (r : Int) := by omega
          have hs2 := he.lz hok (hok.R i (r + j))
          unfold rowF
          cases ho : e.odd with
          | true =>
            have hn := hneg _ hs2
            have hv : -(e.R i (r + j)) = G i j := by rw [← hG]; unfold adjE; rw [if_neg hp1, if_neg hp, if_pos ho]
            refine J_seq ?_
            refine J_reg ?_
            refine st (sT (by omega) (s_lt rfl rfl)) rfl ?_
            refine Run.nil ?_
            refine pj_then ?_
            refine J_seq ?_
            refine J_cond1 rfl ?_
            refine J_skip ?_
            refine pj_then ?_
            refine J_seq ?_
            refine J_block ?_
            refine J_seq ?_
            refine J_reg ?_
            refine st (s_move rfl) rfl ?_
            refine st (s_assign rfl) rfl ?_
            refine Run.nil ?_
            refine pj_then ?_
            refine J_block ?_
            refine J_seq ?_
            refine J_reg ?_
            refine st (s_move rfl) rfl ?_
            refine st (s_nilCheckI rfl) rfl ?_
            refine st (s_fieldI rfl rfl) rfl ?_
            refine st (s_load rfl) rfl ?_
            refine st (s_len rfl) rfl ?_
            refine st (s_move rfl) rfl ?_
            refine st (sF (by assumption) (s_lt rfl rfl)) rfl ?_
            refine st (s_assign rfl) rfl ?_
            refine Run.nil ?_
            refine pj_then ?_
            refine J_cond0 rfl ?_
            refine J_seq ?_
            refine J_reg ?_
            refine st (s_move rfl) rfl ?_
            refine st (s_nilCheckI rfl) rfl ?_
            refine st (s_fieldI rfl rfl) rfl ?_
            refine st (s_fieldI rfl rfl) rfl ?_
            refine st (s_load rfl) rfl ?_
            refine st (s_assign rfl) rfl ?_
            refine Run.nil ?_
            refine pj_then ?_
            refine J_cond1 rfl ?_
            refine J_regd 20 mixed (by kernel_rfl) (by decide) ?_
            refine st (s_fieldAddr rfl) rfl ?_
            refine st (s_loadB 0 rfl rfl rfl) rfl ?_
            refine st (s_move rfl) rfl ?_
            refine st (s_indexON rfl rfl (by omega)) rfl ?_
            refine st (s_loadE 1 rfl rfl (by omega)) rfl ?_
            refine st (s_move rfl) rfl ?_
            refine st (s_move rfl) rfl ?_
            refine st (s_nilCheckI rfl) rfl ?_
            refine st (s_fieldI rfl rfl) rfl ?_
            refine st (s_fieldI rfl rfl) rfl ?_
            refine st (s_load rfl) rfl ?_
            refine st (s_move rfl) rfl ?_
            refine st (s_indexIN rfl rfl (by omega)) rfl ?_
            refine st (s_load rfl) rfl ?_
            refine st (s_move rfl) rfl ?_
            refine st (s_move rfl) rfl ?_
            refine st (s_addN _ _ rfl rfl (by omega)) rfl ?_
            refine st (s_indexIN rfl rfl (by omega)) rfl ?_
            refine st (s_load rfl) rfl ?_
            refine st (s_callk (hneg _ (by assumption)) rfl ⟨VT.le_refl _, trivial⟩) rfl ?_
            refine Run.nil ?_
            refine st (s_indexON rfl rfl (by omega)) rfl ?_
            (refine a_storeR 2 rfl rfl rfl (getq ?_) ?_ rfl ?_; omega; omega)
            refine Run.nil ?_
            refine pn_block ?_
            refine pn_block ?_
            refine pj_then ?_
            refine J_reg ?_
            refine st (s_addN _ 1 rfl rfl (by omega)) rfl ?_
            refine st (s_move rfl) rfl ?_
            refine Run.nil ?_
            refine pj_roundM (j + 1) (by assumption) (by omega) (by repeat (first | exact SubG.refl _ | exact SubG.nil | refine SubG.cons rfl (VT.le_refl _) ?_ | (refine SubG.cons rfl (one_le ?_) ?_; (congr 1; first | omega | (simp; omega) | simp)))) (.keep (Own.le_refl _) (.keep (Own.le_refl _) (.keep (upd_fill2 _ hv) (.keep (Own.le_refl _) (.keep (Own.le_refl _) (.keep (Own.le_refl _) (.nil)))))))
          | false =>
            have hv : e.R i (r + j) = G i j := by rw [← hG]; unfold adjE; rw [if_neg hp1, if_neg hp, if_neg (by rw [ho]; decide)]
            refine J_seq ?_
            refine J_reg ?_
            refine st (sT (by omega) (s_lt rfl rfl)) rfl ?_
            refine Run.nil ?_
            refine pj_then ?_
            refine J_seq ?_
            refine J_cond1 rfl ?_
            refine J_skip ?_
            refine pj_then ?_
            refine J_seq ?_
            refine J_block ?_
            refine J_seq ?_
            refine J_reg ?_
            refine st (s_move rfl) rfl ?_
            refine st (s_assign rfl) rfl ?_
            refine Run.nil ?_
            refine pj_then ?_
            refine J_block ?_
            refine J_seq ?_
            refine J_reg ?_
            refine st (s_move rfl) rfl ?_
            refine st (s_nilCheckI rfl) rfl ?_
            refine st (s_fieldI rfl rfl) rfl ?_
            refine st (s_load rfl) rfl ?_
            refine st (s_len rfl) rfl ?_
            refine st (s_move rfl) rfl ?_
            refine st (sF (by assumption) (s_lt rfl rfl)) rfl ?_
            refine st (s_assign rfl) rfl ?_
            refine Run.nil ?_
            refine pj_then ?_
            refine J_cond0 rfl ?_
            refine J_seq ?_
            refine J_reg ?_
            refine st (s_move rfl) rfl ?_
            refine st (s_nilCheckI rfl) rfl ?_
            refine st (s_fieldI rfl rfl) rfl ?_
            refine st (s_fieldI rfl rfl) rfl ?_
            refine st (s_load rfl) rfl ?_
            refine st (s_assign rfl) rfl ?_
            refine Run.nil ?_
            refine pj_then ?_
            refine J_cond0 rfl ?_
            refine J_regd 19 mixed (by kernel_rfl) (by decide) ?_
            refine st (s_fieldAddr rfl) rfl ?_
            refine st (s_loadB 0 rfl rfl rfl) rfl ?_
            refine st (s_move rfl) rfl ?_
            refine st (s_indexON rfl rfl (by omega)) rfl ?_
            refine st (s_loadE 1 rfl rfl (by omega)) rfl ?_
            refine st (s_move rfl) rfl ?_
            refine st (s_move rfl) rfl ?_
            refine st (s_nilCheckI rfl) rfl ?_
            refine st (s_fieldI rfl rfl) rfl ?_
            refine st (s_fieldI rfl rfl) rfl ?_
            refine st (s_load rfl) rfl ?_
            refine st (s_move rfl) rfl ?_
            refine st (s_indexIN rfl rfl (by omega)) rfl ?_
            refine st (s_load rfl) rfl ?_
            refine st (s_move rfl) rfl ?_
            refine st (s_move rfl) rfl ?_
            refine st (s_addN _ _ rfl rfl (by omega)) rfl ?_
            refine st (s_indexIN rfl rfl (by omega)) rfl ?_
            refine st (s_load rfl) rfl ?_
            refine Run.nil ?_
            refine st (s_indexON rfl rfl (by omega)) rfl ?_
            (refine a_storeR 2 rfl rfl rfl (getq ?_) ?_ rfl ?_; omega; omega)
            refine Run.nil ?_
            refine pn_block ?_
            refine pn_block ?_
            refine pj_then ?_
            refine J_reg ?_
            refine st (s_addN _ 1 rfl rfl (by omega)) rfl ?_
            refine st (s_move rfl) rfl ?_
            refine Run.nil ?_
            refine pj_roundM (j + 1) (by assumption) (by omega) (by repeat (first | exact SubG.refl _ | exact SubG.nil | refine SubG.cons rfl (VT.le_refl _) ?_ | (refine SubG.cons rfl (one_le ?_) ?_; (congr 1; first | omega | (simp; omega) | simp)))) (.keep (Own.le_refl _) (.keep (Own.le_refl _) (.keep (upd_fill2 _ hv) (.keep (Own.le_refl _) (.keep (Own.le_refl _) (.keep (Own.le_refl _) (.nil)))))))
      · have hjr : j = r := by omega
        subst hjr
        refine J_seq ?_
        refine J_reg ?_
        refine st (sF (by omega) (s_lt rfl rfl)) rfl ?_
        refine Run.nil ?_
        refine pj_then ?_
        refine J_seq ?_
        refine J_cond0 rfl ?_
        refine J_exit ?_
        refine px_then ?_
        refine px_then ?_
        refine px_block ?_
        refine pn_block ?_
        refine pj_then ?_
        refine J_reg ?_
        refine st (s_addN _ 1 rfl rfl (by omega)) rfl ?_
        refine st (s_move rfl) rfl ?_
        refine Run.nil ?_
        refine pj_roundM (i + 1) (by assumption) (by omega) (by repeat (first | exact SubG.refl _ | exact SubG.nil | refine SubG.cons rfl (VT.le_refl _) ?_ | (refine SubG.cons rfl (one_le ?_) ?_; (congr 1; first | omega | (simp; omega) | simp)))) (.keep (Own.le_refl _) (.keep (Own.le_refl _) (.keep (next_fill2) (.keep (Own.le_refl _) (.keep (Own.le_refl _) (.keep (Own.le_refl _) (.nil)))))))
    · have hir : i = r := by omega
      subst hir
      refine J_seq ?_
      refine J_reg ?_
      refine st (sF (by omega) (s_lt rfl rfl)) rfl ?_
      refine Run.nil ?_
      refine pj_then ?_
      refine J_seq ?_
      refine J_cond0 rfl ?_
      refine J_exit ?_
      refine px_then ?_
      refine px_then ?_
      refine px_block ?_
      refine pj_then ?_
      refine J_seq ?_
      refine J_reg ?_
      refine st (s_loadW 0 rfl rfl) rfl ?_
      refine a_storeW 4 rfl rfl rfl rfl ?_
      refine st (s_assign rfl) rfl ?_
      refine Run.nil ?_
      refine pj_then ?_
      refine J_ret ?_
      refine PJ_open [outO sv1 cap1 i i bs, ownR i bs (fill2 G i 0)] (perm6 _ _ _ _ _ _) (.keep (EntO.refl _) (.keep (EntO.refl _) (.keep (EntO.box (newT_open hlen ⟨by simp, by simp, by simp⟩)) (.keep (EntO.refl _) .nil)))) (EntG.refl _) ?_
      refine retc2 Tryz.results19 (.cellW 2 rfl rfl ((matF_le fun a b ha hb => by simp [fill2, ha]))) (.tmp rfl (VT.le_refl _))
end Tor
end

section
set_option linter.unusedVariables false
set_option linter.unusedSimpArgs false
namespace Tor
open Go Go.RowKit Go.Proofs
def intsF (c : Nat) (l : List Int) : Nat → Nat → Int := fun i j => l.getD (i * c + j) 0
def IN (r c : Nat) (l : List Int) : VT := matF r c (intsF c l)
theorem vec_le (l : List Int) : VT.le (slT (.agg 2) l.length (fun q => (l.map bigT).getD q anyT)) (rowF l.length (fun j => l.getD j 0)) := by
  unfold rowF
  refine slT_le fun i hi => ?_
  simp only [List.getD, List.getElem?_map, List.getElem?_eq_getElem hi, Option.map_some, Option.getD_some]
  exact VT.le_refl _
instance (x : Int) : Decidable (mod4 x) := inferInstanceAs (Decidable (_ ≤ _))
theorem i64_ints {l : List Int} (h : (l.all fun x => decide (-9223372036854775808 ≤ x) && decide (x ≤ 9223372036854775807)) = true) : ∀ x ∈ l, -9223372036854775808 ≤ x ∧ x ≤ 9223372036854775807 := fun x hx => by
  have := List.all_eq_true.1 h x hx
  simpa using this
theorem rSameF_ok (r c r' c' : Nat) (F G : Nat → Nat → Int) (hr : r ≤ 1048576) : Ok Tryz.prog 22 [matF r c F, matF r' c' G] (one (.bool (decide ((r : Int) = r' ∧ (c : Int) = c' ∧ tab r c F = tab r' c' G)))) :=
  (rSameMat_ok r c r' c' (tab r c F) (tab r' c' G) (by simp; omega)).le ⟨matF_mat _ _ _, matF_mat _ _ _, trivial⟩ (VT.le_refl _)
theorem ints_ok (r c : Nat) (l : List Int) (hr : r ≤ 1048576) (hc : c ≤ 1048576) (h : (l.all fun x => decide (-9223372036854775808 ≤ x) && decide (x ≤ 9223372036854775807)) = true) : Ok Tryz.prog 38 [one (.int .i64 r), one (.int .i64 c), numT .i64 l] (IN r c l) := rInts_ok r c l hr hc (i64_ints h)
end Tor
end

section
set_option linter.unusedVariables false
set_option linter.unusedSimpArgs false
namespace Tor
open Go Go.RowKit Go.Proofs
theorem lzL {l : List Int} (h : (l.all fun x => decide (x.natAbs < 4294967296)) = true) (k : Nat) : lz 1 (l.getD k 0) := by
  refine digs_len_le (k := 1) ?_
  rw [Nat.pow_one]
  by_cases hk : k < l.length
  · have := List.all_eq_true.1 h (l.getD k 0) (by simp [List.getD, hk])
    exact of_decide_eq_true this
  · have : l.getD k 0 = 0 := by simp [List.getD, Nat.le_of_not_lt hk]
    rw [this]; decide
abbrev numV (l : List Int) : VT := slT .one l.length (fun q => one (.int .i64 (l.getD q 0)))
theorem numV_le (l : List Int) : VT.le (slT .one l.length (fun q => (l.map fun x => one (.int .i64 x)).getD q anyT)) (numV l) := by
  refine slT_le fun i hi => ?_
  simp only [List.getD, List.getElem?_map, List.getElem?_eq_getElem hi, Option.map_some, Option.getD_some]
  exact VT.le_refl _
theorem numV1_le (x : Int) : VT.le (slT .one 1 (fun _ => one (.int .i64 x))) (numV [x]) := slT_le' rfl fun q hq => by
  have hq : q < 1 := hq
  rw [show q = 0 by omega]; rfl
theorem pivT_num {l : List Nat} {m : List Int} (h : l.map (fun x : Nat => (x : Int)) = m) : VT.le (pivT l) (numV m) := by
  subst h
  refine slT_le' (by simp) (fun q hq => ?_)
  show one (Value.int .i64 ((l.getD q 0 : Nat) : Int)) = one (Value.int .i64 ((l.map fun x : Nat => (x : Int)).getD q 0))
  simp [List.getD, hq]
theorem newL_eq {r w c : Nat} (F : Nat → Nat → Int) (h : c ≤ w) : Lin.newL r w F c = (elN r false F c).piv := by
  obtain ⟨A, V, hE⟩ := Lin.elN_EL r w false F c h
  exact hE.pl.symm
theorem tup3_le {φ φ' ψ ψ' χ : VT} (h : VT.le φ φ') (k : VT.le ψ ψ') : VT.le (tupT [φ, ψ, χ]) (tupT [φ', ψ', χ]) := by
  rintro v g ⟨vs, h1, h2⟩
  refine ⟨vs, h1, ?_⟩
  match vs, h2 with
  | [a, b, c], ⟨p, q, r, _⟩ => exact ⟨h _ _ p, k _ _ q, r, trivial⟩
theorem ratS_le {n : Nat} {f g : Nat → Rat} (h : ∀ i, i < n → f i = g i) : VT.le (slT (.agg 4) n (fun i => ratT (f i))) (ratF n g) := ratF_le h
attribute [local irreducible] Tor.J Tor.PJ Tor.StepO Tor.one Tor.slT Tor.ptrT Tor.aggT Tor.tupT Tor.exT Tor.andT Tor.gT Tor.eP Tor.boxO Tor.sliO Tor.slV Tor.VT.le Tor.Ret Tor.anyT Tor.mapO Tor.metT Tor.xO
attribute [local irreducible] bigT ratT
set_option maxHeartbeats 4000000 in
theorem halves_ok (l : List Int) (hl : l.length ≤ 1024) (h : (l.all fun x => decide (-9223372036854775808 ≤ x) && decide (x ≤ 9223372036854775807)) = true) : Ok Tryz.prog 41 [numV l] (ratF l.length (fun i => Rat.divInt (l.getD i 0) 2)) := by
  unfold ratF
  refine Ok.enter Tryz.func41 rfl Tryz.ntmps41 rfl (fun w O => ?_)
  refine J_seq ?_
  refine J_reg ?_
  refine st (s_assign rfl) rfl ?_
  refine Run.nil ?_
  refine pj_then ?_
  refine J_seq ?_
  refine J_reg ?_
  refine stSO (n := 0) rfl rfl rfl rfl rfl ?_
  refine PartsK.nil (fun bl => ?_)
  refine st (s_assign rfl) rfl ?_
  refine Run.nil ?_
  refine pj_then ?_
  refine J_seq ?_
  refine J_seq ?_
  refine J_reg ?_
  refine st (s_assign rfl) rfl ?_
  refine Run.nil ?_
  refine pj_then ?_
  refine J_block ?_
  refine J_sub (Γ' := [(0, _), (2, _), (3, _), (4, _)]) (SubG.cons rfl (VT.le_refl _) (SubG.cons rfl (VT.le_refl _) (SubG.cons rfl (VT.le_refl _) (SubG.cons rfl (VT.le_refl _) (SubG.nil))))) (SubM.refl _) ?_
  refine J_loopA (σ := Nat × Option Nat × Nat) (Γk := [(0, _), (2, _)]) (SubG.cons rfl (VT.le_refl _) (SubG.cons rfl (VT.le_refl _) (SubG.nil))) (fun s => [(4, one (.int .i64 (s.1 : Nat))), (3, one (slV s.2.1 s.1 s.2.2))]) (fun s M0 => (M0.set 0 (sliO s.2.1 63 (.agg 4) s.2.2 s.1 (fun q => ratT (Rat.divInt (l.getD q 0) 2))))) (fun s => s.1 ≤ l.length) (fun s => l.length - s.1) ((0, some bl, 0)) (Nat.zero_le _) (by repeat (first | exact SubG.refl _ | exact SubG.nil | refine SubG.cons rfl (VT.le_refl _) ?_ | (refine SubG.cons rfl (one_le ?_) ?_; (congr 1; first | omega | (simp; omega) | simp)))) (.keep (sliO_eq (fun q hq => absurd hq (Nat.not_lt_zero _))) (.nil)) (fun s hs => ?_)
  refine J_norm (Γ' := [(4, _), (3, _), (0, _), (2, _)]) (M' := [_]) rfl rfl ?_
  obtain ⟨i, sv, cap⟩ := s
  dsimp only at hs ⊢
  by_cases hi : i < l.length
  · have hx := List.all_eq_true.1 h (l.getD i 0) (by simp [List.getD, hi])
    simp only [Bool.and_eq_true, decide_eq_true_eq] at hx
    have hm := rqMade_ok (l.getD i 0) 2 (by decide) hx.1 hx.2 (by decide) (by decide)
    refine J_seq ?_
    refine J_seq ?_
    refine J_reg ?_
    refine st (s_move rfl) rfl ?_
    refine st (s_move rfl) rfl ?_
    refine st (s_len rfl) rfl ?_
    refine st (sT (by omega) (s_lt rfl rfl)) rfl ?_
    refine Run.nil ?_
    refine pj_then ?_
    refine J_cond1 rfl ?_
    refine J_skip ?_
    refine pj_then ?_
    refine J_seq ?_
    refine J_block ?_
    refine J_reg ?_
    refine st (s_move rfl) rfl ?_
    refine st (s_move rfl) rfl ?_
    refine st (s_move rfl) rfl ?_
    refine st (s_indexIN rfl rfl (by omega)) rfl ?_
    refine st (s_load rfl) rfl ?_
    refine st (s_callk (hm ) rfl ⟨VT.le_refl _, VT.le_refl _, trivial⟩) rfl ?_
    refine stS1 rfl rfl rfl rfl ?_
    (refine a_append 0 rfl rfl rfl (leN rfl) ?_ ?_ rfl (ltN rfl) (fun sv19 cap19 => ?_); omega; omega)
    refine st (s_assign rfl) rfl ?_
    refine Run.nil ?_
    refine pn_block ?_
    refine pj_then ?_
    refine J_reg ?_
    refine st (s_move rfl) rfl ?_
    refine st (s_addN _ 1 rfl rfl (by omega)) rfl ?_
    refine st (s_assign rfl) rfl ?_
    refine Run.nil ?_
    refine pj_roundM ((i + 1, sv19, cap19)) (hi) (by omega) (by repeat (first | exact SubG.refl _ | exact SubG.nil | refine SubG.cons rfl (VT.le_refl _) ?_ | (refine SubG.cons rfl (one_le ?_) ?_; (congr 1; first | omega | (simp; omega) | simp)))) (.keep (rat_snoc (h := fun q => Rat.divInt (l.getD q 0) 2) rfl) (.nil))
  · have he : i = l.length := by omega
    rw [he]
    refine J_seq ?_
    refine J_seq ?_
    refine J_reg ?_
    refine st (s_move rfl) rfl ?_
    refine st (s_move rfl) rfl ?_
    refine st (s_len rfl) rfl ?_
    refine st (sF (by omega) (s_lt rfl rfl)) rfl ?_
    refine Run.nil ?_
    refine pj_then ?_
    refine J_cond0 rfl ?_
    refine J_exit ?_
    refine px_then ?_
    refine px_then ?_
    refine px_block ?_
    refine pj_then ?_
    refine J_seq ?_
    refine J_reg ?_
    refine st (s_move rfl) rfl ?_
    refine st (s_assign rfl) rfl ?_
    refine Run.nil ?_
    refine pj_then ?_
    refine J_ret ?_
    refine PJ_freeze (t := 2) (i := 0) rfl rfl ?_
    refine retc1 Tryz.results41 (.tmp rfl (VT.le_refl _))
theorem rNewF_ok (r c : Nat) (hr : r ≤ 1048576) (hc : c ≤ 1048576) : Ok Tryz.prog 39 [one (.int .i64 r), one (.int .i64 c)] (matF r c (fun _ _ => 0)) := (rNew_ok r c hr hc).ok fun s => newT_mat _ s
theorem rqListF_ok (n m : Nat) (l k : Nat → Rat) (hn : n ≤ 1048576) : Ok Tryz.prog 16 [ratF n l, ratF m k] (one (.bool (decide (n = m ∧ ∀ i, i < n → l i = k i)))) := rqList_ok n m l k hn
attribute [local irreducible] matF rowF ratF
set_option maxRecDepth 20000 in
set_option maxHeartbeats 20000000 in
theorem sanity_ok : Ok Tryz.prog 7 [] (one (.bool true)) := by
  have i1 : Ok Tryz.prog 38 [one (.int .i64 (2 : Nat)), one (.int .i64 (2 : Nat)), numT .i64 [1, 2, 3, 4]] (matF 2 2 (intsF 2 [1, 2, 3, 4])) := ints_ok 2 2 [1, 2, 3, 4] (by decide) (by decide) (by decide)
  have i2 : Ok Tryz.prog 38 [one (.int .i64 (1 : Nat)), one (.int .i64 (2 : Nat)), numT .i64 [1, 1]] (matF 1 2 (intsF 2 [1, 1])) := ints_ok 1 2 [1, 1] (by decide) (by decide) (by decide)
  have i3 : Ok Tryz.prog 38 [one (.int .i64 (4 : Nat)), one (.int .i64 (2 : Nat)), numT .i64 [0, 0, 0, 2, 0, 3, 1, 1]] (matF 4 2 (intsF 2 [0, 0, 0, 2, 0, 3, 1, 1])) := ints_ok 4 2 [0, 0, 0, 2, 0, 3, 1, 1] (by decide) (by decide) (by decide)
  have i4 : Ok Tryz.prog 38 [one (.int .i64 (2 : Nat)), one (.int .i64 (2 : Nat)), numT .i64 [2, 4, 1, 2]] (matF 2 2 (intsF 2 [2, 4, 1, 2])) := ints_ok 2 2 [2, 4, 1, 2] (by decide) (by decide) (by decide)
  have i5 : Ok Tryz.prog 38 [one (.int .i64 (1 : Nat)), one (.int .i64 (1 : Nat)), numT .i64 [5]] (matF 1 1 (intsF 1 [5])) := ints_ok 1 1 [5] (by decide) (by decide) (by decide)
  have i6 : Ok Tryz.prog 38 [one (.int .i64 (2 : Nat)), one (.int .i64 (2 : Nat)), numT .i64 [4, -2, -3, 1]] (matF 2 2 (intsF 2 [4, -2, -3, 1])) := ints_ok 2 2 [4, -2, -3, 1] (by decide) (by decide) (by decide)
  have i7 : Ok Tryz.prog 38 [one (.int .i64 (1 : Nat)), one (.int .i64 (1 : Nat)), numT .i64 [1]] (matF 1 1 (intsF 1 [1])) := ints_ok 1 1 [1] (by decide) (by decide) (by decide)
  have d1 := Det_ok 2 (intsF 2 [1, 2, 3, 4]) 1 (by decide) ⟨by decide, by decide⟩ (fun i j => lzL (by decide) _)
  rw [show Lin.detZ 2 (intsF 2 [1, 2, 3, 4]) = -2 by decide +kernel] at d1
  have d2 := Det_ok 0 (fun _ _ => 0) 1 (by decide) ⟨by decide, by decide⟩ (fun i j => lz_zero 1)
  rw [show Lin.detZ 0 (fun _ _ => 0) = 1 by decide +kernel] at d2
  have d3 := DetS_ok 1 2 (intsF 2 [1, 1]) (by decide)
  have r1 := Rank_ok 4 2 (intsF 2 [0, 0, 0, 2, 0, 3, 1, 1]) 1 (by decide) (by decide) ⟨by decide, by decide⟩ ⟨by decide, by decide⟩ (fun i j => lzL (by decide) _)
  have s1 := Solve_ok 2 2 (intsF 2 [2, 4, 1, 2]) (fun j => [1, 2].getD j 0) 1 (by decide) (by decide) ⟨by decide, by decide⟩ (fun i j => lzL (by decide) _) (fun j => lzL (by decide) _)
  have s2 := Solve_ok 1 2 (intsF 2 [1, 1]) (fun j => [1, 2].getD j 0) 1 (by decide) (by decide) ⟨by decide, by decide⟩ (fun i j => lzL (by decide) _) (fun j => lzL (by decide) _)
  rw [newL_eq _ (by decide), newL_eq _ (by decide), show (elN 2 false (fun i j => intsF 2 [0, 0, 0, 2, 0, 3, 1, 1] j i) 4).piv = [1, 3] by decide +kernel, show (elN 4 false (intsF 2 [0, 0, 0, 2, 0, 3, 1, 1]) 2).piv = [0, 1] by decide +kernel] at r1
  rw [show firstP (elN 2 true (eqS 2 (intsF 2 [2, 4, 1, 2]) (fun j => [1, 2].getD j 0)) 2).R 2 (elN 2 true (eqS 2 (intsF 2 [2, 4, 1, 2]) (fun j => [1, 2].getD j 0)) 2).piv.length 2 = none by decide +kernel] at s1
  have s1' := s1.le (leAll_refl _) (tup3_le (ratS_le (g := fun i => Rat.divInt ([1, 0].getD i 0) 2) (by decide +kernel)) (VT.le_refl _))
  rw [show firstP (elN 2 true (eqS 1 (intsF 2 [1, 1]) (fun j => [1, 2].getD j 0)) 1).R 1 (elN 2 true (eqS 1 (intsF 2 [1, 1]) (fun j => [1, 2].getD j 0)) 1).piv.length 2 = some 1 by decide +kernel] at s2
  have s2' := s2.le (leAll_refl _) (tup3_le (VT.le_refl _) (ratS_le (g := fun i => Rat.divInt ([-2, 2].getD i 0) 2) (by decide +kernel)))
  clear s1 s2
  have a1 := Adjugate_ok 2 (intsF 2 [1, 2, 3, 4]) 1 (by decide) ⟨by decide, by decide⟩ (fun i j => lzL (by decide) _)
  have a2 := Adjugate_ok 1 (intsF 1 [5]) 1 (by decide) ⟨by decide, by decide⟩ (fun i j => lzL (by decide) _)
  have a3 := AdjugateS_ok 1 2 (intsF 2 [1, 1]) (by decide)
  refine Ok.enter Tryz.func7 rfl Tryz.ntmps7 rfl (fun w O => ?_)
  have hh1 := halves_ok [1, 0] (by decide) (by decide)
  have hh2 := halves_ok [-2, 2] (by decide) (by decide)
  have hl1 := rqListF_ok 2 2 (fun i => Rat.divInt ([1, 0].getD i 0) 2) (fun i => Rat.divInt ([1, 0].getD i 0) 2) (by decide)
  have hl2 := rqListF_ok 2 2 (fun i => Rat.divInt ([-2, 2].getD i 0) 2) (fun i => Rat.divInt ([-2, 2].getD i 0) 2) (by decide)
  have hn1 := r8Ints_ok 2 2 (fun q => ([1, 3] : List Int).getD q 0) (fun q => ([1, 3] : List Int).getD q 0) (by decide)
  have hn2 := r8Ints_ok 2 2 (fun q => ([0, 1] : List Int).getD q 0) (fun q => ([0, 1] : List Int).getD q 0) (by decide)
  rw [decide_eq_true ⟨rfl, fun i _ => rfl⟩] at hl1 hl2 hn1 hn2
  refine J_seq ?_
  refine J_reg ?_
  refine st (s_assign rfl) rfl ?_
  refine Run.nil ?_
  refine pj_then ?_
  refine J_seq ?_
  refine J_reg ?_
  refine stS rfl rfl rfl rfl ?_
  refine PartsK.cons rfl ?_
  refine PartsK.cons rfl ?_
  refine PartsK.cons rfl ?_
  refine PartsK.cons rfl ?_
  refine PartsK.nil ?_
  refine st (s_callk (i1 ) rfl ⟨VT.le_refl _, VT.le_refl _, (numV_le [1, 2, 3, 4]), trivial⟩) rfl ?_
  refine stS rfl rfl rfl rfl ?_
  refine PartsK.cons rfl ?_
  refine PartsK.cons rfl ?_
  refine PartsK.nil ?_
  refine st (s_callk (i2 ) rfl ⟨VT.le_refl _, VT.le_refl _, (numV_le [1, 1]), trivial⟩) rfl ?_
  refine a_allocS (T := 28) rfl rfl rfl (fun b1 => ?_)
  refine a_allocS (T := 28) rfl rfl rfl (fun b2 => ?_)
  refine a_storeV 1 rfl rfl rfl rfl ?_
  refine a_storeV 0 rfl rfl rfl rfl ?_
  refine Run.nil ?_
  refine pj_then ?_
  refine J_seq ?_
  refine J_reg ?_
  refine st (s_loadB 1 rfl rfl rfl) rfl ?_
  refine st (s_callk (d1 ) rfl ⟨VT.le_refl _, trivial⟩) rfl ?_
  refine st (s_move rfl) rfl ?_
  refine st (s_extract rfl rfl) rfl ?_
  refine st (s_extract rfl rfl) rfl ?_
  refine a_alloc (T := 43) rfl (ltN rfl) (fun b3 => ?_)
  refine a_storeB 0 rfl rfl rfl rfl rfl (leN rfl) rfl ?_
  refine st (s_assign rfl) rfl ?_
  refine Run.nil ?_
  refine pj_then ?_
  refine J_seq ?_
  refine J_reg ?_
  refine st (s_callk (rNewF_ok _ _ (by decide) (by decide)) rfl ⟨VT.le_refl _, VT.le_refl _, trivial⟩) rfl ?_
  refine st (s_callk (d2 ) rfl ⟨VT.le_refl _, trivial⟩) rfl ?_
  refine st (s_move rfl) rfl ?_
  refine st (s_extract rfl rfl) rfl ?_
  refine st (s_extract rfl rfl) rfl ?_
  refine a_alloc (T := 43) rfl (ltN rfl) (fun b5 => ?_)
  refine a_storeB 0 rfl rfl rfl rfl rfl (leN rfl) rfl ?_
  refine st (s_assign rfl) rfl ?_
  refine Run.nil ?_
  refine pj_then ?_
  refine J_seq ?_
  refine J_reg ?_
  refine st (s_loadB 2 rfl rfl rfl) rfl ?_
  refine st (s_callk (d3 ) rfl ⟨VT.le_refl _, trivial⟩) rfl ?_
  refine st (s_move rfl) rfl ?_
  refine st (s_extract rfl rfl) rfl ?_
  refine st (s_extract rfl rfl) rfl ?_
  refine a_alloc (T := 43) rfl (ltN rfl) (fun b7 => ?_)
  refine a_storeB 0 rfl rfl rfl rfl rfl (leN rfl) rfl ?_
  refine st (s_assign rfl) rfl ?_
  refine Run.nil ?_
  refine pj_then ?_
  refine J_seq ?_
  refine J_reg ?_
  refine stS rfl rfl rfl rfl ?_
  refine PartsK.cons rfl ?_
  refine PartsK.cons rfl ?_
  refine PartsK.cons rfl ?_
  refine PartsK.cons rfl ?_
  refine PartsK.cons rfl ?_
  refine PartsK.cons rfl ?_
  refine PartsK.cons rfl ?_
  refine PartsK.cons rfl ?_
  refine PartsK.nil ?_
  refine st (s_callk (i3 ) rfl ⟨VT.le_refl _, VT.le_refl _, (numV_le [0, 0, 0, 2, 0, 3, 1, 1]), trivial⟩) rfl ?_
  refine st (s_callk (r1 ) rfl ⟨VT.le_refl _, trivial⟩) rfl ?_
  refine st (s_move rfl) rfl ?_
  refine st (s_extract rfl rfl) rfl ?_
  refine st (s_extract rfl rfl) rfl ?_
  refine st (s_assign rfl) rfl ?_
  refine st (s_assign rfl) rfl ?_
  refine Run.nil ?_
  refine pj_then ?_
  refine J_seq ?_
  refine J_reg ?_
  refine stS rfl rfl rfl rfl ?_
  refine PartsK.cons rfl ?_
  refine PartsK.cons rfl ?_
  refine PartsK.cons rfl ?_
  refine PartsK.cons rfl ?_
  refine PartsK.nil ?_
  refine st (s_callk (i4 ) rfl ⟨VT.le_refl _, VT.le_refl _, (numV_le [2, 4, 1, 2]), trivial⟩) rfl ?_
  refine st (s_callk (rOf_ok _ (by omega) (by omega)) rfl ⟨VT.le_refl _, trivial⟩) rfl ?_
  refine st (s_callk (rOf_ok _ (by omega) (by omega)) rfl ⟨VT.le_refl _, trivial⟩) rfl ?_
  refine stS rfl rfl rfl rfl ?_
  refine PartsK.cons rfl ?_
  refine PartsK.cons rfl ?_
  refine PartsK.nil ?_
  refine st (s_callk (s1' ) rfl ⟨VT.le_refl _, (vec_le [1, 2]), trivial⟩) rfl ?_
  refine st (s_move rfl) rfl ?_
  refine st (s_extract rfl rfl) rfl ?_
  refine st (s_extract rfl rfl) rfl ?_
  refine st (s_extract rfl rfl) rfl ?_
  refine st (s_assign rfl) rfl ?_
  refine st (s_assign rfl) rfl ?_
  refine st (s_assign rfl) rfl ?_
  refine Run.nil ?_
  refine pj_then ?_
  refine J_seq ?_
  refine J_regd 11 mixed (by kernel_rfl) (by decide) ?_
  refine st (s_loadB 3 rfl rfl rfl) rfl ?_
  refine st (s_callk (rOf_ok _ (by omega) (by omega)) rfl ⟨VT.le_refl _, trivial⟩) rfl ?_
  refine st (s_callk (rOf_ok _ (by omega) (by omega)) rfl ⟨VT.le_refl _, trivial⟩) rfl ?_
  refine stS rfl rfl rfl rfl ?_
  refine PartsK.cons rfl ?_
  refine PartsK.cons rfl ?_
  refine PartsK.nil ?_
  refine st (s_callk (s2' ) rfl ⟨VT.le_refl _, (vec_le [1, 2]), trivial⟩) rfl ?_
  refine st (s_move rfl) rfl ?_
  refine st (s_extract rfl rfl) rfl ?_
  refine st (s_extract rfl rfl) rfl ?_
  refine st (s_extract rfl rfl) rfl ?_
  refine st (s_assign rfl) rfl ?_
  refine st (s_assign rfl) rfl ?_
  refine Run.nil ?_
  refine st (s_assign rfl) rfl ?_
  refine Run.nil ?_
  refine pj_then ?_
  refine J_seq ?_
  refine J_reg ?_
  refine st (s_loadB 4 rfl rfl rfl) rfl ?_
  refine st (s_callk (a1 ) rfl ⟨VT.le_refl _, trivial⟩) rfl ?_
  refine st (s_move rfl) rfl ?_
  refine st (s_extract rfl rfl) rfl ?_
  refine st (s_extract rfl rfl) rfl ?_
  refine a_allocS (T := 28) rfl rfl rfl (fun b17 => ?_)
  refine a_storeV 0 rfl rfl rfl rfl ?_
  refine st (s_assign rfl) rfl ?_
  refine Run.nil ?_
  refine pj_then ?_
  refine J_seq ?_
  refine J_reg ?_
  refine stS1 rfl rfl rfl rfl ?_
  refine st (s_callk (i5 ) rfl ⟨VT.le_refl _, VT.le_refl _, (numV1_le 5), trivial⟩) rfl ?_
  refine st (s_callk (a2 ) rfl ⟨VT.le_refl _, trivial⟩) rfl ?_
  refine st (s_move rfl) rfl ?_
  refine st (s_extract rfl rfl) rfl ?_
  refine st (s_extract rfl rfl) rfl ?_
  refine a_allocS (T := 28) rfl rfl rfl (fun b19 => ?_)
  refine a_storeV 0 rfl rfl rfl rfl ?_
  refine st (s_assign rfl) rfl ?_
  refine Run.nil ?_
  refine pj_then ?_
  refine J_seq ?_
  refine J_reg ?_
  refine st (s_loadB 5 rfl rfl rfl) rfl ?_
  refine st (s_callk (a3 ) rfl ⟨VT.le_refl _, trivial⟩) rfl ?_
  refine st (s_move rfl) rfl ?_
  refine st (s_extract rfl rfl) rfl ?_
  refine st (s_extract rfl rfl) rfl ?_
  refine a_allocS (T := 28) rfl rfl rfl (fun b21 => ?_)
  refine a_storeV 0 rfl rfl rfl rfl ?_
  refine st (s_assign rfl) rfl ?_
  refine Run.nil ?_
  refine pj_then ?_
  refine J_seq ?_
  refine J_regd 20 mixed (by kernel_rfl) (by decide) ?_
  refine st (s_move rfl) rfl ?_
  refine st (sT (by omega) (s_eq rfl rfl)) rfl ?_
  refine st (s_move rfl) rfl ?_
  refine sg1 rfl rfl (s_loadB 5 rfl rfl rfl) rfl ?_
  refine sg1 rfl rfl (s_callk (rOf_ok _ (by omega) (by omega)) rfl ⟨VT.le_refl _, trivial⟩) rfl ?_
  refine sg1 rfl rfl (sT (by omega) (s_callk (rSame_ok _ _) rfl ⟨VT.le_refl _, VT.le_refl _, trivial⟩)) rfl ?_
  refine st (s_pickT rfl rfl) rfl ?_
  refine st (s_move rfl) rfl ?_
  refine sg1 rfl rfl (s_move rfl) rfl ?_
  refine sg1 rfl rfl (sT (by omega) (s_eq rfl rfl)) rfl ?_
  refine st (s_pickT rfl rfl) rfl ?_
  refine st (s_move rfl) rfl ?_
  refine sg1 rfl rfl (s_loadB 4 rfl rfl rfl) rfl ?_
  refine sg1 rfl rfl (s_callk (rOf_ok _ (by omega) (by omega)) rfl ⟨VT.le_refl _, trivial⟩) rfl ?_
  refine sg1 rfl rfl (sT (by omega) (s_callk (rSame_ok _ _) rfl ⟨VT.le_refl _, VT.le_refl _, trivial⟩)) rfl ?_
  refine st (s_pickT rfl rfl) rfl ?_
  refine st (s_move rfl) rfl ?_
  refine sg1 rfl rfl (s_move rfl) rfl ?_
  refine sg1 rfl rfl (sT (by omega) (s_eq rfl rfl)) rfl ?_
  refine st (s_pickT rfl rfl) rfl ?_
  refine Run.nil ?_
  refine st (s_assign rfl) rfl ?_
  refine Run.nil ?_
  refine pj_then ?_
  refine J_seq ?_
  refine J_reg ?_
  refine st (s_move rfl) rfl ?_
  refine st (s_move rfl) rfl ?_
  refine sg1 rfl rfl (s_move rfl) rfl ?_
  refine stSg rfl rfl rfl rfl rfl rfl ?_
  refine PartsK.cons rfl ?_
  refine PartsK.cons rfl ?_
  refine PartsK.nil ?_
  refine sg1 rfl rfl (s_callk (hh1 ) rfl ⟨(numV_le [1, 0]), trivial⟩) rfl ?_
  refine sg1 rfl rfl (s_callk (hl1 ) rfl ⟨VT.le_refl _, VT.le_refl _, trivial⟩) rfl ?_
  refine st (s_pickT rfl rfl) rfl ?_
  refine st (s_move rfl) rfl ?_
  refine sg1 rfl rfl (s_move rfl) rfl ?_
  refine sg1 rfl rfl (s_not rfl) rfl ?_
  refine st (s_pickT rfl rfl) rfl ?_
  refine st (s_move rfl) rfl ?_
  refine sg1 rfl rfl (s_move rfl) rfl ?_
  refine stSg rfl rfl rfl rfl rfl rfl ?_
  refine PartsK.cons rfl ?_
  refine PartsK.cons rfl ?_
  refine PartsK.nil ?_
  refine sg1 rfl rfl (s_callk (hh2 ) rfl ⟨(numV_le [-2, 2]), trivial⟩) rfl ?_
  refine sg1 rfl rfl (s_callk (hl2 ) rfl ⟨VT.le_refl _, VT.le_refl _, trivial⟩) rfl ?_
  refine st (s_pickT rfl rfl) rfl ?_
  refine st (s_assign rfl) rfl ?_
  refine Run.nil ?_
  refine pj_then ?_
  refine J_seq ?_
  refine J_regd 22 mixed (by kernel_rfl) (by decide) ?_
  refine st (s_move rfl) rfl ?_
  refine st (sT (by omega) (s_eq rfl rfl)) rfl ?_
  refine st (s_move rfl) rfl ?_
  refine sg1 rfl rfl (s_loadB 2 rfl rfl rfl) rfl ?_
  refine stSg rfl rfl rfl rfl rfl rfl ?_
  refine PartsK.cons rfl ?_
  refine PartsK.cons rfl ?_
  refine PartsK.cons rfl ?_
  refine PartsK.cons rfl ?_
  refine PartsK.nil ?_
  refine sg1 rfl rfl (s_callk (i6 ) rfl ⟨VT.le_refl _, VT.le_refl _, (numV_le [4, -2, -3, 1]), trivial⟩) rfl ?_
  refine sg1 rfl rfl (sT (⟨rfl, rfl, by decide +kernel⟩) (s_callk (rSameF_ok _ _ _ _ _ _ (by omega)) rfl ⟨VT.le_refl _, VT.le_refl _, trivial⟩)) rfl ?_
  refine st (s_pickT rfl rfl) rfl ?_
  refine st (s_move rfl) rfl ?_
  refine sg1 rfl rfl (s_move rfl) rfl ?_
  refine sg1 rfl rfl (sT (by omega) (s_eq rfl rfl)) rfl ?_
  refine st (s_pickT rfl rfl) rfl ?_
  refine st (s_move rfl) rfl ?_
  refine sg1 rfl rfl (s_loadB 1 rfl rfl rfl) rfl ?_
  refine stSg rfl rfl rfl rfl rfl rfl ?_
  refine PartsK.cons rfl ?_
  refine PartsK.nil ?_
  refine sg1 rfl rfl (s_callk (i7 ) rfl ⟨VT.le_refl _, VT.le_refl _, (numV_le [1]), trivial⟩) rfl ?_
  refine sg1 rfl rfl (sT (⟨rfl, rfl, by decide +kernel⟩) (s_callk (rSameF_ok _ _ _ _ _ _ (by omega)) rfl ⟨VT.le_refl _, VT.le_refl _, trivial⟩)) rfl ?_
  refine st (s_pickT rfl rfl) rfl ?_
  refine st (s_move rfl) rfl ?_
  refine sg1 rfl rfl (s_move rfl) rfl ?_
  refine sg1 rfl rfl (sT (by omega) (s_eq rfl rfl)) rfl ?_
  refine st (s_pickT rfl rfl) rfl ?_
  refine Run.nil ?_
  refine st (s_assign rfl) rfl ?_
  refine Run.nil ?_
  refine pj_then ?_
  refine J_seq ?_
  refine J_reg ?_
  refine st (s_move rfl) rfl ?_
  refine st (s_move rfl) rfl ?_
  refine sg1 rfl rfl (s_move rfl) rfl ?_
  refine stSg rfl rfl rfl rfl rfl rfl ?_
  refine PartsK.cons rfl ?_
  refine PartsK.cons rfl ?_
  refine PartsK.nil ?_
  refine sg1 rfl rfl (s_callk (hn1 ) rfl ⟨(pivT_num (m := [1, 3]) rfl), (numV_le [1, 3]), trivial⟩) rfl ?_
  refine st (s_pickT rfl rfl) rfl ?_
  refine st (s_move rfl) rfl ?_
  refine sg1 rfl rfl (s_move rfl) rfl ?_
  refine stSg rfl rfl rfl rfl rfl rfl ?_
  refine PartsK.cons rfl ?_
  refine PartsK.cons rfl ?_
  refine PartsK.nil ?_
  refine sg1 rfl rfl (s_callk (hn2 ) rfl ⟨(pivT_num (m := [0, 1]) rfl), (numV_le [0, 1]), trivial⟩) rfl ?_
  refine st (s_pickT rfl rfl) rfl ?_
  refine st (s_move rfl) rfl ?_
  refine sg1 rfl rfl (s_move rfl) rfl ?_
  refine st (s_pickT rfl rfl) rfl ?_
  refine st (s_move rfl) rfl ?_
  refine sg1 rfl rfl (s_move rfl) rfl ?_
  refine st (s_pickT rfl rfl) rfl ?_
  refine st (s_assign rfl) rfl ?_
  refine Run.nil ?_
  refine pj_then ?_
  refine J_ret ?_
  refine retc1 Tryz.results7 (.tmp rfl (VT.le_refl _))
end Tor
end

section
set_option linter.unusedVariables false
set_option linter.unusedSimpArgs false
namespace Tor
open Go Go.RowKit Go.Proofs
def rawInT (r c : Nat) (l : List Int) : VT := aggT 3 [(0, .one, one (.int .u8 r)), (1, .one, one (.int .u8 c)), (2, .one, numT .i8 l)]
def madeF (c : Nat) (l : List Int) : Nat → Nat → Int := fun i j => dig l (i * (c % 5) + j)
theorem tmod5 (n : Nat) : (n : Int).tmod 5 = ((n % 5 : Nat) : Int) := by
  rw [Int.tmod_eq_emod_of_nonneg (by omega)]; omega
attribute [local irreducible] Tor.J Tor.PJ Tor.StepO Tor.one Tor.slT Tor.ptrT Tor.aggT Tor.tupT Tor.exT Tor.andT Tor.gT Tor.eP Tor.boxO Tor.sliO Tor.slV Tor.VT.le Tor.Ret Tor.anyT
attribute [local irreducible] bigT Tor.rowsO
set_option maxHeartbeats 2000000 in
theorem rMadeM_ok (r c : Nat) (l : List Int) : OkM Tryz.prog 8 [rawInT r c l] (newT (r % 5) (c % 5)) (fun s => [outO s.1.2.1 s.1.2.2 (r % 5) (c % 5) s.1.1, ownR (c % 5) s.1.1 (madeF c l)]) := by
  unfold rawInT numT
  refine OkM.enter Tryz.func8 rfl Tryz.ntmps8 rfl (fun w O => ?_)
  have h5 := tmod5 r
  have h6 := tmod5 c
  have hr : r % 5 < 5 := Nat.mod_lt _ (by decide)
  have hc : c % 5 < 5 := Nat.mod_lt _ (by decide)
  refine J_seq ?_
  refine J_reg ?_
  refine a_boxS rfl rfl (ltN rfl) (fun b => ?_)
  refine a_allocS (T := 28) rfl rfl rfl (fun b => ?_)
  refine Run.nil ?_
  refine pj_then ?_
  refine J_seq ?_
  refine J_reg ?_
  refine st (s_fieldAddr rfl) rfl ?_
  refine st (s_loadB 1 rfl rfl rfl) rfl ?_
  refine st (s_rem rfl rfl (by decide) rfl) rfl ?_
  (refine st (s_toI64 rfl ?_ ?_) rfl ?_; omega; omega)
  refine st (s_fieldAddr rfl) rfl ?_
  refine st (s_loadB 1 rfl rfl rfl) rfl ?_
  refine st (s_rem rfl rfl (by decide) rfl) rfl ?_
  (refine st (s_toI64 rfl ?_ ?_) rfl ?_; omega; omega)
  refine st (s_fieldAddr rfl) rfl ?_
  refine st (s_loadB 1 rfl rfl rfl) rfl ?_
  rw [h5]
  skip
  rw [h6]
  skip
  refine a_callM (rFilledM_ok (r % 5) (c % 5) l (by omega) (by omega)) rfl ⟨VT.le_refl _, VT.le_refl _, VT.le_refl _, trivial⟩ rfl rfl (fun s => ?_)
  unfold newT
  refine a_storeW 2 rfl rfl rfl rfl ?_
  refine Run.nil ?_
  refine pj_then ?_
  refine J_ret ?_
  refine retM1 s Tryz.results8 (.cellW 2 rfl rfl ?_) ?_
  · exact VT.le_refl _
  · exact .keep (Own.le_refl _) (.keep (Own.le_refl _) (SubM.nilR _))
end Tor
end

section
set_option linter.unusedVariables false
set_option linter.unusedSimpArgs false
namespace Tor
open Go Go.RowKit Go.Proofs
theorem dig_abs (l : List Int) (n : Nat) : (dig l n).natAbs ≤ 9 := by
  unfold dig; rw [Int.natAbs_tmod]
  show (l.getD n 0).natAbs % 10 ≤ 9
  omega
theorem lz_dig (l : List Int) (n : Nat) : lz 1 (dig l n) := digs_len_le (k := 1) (by have := dig_abs l n; omega)
theorem mod4_dig (l : List Int) (n : Nat) : mod4 (dig l n) := Nat.le_trans (dig_abs l n) (by decide +kernel)
theorem sumF_abs {B : Nat} {f : Nat → Int} (h : ∀ k, (f k).natAbs ≤ B) : ∀ n, (sumF n f).natAbs ≤ n * B
  | 0 => Nat.zero_le _
  | n + 1 => by
    have h1 := sumF_abs h n
    have h2 := h n
    rw [sumF_step, Nat.succ_mul]
    omega
theorem rMade5_ok (r c : Nat) (l : List Int) : Ok Tryz.prog 8 [rawInT r c l] (matF (r % 5) (c % 5) (fun i j => dig l (i * (c % 5) + j))) := (rMadeM_ok r c l).ok fun s => newT_mat _ s
attribute [local irreducible] Tor.J Tor.PJ Tor.StepO Tor.one Tor.slT Tor.ptrT Tor.aggT Tor.tupT Tor.exT Tor.andT Tor.gT Tor.eP Tor.boxO Tor.sliO Tor.slV Tor.VT.le Tor.Ret Tor.anyT Tor.mapO Tor.metT Tor.xO
attribute [local irreducible] bigT rowF
set_option maxHeartbeats 4000000 in
theorem rTimes5_ok (r c : Nat) (v : Nat → Int) (F : Nat → Nat → Int) (hr : r ≤ 1024) (hc : c ≤ 1024) (hv : ∀ i, mod4 (v i)) (hF : ∀ i j, mod4 (F i j)) : Ok Tryz.prog 74 [rowF r v, matF r c F] (tupT [rowF c (mulF r (fun _ => v) F 0), one (.int .i64 0)]) := by
  have h1 := rRow_ok r v
  have h2 := rProduct_ok 1 r (fun _ => v) c F (by decide) (by omega) (by omega) (fun _ => hv) hF
  unfold matF at *
  refine Ok.enter Tryz.func74 rfl Tryz.ntmps74 rfl (fun w O => ?_)
  unfold rowF at *
  refine J_seq ?_
  refine J_reg ?_
  refine a_boxS rfl rfl (ltN rfl) (fun b3 => ?_)
  refine st (s_assign rfl) rfl ?_
  refine st (s_assign rfl) rfl ?_
  refine Run.nil ?_
  refine pj_then ?_
  refine J_seq ?_
  refine J_seq ?_
  refine J_reg ?_
  refine st (s_move rfl) rfl ?_
  refine st (s_len rfl) rfl ?_
  refine st (s_fieldAddr rfl) rfl ?_
  refine st (s_loadB 0 rfl rfl rfl) rfl ?_
  refine st (sF (by omega) (s_ne rfl rfl)) rfl ?_
  refine Run.nil ?_
  refine pj_then ?_
  refine J_cond0 rfl ?_
  refine J_skip ?_
  refine pj_then ?_
  refine J_seq ?_
  refine J_regd 7 mixed (by kernel_rfl) (by decide) ?_
  refine st (s_move rfl) rfl ?_
  refine st (s_callk (h1 ) rfl ⟨VT.le_refl _, trivial⟩) rfl ?_
  refine st (s_loadW 0 rfl rfl) rfl ?_
  refine st (s_callk (h2 ) rfl ⟨VT.le_refl _, VT.le_refl _, trivial⟩) rfl ?_
  refine st (s_field rfl rfl) rfl ?_
  refine st (s_indexIN rfl rfl (by decide)) rfl ?_
  refine st (s_load rfl) rfl ?_
  refine Run.nil ?_
  refine st (s_assign rfl) rfl ?_
  refine st (s_assign rfl) rfl ?_
  refine Run.nil ?_
  refine pj_then ?_
  refine J_ret ?_
  refine retc2 Tryz.results74 (.tmp rfl (VT.le_refl _)) (.tmp rfl (VT.le_refl _))
set_option maxHeartbeats 4000000 in
theorem rAct5_ok (r c : Nat) (v : Nat → Int) (F : Nat → Nat → Int) (hr : r ≤ 1024) (hc : c ≤ 1024) (hv : ∀ i, mod4 (v i)) (hF : ∀ i j, mod4 (F i j)) : Ok Tryz.prog 37 [rowF r v, matF r c F] (rowF c (mulF r (fun _ => v) F 0)) := by
  have h := rTimes5_ok r c v F hr hc hv hF
  refine Ok.enter Tryz.func37 rfl Tryz.ntmps37 rfl (fun w O => ?_)
  refine J_seq ?_
  refine J_reg ?_
  refine a_boxS rfl rfl (ltN rfl) (fun b3 => ?_)
  refine st (s_assign rfl) rfl ?_
  refine Run.nil ?_
  refine pj_then ?_
  refine J_seq ?_
  refine J_reg ?_
  refine st (s_move rfl) rfl ?_
  refine st (s_loadW 0 rfl rfl) rfl ?_
  refine st (s_callk (h ) rfl ⟨VT.le_refl _, VT.le_refl _, trivial⟩) rfl ?_
  refine st (s_move rfl) rfl ?_
  refine st (s_extract rfl rfl) rfl ?_
  refine st (s_extract rfl rfl) rfl ?_
  refine st (s_assign rfl) rfl ?_
  refine st (s_assign rfl) rfl ?_
  refine Run.nil ?_
  refine pj_then ?_
  refine J_seq ?_
  refine J_reg ?_
  refine st (s_move rfl) rfl ?_
  refine st (s_assign rfl) rfl ?_
  refine Run.nil ?_
  refine pj_then ?_
  refine J_ret ?_
  refine retc1 Tryz.results37 (.tmp rfl (VT.le_refl _))
end Tor
end

section
set_option linter.unusedVariables false
set_option linter.unusedSimpArgs false
namespace Tor
open Go Go.RowKit Go.Proofs
theorem sumF_cast (n : Nat) (f : Nat → Int) : ((sumF n f : Int) : Rat) = Lin.sm n (fun i => (f i : Rat)) := by
  induction n with
  | zero => rfl
  | succ n ih => rw [sumF_step, Lin.sm, Rat.intCast_add, ih]
theorem solved_of {r c : Nat} {F : Nat → Nat → Int} {v : Nat → Int} : firstP (elN c true (eqS r F (mulF r (fun _ => v) F 0)) r).R r (elN c true (eqS r F (mulF r (fun _ => v) F 0)) r).piv.length c = none := by
  obtain ⟨A, V, hE⟩ := Lin.elN_EL c (r + 1 + c) true (eqS r F (mulF r (fun _ => v) F 0)) r (by omega)
  cases h0 : firstP (elN c true (eqS r F (mulF r (fun _ => v) F 0)) r).R r (elN c true (eqS r F (mulF r (fun _ => v) F 0)) r).piv.length c with
  | none => rfl
  | some q =>
    obtain ⟨h1, h2⟩ := hE.alt h0
    generalize hy : (fun k => Rat.divInt ((elN c true (eqS r F (mulF r (fun _ => v) F 0)) r).R q (r + 1 + k)) ((elN c true (eqS r F (mulF r (fun _ => v) F 0)) r).R q r)) = y at *
    have h1' : ∀ i, i < r → Lin.sm c (fun k => y k * (F i k : Rat)) = 0 := fun i hi => by rw [← hy]; exact h1 i hi
    have h2' : Lin.sm c (fun k => ((mulF r (fun _ => v) F 0 k : Int) : Rat) * y k) = 1 := by rw [← hy]; exact h2
    have e : Lin.sm c (fun k => ((mulF r (fun _ => v) F 0 k : Int) : Rat) * y k) = Lin.sm r (fun i => (v i : Rat) * Lin.sm c (fun k => y k * (F i k : Rat))) := by
      rw [Lin.sm_congr (g := fun k => Lin.sm r (fun i => (v i : Rat) * (y k * (F i k : Rat)))) (fun k _ => by
        show ((sumF r (fun i => v i * F i k) : Int) : Rat) * y k = _
        rw [sumF_cast, ← Lin.sm_mulr]
        exact Lin.sm_congr fun i _ => by rw [Rat.intCast_mul]; grind), Lin.sm_swap]
      exact Lin.sm_congr fun i _ => Lin.sm_mull _ _ _
    rw [e, Lin.sm_all0 (fun i hi => by rw [h1' i hi]; exact Rat.mul_zero _)] at h2'
    exact absurd h2' (by decide)
theorem qz_xs {n r c : Nat} {F : Nat → Nat → Int} {b : Nat → Int} (hn : 1 ≤ n) (hF : ∀ i j, lz n (F i j)) (hb : ∀ j, lz n (b j)) : ∀ i, qz (bndN n c) (xsN (elN c true (eqS r F b) r) r (elN c true (eqS r F b) r).piv.length i) := fun i => by
  obtain ⟨A, V, hE⟩ := Lin.elN_EL c (r + 1 + c) true (eqS r F b) r (by omega)
  have hok := elN_ok (r := c) true hn (lz_eqS (r := r) hn hF hb) r
  have hne := fun k hk => el_pivne hE.gj rfl (by omega) (k := k) hk
  generalize elN c true (eqS r F b) r = e at *
  have hbd := bndN_le (n := n) hok.p
  have h1 : 1 ≤ bndN n c := Nat.le_trans hn (by have := bndN_le (n := n) (Nat.zero_le c); exact this)
  have key : ∀ p, p ≤ e.piv.length → qz (bndN n c) (xsN e r p i) := by
    intro p
    induction p with
    | zero => intro _; exact qz_zero _ h1
    | succ p ih =>
      intro hp
      show qz _ (if i = e.piv.getD p 0 then Rat.divInt (e.R p r) (e.R p i) else xsN e r p i)
      split
      · rename_i h
        exact qz_div ((hok.R _ _).mono hbd) ((hok.R _ _).mono hbd) (by rw [h]; exact hne p (by omega))
      · exact ih (by omega)
  exact key _ (Nat.le_refl _)
theorem SolveN_ok (r c : Nat) (F : Nat → Nat → Int) (b : Nat → Int) (n : Nat) (hr : r ≤ 1024) (hc : c ≤ 1024) (he : elim0 n c) (hF : ∀ i j, lz n (F i j)) (hb : ∀ j, lz n (b j)) (h0 : firstP (elN c true (eqS r F b) r).R r (elN c true (eqS r F b) r).piv.length c = none) :
    Ok Tryz.prog 13 [matF r c F, rowF c b] (tupT [ratF r (xsN (elN c true (eqS r F b) r) r (elN c true (eqS r F b) r).piv.length), ratF 0 (fun _ => 0), one (.bool true)]) := by
  have h := Solve_ok r c F b n hr hc he hF hb
  rw [h0] at h; exact h
theorem SolveY_ok (r c : Nat) (F : Nat → Nat → Int) (b : Nat → Int) (n : Nat) (hr : r ≤ 1024) (hc : c ≤ 1024) (he : elim0 n c) (hF : ∀ i j, lz n (F i j)) (hb : ∀ j, lz n (b j)) {q : Nat} (h0 : firstP (elN c true (eqS r F b) r).R r (elN c true (eqS r F b) r).piv.length c = some q) :
    Ok Tryz.prog 13 [matF r c F, rowF c b] (tupT [ratF 0 (fun _ => 0), ratF c (fun k => Rat.divInt ((elN c true (eqS r F b) r).R q (r + 1 + k)) ((elN c true (eqS r F b) r).R q r)), one (.bool false)]) := by
  have h := Solve_ok r c F b n hr hc he hF hb
  rw [h0] at h; exact h
theorem rqValidListF_ok (n m : Nat) (l : Nat → Rat) (z : Nat) (hn : n ≤ 1048576) (hz : z ≤ 1099511627700) (hl : ∀ i, i < n → qz z (l i)) : Ok Tryz.prog 28 [ratF n l, one (.int .i64 (m : Nat))] (one (.bool (decide (n = m)))) := rqValidList_ok n m l z hn hz hl
theorem elim04 {c : Nat} (hc : c ≤ 4) : elim0 1 c := ⟨by decide, by
  have : 2 ^ c ≤ 2 ^ 4 := Nat.pow_le_pow_right (by decide) hc
  have h16 : 2 ^ 4 = 16 := rfl
  omega⟩
theorem smB4 {X r : Nat} (hX : X ≤ 1000) (hr : r ≤ 4) : smB X r ≤ 1099511627700 := by
  refine Nat.le_trans (smB_mono hr) ?_
  show smB X 3 + X + 1 ≤ _
  show smB X 2 + X + 1 + X + 1 ≤ _
  show smB X 1 + X + 1 + X + 1 + X + 1 ≤ _
  show 1 + X + 1 + X + 1 + X + 1 + X + 1 ≤ _
  omega
attribute [local irreducible] Tor.J Tor.PJ Tor.StepO Tor.one Tor.slT Tor.ptrT Tor.aggT Tor.tupT Tor.exT Tor.andT Tor.gT Tor.eP Tor.boxO Tor.sliO Tor.slV Tor.VT.le Tor.Ret Tor.anyT Tor.mapO Tor.metT Tor.xO
attribute [local irreducible] bigT ratT rowF ratF
set_option maxRecDepth 100000 in
set_option maxHeartbeats 8000000 in
theorem consistentLaw_ok (r c : Nat) (l v : List Int) : Ok Tryz.prog 6 [rawInT r c l, numT .i8 v] (one (.bool true)) := by
  have hmk := rMade5_ok r c l
  have hr : r % 5 ≤ 4 := by omega
  have hc : c % 5 ≤ 4 := by omega
  generalize hF : (fun i j => dig l (i * (c % 5) + j)) = F at *
  have lF : ∀ i j, lz 1 (F i j) := fun i j => by rw [← hF]; exact lz_dig _ _
  have mF : ∀ i j, mod4 (F i j) := fun i j => by rw [← hF]; exact mod4_dig _ _
  have hA : ∀ i j, (F i j).natAbs ≤ 9 := fun i j => by rw [← hF]; exact dig_abs _ _
  generalize r % 5 = r at *
  generalize c % 5 = c at *
  have hve := rVector_ok v r (by omega)
  have hac := rAct5_ok r c (dig v) F (by omega) (by omega) (mod4_dig v) mF
  have hs0 := solved_of (r := r) (c := c) (F := F) (v := dig v)
  have lb : ∀ j, lz 1 (mulF r (fun _ => dig v) F 0 j) := fun j => digs_len_le (k := 1) (by
    have h := sumF_abs (B := 81) (f := fun k => dig v k * F k j) (fun k => by
      rw [Int.natAbs_mul]
      exact Nat.mul_le_mul (dig_abs v k) (hA k j)) r
    have h2 : r * 81 ≤ 4 * 81 := Nat.mul_le_mul_right _ hr
    show (sumF r (fun k => dig v k * F k j)).natAbs < 4294967296 ^ 1
    omega)
  have hso := SolveN_ok r c F (mulF r (fun _ => dig v) F 0) 1 (by omega) (by omega) (elim04 hc) lF lb hs0
  obtain ⟨A, V, hE⟩ := Lin.elN_EL c (r + 1 + c) true (eqS r F (mulF r (fun _ => dig v) F 0)) r (by omega)
  have hsol := fun j (hj : j < c) => hE.solves hs0 hj
  have hq : ∀ i, qz 31 (xsN (elN c true (eqS r F (mulF r (fun _ => dig v) F 0)) r) r (elN c true (eqS r F (mulF r (fun _ => dig v) F 0)) r).piv.length i) := fun i => (qz_xs (r := r) (c := c) (by decide : 1 ≤ 1) lF lb i).mono (bndN_le (n := 1) hc)
  generalize mulF r (fun _ => dig v) F 0 = b at *
  generalize xsN (elN c true (eqS r F b) r) r (elN c true (eqS r F b) r).piv.length = xs at *
  clear hs0 hE
  have hvl := rqValidListF_ok r r xs 31 (by omega) (by decide) (fun i _ => hq i)
  rw [decide_eq_true rfl] at hvl
  have ha := r8Act_ok r c xs F 31 1 (by omega) (by omega) (by decide) (fun i _ => hq i) lF (smB4 (by decide) hr)
  have hra := r8Rationals_ok c b (by omega)
  have hli := rqListF_ok c c (fun j => Lin.sm r (fun i => xs i * (F i j : Rat))) (fun j => (b j : Rat)) (by omega)
  rw [decide_eq_true ⟨rfl, hsol⟩] at hli
  have hsan := sanity_ok
  unfold matF at *
  refine Ok.enter Tryz.func6 rfl Tryz.ntmps6 rfl (fun w O => ?_)
  refine J_seq ?_
  refine J_reg ?_
  refine a_boxS rfl rfl (ltN rfl) (fun b2 => ?_)
  refine st (s_assign rfl) rfl ?_
  refine Run.nil ?_
  refine pj_then ?_
  refine J_seq ?_
  refine J_reg ?_
  refine st (s_callk (hsan ) rfl trivial) rfl ?_
  refine st (s_assign rfl) rfl ?_
  refine Run.nil ?_
  refine pj_then ?_
  refine J_seq ?_
  refine J_reg ?_
  refine st (s_loadW 0 rfl rfl) rfl ?_
  refine st (s_callk (hmk ) rfl ⟨VT.le_refl _, trivial⟩) rfl ?_
  refine a_allocS (T := 28) rfl rfl rfl (fun b6 => ?_)
  refine a_storeW 0 rfl rfl rfl rfl ?_
  refine Run.nil ?_
  refine pj_then ?_
  refine J_seq ?_
  refine J_regd 6 mixed (by kernel_rfl) (by decide) ?_
  refine st (s_move rfl) rfl ?_
  refine st (s_fieldAddr rfl) rfl ?_
  refine st (s_loadB 0 rfl rfl rfl) rfl ?_
  refine st (s_callk (hve ) rfl ⟨VT.le_refl _, VT.le_refl _, trivial⟩) rfl ?_
  refine st (s_loadW 0 rfl rfl) rfl ?_
  refine st (s_callk (hac ) rfl ⟨VT.le_refl _, VT.le_refl _, trivial⟩) rfl ?_
  refine Run.nil ?_
  refine st (s_assign rfl) rfl ?_
  refine Run.nil ?_
  refine pj_then ?_
  refine J_seq ?_
  refine J_reg ?_
  refine st (s_loadW 0 rfl rfl) rfl ?_
  refine st (s_move rfl) rfl ?_
  refine st (s_callk (hso ) rfl ⟨VT.le_refl _, VT.le_refl _, trivial⟩) rfl ?_
  refine st (s_move rfl) rfl ?_
  refine st (s_extract rfl rfl) rfl ?_
  refine st (s_extract rfl rfl) rfl ?_
  refine st (s_extract rfl rfl) rfl ?_
  refine st (s_assign rfl) rfl ?_
  refine st (s_assign rfl) rfl ?_
  refine st (s_assign rfl) rfl ?_
  refine Run.nil ?_
  refine pj_then ?_
  refine J_seq ?_
  refine J_reg ?_
  refine st (s_move rfl) rfl ?_
  refine st (s_move rfl) rfl ?_
  refine sg1 rfl rfl (s_move rfl) rfl ?_
  refine sg1 rfl rfl (s_fieldAddr rfl) rfl ?_
  refine sg1 rfl rfl (s_loadB 0 rfl rfl rfl) rfl ?_
  refine sg1 rfl rfl (s_callk (hvl ) rfl ⟨VT.le_refl _, VT.le_refl _, trivial⟩) rfl ?_
  refine st (s_pickT rfl rfl) rfl ?_
  refine st (s_move rfl) rfl ?_
  refine sg1 rfl rfl (s_move rfl) rfl ?_
  refine sg1 rfl rfl (s_loadW 0 rfl rfl) rfl ?_
  refine sg1 rfl rfl (s_callk (ha ) rfl ⟨VT.le_refl _, VT.le_refl _, trivial⟩) rfl ?_
  refine sg1 rfl rfl (s_move rfl) rfl ?_
  refine sg1 rfl rfl (s_callk (hra ) rfl ⟨VT.le_refl _, trivial⟩) rfl ?_
  refine sg1 rfl rfl (s_callk (hli ) rfl ⟨VT.le_refl _, VT.le_refl _, trivial⟩) rfl ?_
  refine st (s_pickT rfl rfl) rfl ?_
  refine st (s_move rfl) rfl ?_
  refine sg1 rfl rfl (s_move rfl) rfl ?_
  refine st (s_pickT rfl rfl) rfl ?_
  refine st (s_assign rfl) rfl ?_
  refine Run.nil ?_
  refine pj_then ?_
  refine J_ret ?_
  refine retc1 Tryz.results6 (.tmp rfl (VT.le_refl _))
end Tor
end

section
set_option linter.unusedVariables false
set_option linter.unusedSimpArgs false
namespace Tor
open Go Go.RowKit Go.Proofs
theorem newL_eqS {r c : Nat} {F : Nat → Nat → Int} {b : Nat → Int} : Lin.newL c (r + 1 + c) (eqS r F b) r = Lin.newL c r (fun i j => F j i) r := by
  unfold Lin.newL
  refine List.filter_congr fun x hx => ?_
  have hx : x < r := List.mem_range.1 hx
  have key : Lin.isNew c (r + 1 + c) (eqS r F b) x ↔ Lin.isNew c r (fun i j => F j i) x := by
    unfold Lin.isNew
    refine not_congr ⟨fun ⟨y, y1, y2, y3⟩ => ⟨y, y1, y2, fun i hi => ?_⟩, fun ⟨y, y1, y2, y3⟩ => ⟨y, y1, y2, fun i hi => ?_⟩⟩
    · have h := y3 i hi
      rw [Nat.add_assoc, Lin.sm_app, Lin.sm_all0 (n := 1 + c) (fun k _ => by rw [y2 _ (by omega)]; exact Rat.zero_mul _)] at h
      rw [← h, Rat.add_zero]
      exact Lin.sm_congr fun k hk => by
        have : eqS r F b i k = F k i := by unfold eqS; rw [if_pos hk]
        rw [this]
    · have h := y3 i hi
      rw [Nat.add_assoc, Lin.sm_app, Lin.sm_all0 (n := 1 + c) (fun k _ => by rw [y2 _ (by omega)]; exact Rat.zero_mul _), Rat.add_zero, ← h]
      exact Lin.sm_congr fun k hk => by
        have : eqS r F b i k = F k i := by unfold eqS; rw [if_pos hk]
        rw [this]
  simp [key]
theorem qz_ys {n r c q : Nat} {F : Nat → Nat → Int} {b : Nat → Int} (hn : 1 ≤ n) (hF : ∀ i j, lz n (F i j)) (hb : ∀ j, lz n (b j)) (h0 : firstP (elN c true (eqS r F b) r).R r (elN c true (eqS r F b) r).piv.length c = some q) : ∀ k, qz (bndN n c) (Rat.divInt ((elN c true (eqS r F b) r).R q (r + 1 + k)) ((elN c true (eqS r F b) r).R q r)) := fun k => by
  have hok := elN_ok (r := c) true hn (lz_eqS (r := r) hn hF hb) r
  have hbd := bndN_le (n := n) hok.p
  have hne : (elN c true (eqS r F b) r).R q r ≠ 0 := by
    rcases el_cases (elN c true (eqS r F b) r).R r (elN c true (eqS r F b) r).piv.length c with h1 | ⟨i, h1, h2, h3, h4⟩
    · rw [firstP_none h1] at h0; cases h0
    · rw [firstP_some h1 h2 h3 h4] at h0; cases h0; exact h4
  exact qz_div ((hok.R _ _).mono hbd) ((hok.R _ _).mono hbd) hne
def WalkI (l : List Nat) (i k : Nat) : Prop := k ≤ l.length ∧ (∀ j, j < k → l.getD j 0 < i) ∧ (k < l.length → i ≤ l.getD k 0)
theorem WalkI.start (l : List Nat) : WalkI l 0 0 := ⟨Nat.zero_le _, fun _ h => absurd h (Nat.not_lt_zero _), fun _ => Nat.zero_le _⟩
theorem WalkI.hit {l : List Nat} (hs : l.Pairwise (· < ·)) {i k : Nat} (h : WalkI l i k) (hk : k < l.length) (e : l.getD k 0 = i) : WalkI l (i + 1) (k + 1) :=
  ⟨hk, fun j hj => by
    by_cases h1 : j = k
    · subst h1; omega
    · have := h.2.1 j (by omega); omega, fun h2 => by have := Lin.sorted_get hs (i := k) (j := k + 1) (by omega) h2; omega⟩
theorem WalkI.miss {l : List Nat} {i k : Nat} (h : WalkI l i k) (hn : ¬ (k < l.length ∧ l.getD k 0 = i)) : WalkI l (i + 1) k :=
  ⟨h.1, fun j hj => by have := h.2.1 j hj; omega, fun h2 => by
    have h3 := h.2.2 h2
    have : l.getD k 0 ≠ i := fun e => hn ⟨h2, e⟩
    omega⟩
theorem WalkI.out {l : List Nat} (hs : l.Pairwise (· < ·)) {i k : Nat} (h : WalkI l i k) (hn : ¬ (k < l.length ∧ l.getD k 0 = i)) : i ∉ l := fun hm => by
  obtain ⟨j, hj, e⟩ := List.mem_iff_getElem.1 hm
  have e' : l.getD j 0 = i := by simp [List.getD, hj, e]
  by_cases h1 : j < k
  · have := h.2.1 j h1; omega
  · by_cases h2 : j = k
    · subst h2; exact hn ⟨hj, e'⟩
    · have h3 := Lin.sorted_get hs (i := k) (j := j) (by omega) hj
      have h4 := h.2.2 (by omega)
      omega
theorem r8ZerosF_ok (n : Nat) (l : Nat → Rat) (hn : n ≤ 1048576) (h : ∀ i, i < n → l i = 0) : Ok Tryz.prog 29 [ratF n l] (one (.bool true)) := by
  have h1 := r8Zeros_ok n l hn
  rw [decide_eq_true h] at h1; exact h1
attribute [local irreducible] Tor.J Tor.PJ Tor.StepO Tor.one Tor.slT Tor.ptrT Tor.aggT Tor.tupT Tor.exT Tor.andT Tor.gT Tor.eP Tor.boxO Tor.sliO Tor.slV Tor.VT.le Tor.Ret Tor.anyT Tor.mapO Tor.metT Tor.xO
attribute [local irreducible] bigT ratT rowF
set_option maxRecDepth 100000 in
set_option maxHeartbeats 8000000 in
theorem alternativeLaw_ok (r c : Nat) (l v : List Int) : Ok Tryz.prog 5 [rawInT r c l, numT .i8 v] (one (.bool true)) := by
  have hmk := rMade5_ok r c l
  have hr : r % 5 ≤ 4 := by omega
  have hc : c % 5 ≤ 4 := by omega
  generalize hF : (fun i j => dig l (i * (c % 5) + j)) = F at *
  have lF : ∀ i j, lz 1 (F i j) := fun i j => by rw [← hF]; exact lz_dig _ _
  have mF : ∀ i j, mod4 (F i j) := fun i j => by rw [← hF]; exact mod4_dig _ _
  generalize r % 5 = r at *
  generalize c % 5 = c at *
  have hve := rVector_ok v c (by omega)
  have lb : ∀ j, lz 1 (dig v j) := fun j => lz_dig _ _
  have hsan := sanity_ok
  obtain ⟨A, V, hE⟩ := Lin.elN_EL c (r + 1 + c) true (eqS r F (dig v)) r (by omega)
  cases h0 : firstP (elN c true (eqS r F (dig v)) r).R r (elN c true (eqS r F (dig v)) r).piv.length c with
  | some q =>
    have hso := SolveY_ok r c F (dig v) 1 (by omega) (by omega) (elim04 hc) lF lb h0
    have hq : ∀ k, qz 31 (Rat.divInt ((elN c true (eqS r F (dig v)) r).R q (r + 1 + k)) ((elN c true (eqS r F (dig v)) r).R q r)) := fun k => (qz_ys (by decide : 1 ≤ 1) lF lb h0 k).mono (bndN_le (n := 1) hc)
    obtain ⟨hy1, hy2⟩ := hE.alt h0
    clear hE h0
    generalize hyd : (fun k => Rat.divInt ((elN c true (eqS r F (dig v)) r).R q (r + 1 + k)) ((elN c true (eqS r F (dig v)) r).R q r)) = y at *
    have hq' : ∀ k, qz 31 (y k) := fun k => by rw [← hyd]; exact hq k
    have hy1' : ∀ i, i < r → Lin.sm c (fun k => y k * (F i k : Rat)) = 0 := fun i hi => by rw [← hyd]; exact hy1 i hi
    have hy2' : Lin.sm c (fun k => (dig v k : Rat) * y k) = 1 := by rw [← hyd]; exact hy2
    clear hq hy1 hy2 hyd
    have hvl := rqValidListF_ok c c y 31 (by omega) (by decide) (fun i _ => hq' i)
    rw [decide_eq_true rfl] at hvl
    have hco := r8Columns_ok r c y F 31 1 (by omega) (by omega) (by decide) (fun i _ => hq' i) lF (smB4 (by decide) hc)
    have hze := r8ZerosF_ok r (fun i => Lin.sm c (fun k => y k * (F i k : Rat))) (by omega) hy1'
    have hdo := r8Dot_ok c (dig v) y 31 1 (by omega) (by decide) lb (fun i _ => hq' i) (smB4 (by decide) hc)
    rw [hy2'] at hdo
    have hnu := rqNumber_ok 1 (by decide) (by decide)
    have hsm : Ok Tryz.prog 31 [ratT 1, ratT ((1 : Int) : Rat)] (one (.bool true)) := by
      have h1 := rqSame_ok 1 1
      rw [decide_eq_true (rfl : (1 : Rat) = 1)] at h1; exact h1
    unfold ratF matF at *
    refine Ok.enter Tryz.func5 rfl Tryz.ntmps5 rfl (fun w O => ?_)
    refine J_seq ?_
    refine J_reg ?_
    refine a_boxS rfl rfl (ltN rfl) (fun b2 => ?_)
    refine st (s_assign rfl) rfl ?_
    refine Run.nil ?_
    refine pj_then ?_
    refine J_seq ?_
    refine J_reg ?_
    refine st (s_callk (hsan ) rfl trivial) rfl ?_
    refine st (s_assign rfl) rfl ?_
    refine Run.nil ?_
    refine pj_then ?_
    refine J_seq ?_
    refine J_reg ?_
    refine st (s_loadW 0 rfl rfl) rfl ?_
    refine st (s_callk (hmk ) rfl ⟨VT.le_refl _, trivial⟩) rfl ?_
    refine a_allocS (T := 28) rfl rfl rfl (fun b6 => ?_)
    refine a_storeW 0 rfl rfl rfl rfl ?_
    refine Run.nil ?_
    refine pj_then ?_
    refine J_seq ?_
    refine J_reg ?_
    refine st (s_move rfl) rfl ?_
    refine st (s_fieldAddr rfl) rfl ?_
    refine st (s_loadB 0 rfl rfl rfl) rfl ?_
    refine st (s_callk (hve ) rfl ⟨VT.le_refl _, VT.le_refl _, trivial⟩) rfl ?_
    refine st (s_assign rfl) rfl ?_
    refine Run.nil ?_
    refine pj_then ?_
    refine J_seq ?_
    refine J_reg ?_
    refine st (s_loadW 0 rfl rfl) rfl ?_
    refine st (s_move rfl) rfl ?_
    refine st (s_callk (hso ) rfl ⟨VT.le_refl _, VT.le_refl _, trivial⟩) rfl ?_
    refine st (s_move rfl) rfl ?_
    refine st (s_extract rfl rfl) rfl ?_
    refine st (s_extract rfl rfl) rfl ?_
    refine st (s_extract rfl rfl) rfl ?_
    refine st (s_assign rfl) rfl ?_
    refine st (s_assign rfl) rfl ?_
    refine st (s_assign rfl) rfl ?_
    refine Run.nil ?_
    refine pj_then ?_
    refine J_seq ?_
    refine J_seq ?_
    refine J_reg ?_
    refine st (s_move rfl) rfl ?_
    refine st (s_not rfl) rfl ?_
    refine Run.nil ?_
    refine pj_then ?_
    refine J_cond1 rfl ?_
    refine J_seq ?_
    refine J_reg ?_
    refine st (s_move rfl) rfl ?_
    refine st (s_len rfl) rfl ?_
    refine st (sT (by omega) (s_eq rfl rfl)) rfl ?_
    refine st (s_move rfl) rfl ?_
    refine sg1 rfl rfl (s_move rfl) rfl ?_
    refine sg1 rfl rfl (s_fieldAddr rfl) rfl ?_
    refine sg1 rfl rfl (s_loadB 0 rfl rfl rfl) rfl ?_
    refine sg1 rfl rfl (s_callk (hvl ) rfl ⟨VT.le_refl _, VT.le_refl _, trivial⟩) rfl ?_
    refine st (s_pickT rfl rfl) rfl ?_
    refine st (s_move rfl) rfl ?_
    refine sg1 rfl rfl (s_loadW 0 rfl rfl) rfl ?_
    refine sg1 rfl rfl (s_move rfl) rfl ?_
    refine sg1 rfl rfl (s_callk (hco ) rfl ⟨VT.le_refl _, VT.le_refl _, trivial⟩) rfl ?_
    refine sg1 rfl rfl (s_callk (hze ) rfl ⟨VT.le_refl _, trivial⟩) rfl ?_
    refine st (s_pickT rfl rfl) rfl ?_
    refine st (s_move rfl) rfl ?_
    refine sg1 rfl rfl (s_move rfl) rfl ?_
    refine sg1 rfl rfl (s_move rfl) rfl ?_
    refine sg1 rfl rfl (s_callk (hdo ) rfl ⟨VT.le_refl _, VT.le_refl _, trivial⟩) rfl ?_
    refine sg1 rfl rfl (s_callk (hnu ) rfl ⟨VT.le_refl _, trivial⟩) rfl ?_
    refine sg1 rfl rfl (s_callk (hsm ) rfl ⟨VT.le_refl _, VT.le_refl _, trivial⟩) rfl ?_
    refine st (s_pickT rfl rfl) rfl ?_
    refine st (s_move rfl) rfl ?_
    refine sg1 rfl rfl (s_move rfl) rfl ?_
    refine st (s_pickT rfl rfl) rfl ?_
    refine st (s_assign rfl) rfl ?_
    refine Run.nil ?_
    refine pj_then ?_
    refine J_ret ?_
    refine pr_then ?_
    refine retc1 Tryz.results5 (.tmp rfl (VT.le_refl _))
  | none =>
    have hso := SolveN_ok r c F (dig v) 1 (by omega) (by omega) (elim04 hc) lF lb h0
    have hsol := fun j (hj : j < c) => hE.solves h0 hj
    have hout : ∀ i, i ∉ Lin.newL c r (fun i j => F j i) r → xsN (elN c true (eqS r F (dig v)) r) r (elN c true (eqS r F (dig v)) r).piv.length i = 0 := fun i hi => Lin.xs_new hE (by rw [newL_eqS]; exact hi)
    have hq : ∀ i, qz 31 (xsN (elN c true (eqS r F (dig v)) r) r (elN c true (eqS r F (dig v)) r).piv.length i) := fun i => (qz_xs (r := r) (c := c) (by decide : 1 ≤ 1) lF lb i).mono (bndN_le (n := 1) hc)
    clear hE h0
    generalize xsN (elN c true (eqS r F (dig v)) r) r (elN c true (eqS r F (dig v)) r).piv.length = xs at *
    have hrk := Rank_ok r c F 1 (by omega) (by omega) (elim04 hr) (elim04 hc) lF
    have hsorted := Lin.newL_sorted c r (fun i j => F j i) r
    have hll : (Lin.newL c r (fun i j => F j i) r).length ≤ 4 := by
      have h1 : (Lin.newL c r (fun i j => F j i) r).length ≤ r := by
        unfold Lin.newL
        exact Nat.le_trans (List.length_filter_le _ _) (by rw [List.length_range]; exact Nat.le_refl _)
      omega
    generalize Lin.newL c r (fun i j => F j i) r = rows at *
    generalize Lin.newL r c F c = cols at *
    have hvl := rqValidListF_ok r r xs 31 (by omega) (by decide) (fun i _ => hq i)
    rw [decide_eq_true rfl] at hvl
    have ha := r8Act_ok r c xs F 31 1 (by omega) (by omega) (by decide) (fun i _ => hq i) lF (smB4 (by decide) hr)
    have hra := r8Rationals_ok c (dig v) (by omega)
    have hli := rqListF_ok c c (fun j => Lin.sm r (fun i => xs i * (F i j : Rat))) (fun j => (dig v j : Rat)) (by omega)
    rw [decide_eq_true ⟨rfl, hsol⟩] at hli
    unfold ratF matF pivT pivF at *
    refine Ok.enter Tryz.func5 rfl Tryz.ntmps5 rfl (fun w O => ?_)
    refine J_seq ?_
    refine J_reg ?_
    refine a_boxS rfl rfl (ltN rfl) (fun b2 => ?_)
    refine st (s_assign rfl) rfl ?_
    refine Run.nil ?_
    refine pj_then ?_
    refine J_seq ?_
    refine J_reg ?_
    refine st (s_callk (hsan ) rfl trivial) rfl ?_
    refine st (s_assign rfl) rfl ?_
    refine Run.nil ?_
    refine pj_then ?_
    refine J_seq ?_
    refine J_reg ?_
    refine st (s_loadW 0 rfl rfl) rfl ?_
    refine st (s_callk (hmk ) rfl ⟨VT.le_refl _, trivial⟩) rfl ?_
    refine a_allocS (T := 28) rfl rfl rfl (fun b6 => ?_)
    refine a_storeW 0 rfl rfl rfl rfl ?_
    refine Run.nil ?_
    refine pj_then ?_
    refine J_seq ?_
    refine J_reg ?_
    refine st (s_move rfl) rfl ?_
    refine st (s_fieldAddr rfl) rfl ?_
    refine st (s_loadB 0 rfl rfl rfl) rfl ?_
    refine st (s_callk (hve ) rfl ⟨VT.le_refl _, VT.le_refl _, trivial⟩) rfl ?_
    refine st (s_assign rfl) rfl ?_
    refine Run.nil ?_
    refine pj_then ?_
    refine J_seq ?_
    refine J_reg ?_
    refine st (s_loadW 0 rfl rfl) rfl ?_
    refine st (s_move rfl) rfl ?_
    refine st (s_callk (hso ) rfl ⟨VT.le_refl _, VT.le_refl _, trivial⟩) rfl ?_
    refine st (s_move rfl) rfl ?_
    refine st (s_extract rfl rfl) rfl ?_
    refine st (s_extract rfl rfl) rfl ?_
    refine st (s_extract rfl rfl) rfl ?_
    refine st (s_assign rfl) rfl ?_
    refine st (s_assign rfl) rfl ?_
    refine st (s_assign rfl) rfl ?_
    refine Run.nil ?_
    refine pj_then ?_
    refine J_seq ?_
    refine J_seq ?_
    refine J_reg ?_
    refine st (s_move rfl) rfl ?_
    refine st (s_not rfl) rfl ?_
    refine Run.nil ?_
    refine pj_then ?_
    refine J_cond0 rfl ?_
    refine J_skip ?_
    refine pj_then ?_
    refine J_seq ?_
    refine J_seq ?_
    refine J_reg ?_
    refine st (s_move rfl) rfl ?_
    refine st (s_len rfl) rfl ?_
    refine st (sF (by omega) (s_ne rfl rfl)) rfl ?_
    refine st (s_move rfl) rfl ?_
    refine sg1 rfl rfl (s_move rfl) rfl ?_
    refine sg1 rfl rfl (s_fieldAddr rfl) rfl ?_
    refine sg1 rfl rfl (s_loadB 0 rfl rfl rfl) rfl ?_
    refine sg1 rfl rfl (s_callk (hvl ) rfl ⟨VT.le_refl _, VT.le_refl _, trivial⟩) rfl ?_
    refine sg1 rfl rfl (s_not rfl) rfl ?_
    refine st (s_pickF rfl rfl) rfl ?_
    refine st (s_move rfl) rfl ?_
    refine sg1 rfl rfl (s_move rfl) rfl ?_
    refine sg1 rfl rfl (s_loadW 0 rfl rfl) rfl ?_
    refine sg1 rfl rfl (s_callk (ha ) rfl ⟨VT.le_refl _, VT.le_refl _, trivial⟩) rfl ?_
    refine sg1 rfl rfl (s_move rfl) rfl ?_
    refine sg1 rfl rfl (s_callk (hra ) rfl ⟨VT.le_refl _, trivial⟩) rfl ?_
    refine sg1 rfl rfl (s_callk (hli ) rfl ⟨VT.le_refl _, VT.le_refl _, trivial⟩) rfl ?_
    refine sg1 rfl rfl (s_not rfl) rfl ?_
    refine st (s_pickF rfl rfl) rfl ?_
    refine Run.nil ?_
    refine pj_then ?_
    refine J_cond0 rfl ?_
    refine J_skip ?_
    refine pj_then ?_
    refine J_seq ?_
    refine J_reg ?_
    refine st (s_loadW 0 rfl rfl) rfl ?_
    refine st (s_callk (hrk ) rfl ⟨VT.le_refl _, trivial⟩) rfl ?_
    refine st (s_move rfl) rfl ?_
    refine st (s_extract rfl rfl) rfl ?_
    refine st (s_extract rfl rfl) rfl ?_
    refine st (s_assign rfl) rfl ?_
    refine st (s_assign rfl) rfl ?_
    refine Run.nil ?_
    refine pj_then ?_
    refine J_seq ?_
    refine J_reg ?_
    refine st (s_assign rfl) rfl ?_
    refine Run.nil ?_
    refine pj_then ?_
    refine J_seq ?_
    refine J_seq ?_
    refine J_reg ?_
    refine st (s_assign rfl) rfl ?_
    refine Run.nil ?_
    refine pj_then ?_
    refine J_block ?_
    refine J_sub (Γ' := [(4, _), (5, _), (6, _), (8, _), (11, _), (13, _), (14, _)]) (SubG.cons rfl (VT.le_refl _) (SubG.cons rfl (VT.le_refl _) (SubG.cons rfl (VT.le_refl _) (SubG.cons rfl (VT.le_refl _) (SubG.cons rfl (VT.le_refl _) (SubG.cons rfl (VT.le_refl _) (SubG.cons rfl (VT.le_refl _) (SubG.nil)))))))) (SubM.refl _) ?_
    refine J_loopA (σ := Nat × Nat) (Γk := [(5, _), (6, _), (8, _), (11, _)]) (SubG.cons rfl (VT.le_refl _) (SubG.cons rfl (VT.le_refl _) (SubG.cons rfl (VT.le_refl _) (SubG.cons rfl (VT.le_refl _) (SubG.nil))))) (fun s => [(14, one (.int .i64 (s.1 : Nat))), (13, one (.int .i64 (s.2 : Nat)))]) (fun s M0 => M0) (fun s => s.1 ≤ r ∧ WalkI rows s.1 s.2) (fun s => r - s.1) ((0, 0)) (⟨Nat.zero_le _, WalkI.start rows⟩) (by repeat (first | exact SubG.refl _ | exact SubG.nil | refine SubG.cons rfl (VT.le_refl _) ?_ | (refine SubG.cons rfl (one_le ?_) ?_; (congr 1; first | omega | (simp; omega) | simp)))) (.keep (Own.le_refl _) (.keep (Own.le_refl _) (.nil))) (fun s hs => ?_)
    refine J_norm (Γ' := [(14, _), (13, _), (5, _), (6, _), (8, _), (11, _)]) (M' := [_, _]) rfl rfl ?_
    obtain ⟨i, k⟩ := s
    obtain ⟨hi1, hi2⟩ := hs
    dsimp only at hi1 hi2 ⊢
    by_cases hi : i < r
    · have hs := rqSign_ok (xs i)
      have hk1 := hi2.1
      by_cases hk : k < rows.length
      · by_cases he : rows.getD k 0 = i
        · refine J_seq ?_
          refine J_seq ?_
          refine J_reg ?_
          refine st (s_move rfl) rfl ?_
          refine st (s_fieldAddr rfl) rfl ?_
          refine st (s_loadB 0 rfl rfl rfl) rfl ?_
          refine st (sT (by omega) (s_lt rfl rfl)) rfl ?_
          refine Run.nil ?_
          refine pj_then ?_
          refine J_cond1 rfl ?_
          refine J_skip ?_
          refine pj_then ?_
          refine J_seq ?_
          refine J_block ?_
          refine J_seq ?_
          refine J_reg ?_
          refine st (s_move rfl) rfl ?_
          refine st (s_move rfl) rfl ?_
          refine st (s_len rfl) rfl ?_
          refine st (sT (by omega) (s_lt rfl rfl)) rfl ?_
          refine st (s_move rfl) rfl ?_
          refine sg1 rfl rfl (s_move rfl) rfl ?_
          refine sg1 rfl rfl (s_move rfl) rfl ?_
          refine sg1 rfl rfl (s_indexIN rfl rfl (by omega)) rfl ?_
          refine sg1 rfl rfl (s_load rfl) rfl ?_
          refine sg1 rfl rfl (s_move rfl) rfl ?_
          refine sg1 rfl rfl (sT (by omega) (s_eq rfl rfl)) rfl ?_
          refine st (s_pickT rfl rfl) rfl ?_
          refine Run.nil ?_
          refine pj_then ?_
          refine J_cond1 rfl ?_
          refine J_reg ?_
          refine st (s_move rfl) rfl ?_
          refine st (s_addN _ 1 rfl rfl (by omega)) rfl ?_
          refine st (s_assign rfl) rfl ?_
          refine Run.nil ?_
          refine pn_block ?_
          refine pj_then ?_
          refine J_reg ?_
          refine st (s_move rfl) rfl ?_
          refine st (s_addN _ 1 rfl rfl (by omega)) rfl ?_
          refine st (s_assign rfl) rfl ?_
          refine Run.nil ?_
          refine pj_roundM ((i + 1, k + 1)) (⟨hi, hi2.hit hsorted hk he⟩) (by omega) (by repeat (first | exact SubG.refl _ | exact SubG.nil | refine SubG.cons rfl (VT.le_refl _) ?_ | (refine SubG.cons rfl (one_le ?_) ?_; (congr 1; first | omega | (simp; omega) | simp)))) (.keep (Own.le_refl _) (.keep (Own.le_refl _) (.nil)))
        · have hz := hout i (hi2.out hsorted (fun h => he h.2))
          have hs0 : sgnI (xs i).num = 0 := (sgnI_zero (xs i).num).2 (Rat.num_eq_zero.2 hz)
          rw [hs0] at hs
          refine J_seq ?_
          refine J_seq ?_
          refine J_reg ?_
          refine st (s_move rfl) rfl ?_
          refine st (s_fieldAddr rfl) rfl ?_
          refine st (s_loadB 0 rfl rfl rfl) rfl ?_
          refine st (sT (by omega) (s_lt rfl rfl)) rfl ?_
          refine Run.nil ?_
          refine pj_then ?_
          refine J_cond1 rfl ?_
          refine J_skip ?_
          refine pj_then ?_
          refine J_seq ?_
          refine J_block ?_
          refine J_seq ?_
          refine J_reg ?_
          refine st (s_move rfl) rfl ?_
          refine st (s_move rfl) rfl ?_
          refine st (s_len rfl) rfl ?_
          refine st (sT (by omega) (s_lt rfl rfl)) rfl ?_
          refine st (s_move rfl) rfl ?_
          refine sg1 rfl rfl (s_move rfl) rfl ?_
          refine sg1 rfl rfl (s_move rfl) rfl ?_
          refine sg1 rfl rfl (s_indexIN rfl rfl (by omega)) rfl ?_
          refine sg1 rfl rfl (s_load rfl) rfl ?_
          refine sg1 rfl rfl (s_move rfl) rfl ?_
          refine sg1 rfl rfl (sF (by omega) (s_eq rfl rfl)) rfl ?_
          refine st (s_pickT rfl rfl) rfl ?_
          refine Run.nil ?_
          refine pj_then ?_
          refine J_cond0 rfl ?_
          refine J_seq ?_
          refine J_reg ?_
          refine st (s_move rfl) rfl ?_
          refine st (s_move rfl) rfl ?_
          refine st (s_indexIN rfl rfl (by omega)) rfl ?_
          refine st (s_load rfl) rfl ?_
          refine st (s_callk (hs ) rfl ⟨VT.le_refl _, trivial⟩) rfl ?_
          refine st (sF (by omega) (s_ne rfl rfl)) rfl ?_
          refine Run.nil ?_
          refine pj_then ?_
          refine J_cond0 rfl ?_
          refine J_skip ?_
          refine pn_block ?_
          refine pj_then ?_
          refine J_reg ?_
          refine st (s_move rfl) rfl ?_
          refine st (s_addN _ 1 rfl rfl (by omega)) rfl ?_
          refine st (s_assign rfl) rfl ?_
          refine Run.nil ?_
          refine pj_roundM ((i + 1, k)) (⟨hi, hi2.miss (fun h => he h.2)⟩) (by omega) (by repeat (first | exact SubG.refl _ | exact SubG.nil | refine SubG.cons rfl (VT.le_refl _) ?_ | (refine SubG.cons rfl (one_le ?_) ?_; (congr 1; first | omega | (simp; omega) | simp)))) (.keep (Own.le_refl _) (.keep (Own.le_refl _) (.nil)))
      · have hz := hout i (hi2.out hsorted (fun h => hk h.1))
        have hs0 : sgnI (xs i).num = 0 := (sgnI_zero (xs i).num).2 (Rat.num_eq_zero.2 hz)
        rw [hs0] at hs
        refine J_seq ?_
        refine J_seq ?_
        refine J_reg ?_
        refine st (s_move rfl) rfl ?_
        refine st (s_fieldAddr rfl) rfl ?_
        refine st (s_loadB 0 rfl rfl rfl) rfl ?_
        refine st (sT (by omega) (s_lt rfl rfl)) rfl ?_
        refine Run.nil ?_
        refine pj_then ?_
        refine J_cond1 rfl ?_
        refine J_skip ?_
        refine pj_then ?_
        refine J_seq ?_
        refine J_block ?_
        refine J_seq ?_
        refine J_reg ?_
        refine st (s_move rfl) rfl ?_
        refine st (s_move rfl) rfl ?_
        refine st (s_len rfl) rfl ?_
        refine st (sF (by omega) (s_lt rfl rfl)) rfl ?_
        refine st (s_move rfl) rfl ?_
        refine sn0 rfl rfl rfl rfl rfl ?_
        refine sn0 rfl rfl rfl rfl rfl ?_
        refine sn0 rfl rfl rfl rfl rfl ?_
        refine sn0 rfl rfl rfl rfl rfl ?_
        refine sn0 rfl rfl rfl rfl rfl ?_
        refine sn0 rfl rfl rfl rfl rfl ?_
        refine st (s_pickF rfl rfl) rfl ?_
        refine Run.nil ?_
        refine pj_then ?_
        refine J_cond0 rfl ?_
        refine J_seq ?_
        refine J_reg ?_
        refine st (s_move rfl) rfl ?_
        refine st (s_move rfl) rfl ?_
        refine st (s_indexIN rfl rfl (by omega)) rfl ?_
        refine st (s_load rfl) rfl ?_
        refine st (s_callk (hs ) rfl ⟨VT.le_refl _, trivial⟩) rfl ?_
        refine st (sF (by omega) (s_ne rfl rfl)) rfl ?_
        refine Run.nil ?_
        refine pj_then ?_
        refine J_cond0 rfl ?_
        refine J_skip ?_
        refine pn_block ?_
        refine pj_then ?_
        refine J_reg ?_
        refine st (s_move rfl) rfl ?_
        refine st (s_addN _ 1 rfl rfl (by omega)) rfl ?_
        refine st (s_assign rfl) rfl ?_
        refine Run.nil ?_
        refine pj_roundM ((i + 1, k)) (⟨hi, hi2.miss (fun h => hk h.1)⟩) (by omega) (by repeat (first | exact SubG.refl _ | exact SubG.nil | refine SubG.cons rfl (VT.le_refl _) ?_ | (refine SubG.cons rfl (one_le ?_) ?_; (congr 1; first | omega | (simp; omega) | simp)))) (.keep (Own.le_refl _) (.keep (Own.le_refl _) (.nil)))
    · refine J_seq ?_
      refine J_seq ?_
      refine J_reg ?_
      refine st (s_move rfl) rfl ?_
      refine st (s_fieldAddr rfl) rfl ?_
      refine st (s_loadB 0 rfl rfl rfl) rfl ?_
      refine st (sF (by omega) (s_lt rfl rfl)) rfl ?_
      refine Run.nil ?_
      refine pj_then ?_
      refine J_cond0 rfl ?_
      refine J_exit ?_
      refine px_then ?_
      refine px_then ?_
      refine px_block ?_
      refine pj_then ?_
      refine J_seq ?_
      refine J_reg ?_
      refine st (s_move rfl) rfl ?_
      refine st (s_assign rfl) rfl ?_
      refine Run.nil ?_
      refine pj_then ?_
      refine J_ret ?_
      refine retc1 Tryz.results5 (.tmp rfl (VT.le_refl _))
end Tor
end

section
set_option linter.unusedVariables false
set_option linter.unusedSimpArgs false
set_option maxRecDepth 100000
namespace Tor
open Go Go.RowKit Go.ChangeShapes Go.WideShapes Go.ChangeAt Go.Joins Go.Proofs
theorem rd_raw {H : Type} {enc : TypeId × Value → H} {W : World} {base : Nat} {v : Value} {d : DataW H} {ps : List MemPlace} (hval : Value.okWide Tryz.prog W .any base 24 v) (hT : DataW.Trod enc Tryz.prog W 0 (fun _ => true) true 24 v d ps) (hw : ∀ x ∈ DataW.weights Tryz.prog 24 d, x ≤ reachBytes) :
    ∃ (r : Nat) (c : Nat) (l : List Int), (rawInT r c l).p v (view W) ∧ (r : Int) ≤ IntKind.max .u8 ∧ (c : Int) ≤ IntKind.max .u8 ∧ (∀ x ∈ l, IntKind.min .i8 ≤ x ∧ x ≤ IntKind.max .i8) ∧ True := by
  obtain ⟨cs, rfl, h⟩ := arg_agg 8 (ts := [5, 5, 22]) (by kernel_rfl) (.inl ⟨_, Tryz.underlying24⟩) hval hT hw
  obtain ⟨c0, r0, rfl, h0, g0⟩ := h
  obtain ⟨c1, r1, rfl, h1, g1⟩ := g0
  obtain ⟨c2, r2, rfl, h2, g2⟩ := g1
  cases g2
  obtain ⟨r, rfl, b0⟩ := leaf_nat Tryz.underlying5 rfl h0
  obtain ⟨c, rfl, b1⟩ := leaf_nat Tryz.underlying5 rfl h1
  obtain ⟨l, k2, b2⟩ := leaf_nums Tryz.underlying22 Tryz.underlying113 (by kernel_rfl) (of_decide_eq_true (by kernel_rfl)) h2
  exact ⟨r, c, l, agg_p (φs := [one (.int .u8 r), one (.int .u8 c), numT .i8 l]) ⟨rfl, rfl, ⟨rfl, rfl, ⟨k2, slT_one k2, trivial⟩⟩⟩, b0, b1, b2, trivial⟩
theorem rd_d8 {H : Type} {enc : TypeId × Value → H} {W : World} {base : Nat} {v : Value} {d : DataW H} {ps : List MemPlace} (hval : Value.okWide Tryz.prog W .any base 22 v) (hT : DataW.Trod enc Tryz.prog W 0 (fun _ => true) true 22 v d ps) (hw : ∀ x ∈ DataW.weights Tryz.prog 22 d, x ≤ reachBytes) :
    ∃ (d : List Int), (numT .i8 d).p v (view W) ∧ (∀ x ∈ d, IntKind.min .i8 ≤ x ∧ x ≤ IntKind.max .i8) ∧ True := by
  have h := arg_leaf (.inr (.inr ⟨_, Tryz.underlying22⟩)) hval hT hw
  obtain ⟨d, k0, b0⟩ := leaf_nums Tryz.underlying22 Tryz.underlying113 (by kernel_rfl) (of_decide_eq_true (by kernel_rfl)) h
  exact ⟨d, k0, b0, trivial⟩
end Tor
namespace Go.Proofs.YtinfobmidgammaaGreat
open Go.ChangeShapes Go.WideShapes Go.ChangeAt Go.RowKit Go.Joins Tor
theorem bareissConsistent_own : ownKnob Tryz.prog.godebug = none := by kernel_rfl
theorem bareissConsistent_laid : laidOutB Tryz.prog = true := by kernel_rfl
set_option maxRecDepth 100000 in
theorem bareissConsistent_lifted (os : Os) (started : os.Started) (H : Type) (enc : TypeId × Value → H) :
    ReturnsInHanded {} Tryz.checked os 6 .any (Rows.bareissConsistentSpec.pre6 enc Tryz.prog Tryz.f6 Rows.bareissConsistentRow.domain false) (Rows.bareissConsistentSpec.post enc Tryz.prog Tryz.f6 false true false false) := by
  refine returnsInHanded_of_change_sized (C := Tryz.checked) bareissConsistent_own started (by kernel_rfl) Tryz.func6
    (ChangeSpec.witness6 (enc := enc) (C := Tryz.checked) false ⟨#[], #[.agg #[.int .u8 0, .int .u8 0, .slice none 0 0], .slice none 0 0], []⟩ 8 (by kernel_rfl) (by kernel_rfl) (by kernel_rfl) (by kernel_rfl)) ?_
  intro W base args ds gs before hval0 hW hcnd hsz0 _
  have hval : ∀ (j : Nat) t v, Tryz.f6.params[j]? = some t → args[j]? = some v → Value.okWide Tryz.prog W .any base t v := hval0
  have hsz : (DataW.weightsEach Tryz.prog (Tryz.f6.params.toList ++ Rows.bareissConsistentSpec.plain.varTypes Tryz.prog) (ds ++ gs)).all (· ≤ reachBytes) = true := hsz0
  have hW' := hW
  obtain ⟨p, q, hA0, hV, rfl, hfz, hnd⟩ := hW
  have hA : DataW.TrodAll enc Tryz.prog W 0 (fun _ => true) true Tryz.f6.params.toList args.toList ds p := hA0
  rw [Tryz.params6] at hA hval hsz
  obtain ⟨v0, v1, d0, d1, p0, p1, rfl, rfl, rfl, h0, h1⟩ := trodAll_two hA
  obtain ⟨rfl, rfl⟩ := trodVars_none hV
  obtain ⟨r_0, c_0, l_0, x0, y0⟩ := rd_raw (hval 0 24 _ rfl rfl) h0 (arg_weights hsz 0 rfl rfl)
  obtain ⟨d_1, x1, y1⟩ := rd_d8 (hval 1 22 _ rfl rfl) h1 (arg_weights hsz 1 rfl rfl)
  refine (Ok.outside (W := W) (args := #[v0, v1]) (consistentLaw_ok r_0 c_0 l_0 d_1) (And.intro x0 (And.intro x1 (trivial)))).mono fun e W' ⟨v, he, hv, hw⟩ => ?_
  subst he
  have hv : v = .bool true := hv
  subst hv
  refine ⟨_, rfl, _, [], _, [], _, [], hW', trodAll_mk1 (shut_bool Tryz.underlying4 true), trodAll_mk2
    (Below.trod bareissConsistent_laid (by kernel_rfl) (of_decide_eq_true (by kernel_rfl)) h0 hw (fun x hx => by simpa using hW'.lt x (by simp only [List.mem_append] at hx ⊢; simp [hx])))
    (Below.trod bareissConsistent_laid (by kernel_rfl) (of_decide_eq_true (by kernel_rfl)) h1 hw (fun x hx => by simpa using hW'.lt x (by simp only [List.mem_append] at hx ⊢; simp [hx]))), rfl, hw.frame _, fun h => by cases h⟩
theorem bareissConsistent_holds : Rows.BareissConsistentSaid :=
  OpenClaim.holds_of_wide 6 Tryz.f6 rfl rfl rfl rfl rfl rfl rfl ⟨rfl, rfl, rfl, rfl, rfl⟩ rfl rfl rfl rfl rfl (by kernel_rfl) Tryz.func6 (by kernel_rfl)
    (of_decide_eq_true (by kernel_rfl)) (by unfold Func.isWrapper; first | (rw [if_pos (by decide +kernel)]; kernel_rfl) | (rw [if_neg (by decide +kernel)]; exact ⟨rfl, rfl⟩))
    (fun os started H enc _ => bareissConsistent_lifted os started H enc)
end Go.Proofs.YtinfobmidgammaaGreat
namespace Tor
end Tor
namespace Go.Proofs.YtinfobmidgammaaGreat
open Go.ChangeShapes Go.WideShapes Go.ChangeAt Go.RowKit Go.Joins Tor
theorem bareissAlternative_own : ownKnob Tryz.prog.godebug = none := by kernel_rfl
theorem bareissAlternative_laid : laidOutB Tryz.prog = true := by kernel_rfl
set_option maxRecDepth 100000 in
theorem bareissAlternative_lifted (os : Os) (started : os.Started) (H : Type) (enc : TypeId × Value → H) :
    ReturnsInHanded {} Tryz.checked os 5 .any (Rows.bareissAlternativeSpec.pre6 enc Tryz.prog Tryz.f5 Rows.bareissAlternativeRow.domain false) (Rows.bareissAlternativeSpec.post enc Tryz.prog Tryz.f5 false true false false) := by
  refine returnsInHanded_of_change_sized (C := Tryz.checked) bareissAlternative_own started (by kernel_rfl) Tryz.func5
    (ChangeSpec.witness6 (enc := enc) (C := Tryz.checked) false ⟨#[], #[.agg #[.int .u8 0, .int .u8 0, .slice none 0 0], .slice none 0 0], []⟩ 8 (by kernel_rfl) (by kernel_rfl) (by kernel_rfl) (by kernel_rfl)) ?_
  intro W base args ds gs before hval0 hW hcnd hsz0 _
  have hval : ∀ (j : Nat) t v, Tryz.f5.params[j]? = some t → args[j]? = some v → Value.okWide Tryz.prog W .any base t v := hval0
  have hsz : (DataW.weightsEach Tryz.prog (Tryz.f5.params.toList ++ Rows.bareissAlternativeSpec.plain.varTypes Tryz.prog) (ds ++ gs)).all (· ≤ reachBytes) = true := hsz0
  have hW' := hW
  obtain ⟨p, q, hA0, hV, rfl, hfz, hnd⟩ := hW
  have hA : DataW.TrodAll enc Tryz.prog W 0 (fun _ => true) true Tryz.f5.params.toList args.toList ds p := hA0
  rw [Tryz.params5] at hA hval hsz
  obtain ⟨v0, v1, d0, d1, p0, p1, rfl, rfl, rfl, h0, h1⟩ := trodAll_two hA
  obtain ⟨rfl, rfl⟩ := trodVars_none hV
  obtain ⟨r_0, c_0, l_0, x0, y0⟩ := rd_raw (hval 0 24 _ rfl rfl) h0 (arg_weights hsz 0 rfl rfl)
  obtain ⟨d_1, x1, y1⟩ := rd_d8 (hval 1 22 _ rfl rfl) h1 (arg_weights hsz 1 rfl rfl)
  refine (Ok.outside (W := W) (args := #[v0, v1]) (alternativeLaw_ok r_0 c_0 l_0 d_1) (And.intro x0 (And.intro x1 (trivial)))).mono fun e W' ⟨v, he, hv, hw⟩ => ?_
  subst he
  have hv : v = .bool true := hv
  subst hv
  refine ⟨_, rfl, _, [], _, [], _, [], hW', trodAll_mk1 (shut_bool Tryz.underlying4 true), trodAll_mk2
    (Below.trod bareissAlternative_laid (by kernel_rfl) (of_decide_eq_true (by kernel_rfl)) h0 hw (fun x hx => by simpa using hW'.lt x (by simp only [List.mem_append] at hx ⊢; simp [hx])))
    (Below.trod bareissAlternative_laid (by kernel_rfl) (of_decide_eq_true (by kernel_rfl)) h1 hw (fun x hx => by simpa using hW'.lt x (by simp only [List.mem_append] at hx ⊢; simp [hx]))), rfl, hw.frame _, fun h => by cases h⟩
theorem bareissAlternative_holds : Rows.BareissAlternativeSaid :=
  OpenClaim.holds_of_wide 5 Tryz.f5 rfl rfl rfl rfl rfl rfl rfl ⟨rfl, rfl, rfl, rfl, rfl⟩ rfl rfl rfl rfl rfl (by kernel_rfl) Tryz.func5 (by kernel_rfl)
    (of_decide_eq_true (by kernel_rfl)) (by unfold Func.isWrapper; first | (rw [if_pos (by decide +kernel)]; kernel_rfl) | (rw [if_neg (by decide +kernel)]; exact ⟨rfl, rfl⟩))
    (fun os started H enc _ => bareissAlternative_lifted os started H enc)
end Go.Proofs.YtinfobmidgammaaGreat
namespace Tor
end Tor
end
