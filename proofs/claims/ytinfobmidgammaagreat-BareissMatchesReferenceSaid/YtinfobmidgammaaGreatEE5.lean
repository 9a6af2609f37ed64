/-
  Theorems that the proofs of laws of this seat rest on.
  No condition.
-/
import Derived.Test.YtinfobmidgammaaGreatEE4
set_option linter.unusedVariables false
set_option linter.unusedSimpArgs false
section
namespace Tor
open Go Go.RowKit Go.Proofs
def mat2T (φ ψ : VT) : VT := slT (.agg 3) 2 (fun i => if i = 0 then φ else ψ)
theorem two_mat2 {φ ψ : VT} : VT.le (slT (.agg 3) 2 (fun q => [φ, ψ].getD q anyT)) (mat2T φ ψ) := by
  unfold mat2T
  refine slT_le fun i hi => ?_
  rcases i with _ | _ | i
  · exact VT.le_refl _
  · exact VT.le_refl _
  · omega
instance {r c : Nat} {F : Nat → Nat → Int} : Flat (matF r c F) (.agg 3) := by unfold matF; infer_instance
attribute [local irreducible] Tor.J Tor.PJ Tor.StepO Tor.one Tor.slT Tor.ptrT Tor.aggT Tor.tupT Tor.exT Tor.andT Tor.eP Tor.boxO Tor.sliO Tor.slV Tor.VT.le Tor.Ret Tor.anyT
attribute [local irreducible] bigT matF
set_option maxHeartbeats 1000000 in
theorem matValidF_ok (r c : Nat) (F : Nat → Nat → Int) : Ok Tryz.prog 43 [matF r c F] (one (.bool true)) := by
  have h := matValid_ok r c (rawTab r c F)
  rw [validM_tab] at h
  exact h.le ⟨matF_raw r c F, trivial⟩ (VT.le_refl _)
set_option maxHeartbeats 1000000 in
theorem valid2_ok (ra ca : Nat) (F : Nat → Nat → Int) (rb cb : Nat) (G : Nat → Nat → Int) : Ok Tryz.prog 93 [mat2T (matF ra ca F) (matF rb cb G)] (one (.bool true)) := by
  unfold mat2T
  refine Ok.enter Tryz.func93 rfl Tryz.ntmps93 rfl (fun w O => ?_)
  refine J_seq (J_reg (st (s_assign rfl) rfl (Run.nil (pj_then (J_seq (J_seq (J_reg (st (s_move rfl) rfl (st (s_len rfl) rfl ?_)))))))))
  refine st (s_move rfl) rfl (Run.nil (pj_then (J_block ?_)))
  refine J_loop (σ := Nat) (fun i => [(5, slT (.agg 3) 2 (fun i => if i = 0 then matF ra ca F else matF rb cb G)), (6, one (.int .i64 (2 : Nat))), (7, one (.int .i64 (i : Nat)))]) (fun _ => []) (fun i => i ≤ 2) (fun i => 2 - i) 0 (Nat.zero_le _) (by repeat (first | exact SubG.nil | refine SubG.cons rfl (VT.le_refl _) ?_ | (refine SubG.cons rfl (one_le ?_) ?_; (congr 1; first | omega | (simp; omega) | simp)))) (SubM.refl _) (fun i hi => ?_)
  refine J_seq (J_reg (st (s_lt rfl rfl) rfl (Run.nil (pj_then (J_seq ?_)))))
  refine J_cond rfl (fun hc => ?_) (fun hc => ?_) <;> simp only [decide_eq_true_eq, decide_eq_false_iff_not, ne_eq, Decidable.not_not] at hc
  · have h2 : i < 2 := by omega
    have hF : Flat (if i = 0 then matF ra ca F else matF rb cb G) (.agg 3) := by split <;> infer_instance
    refine J_skip (pj_then (J_seq (J_block (J_seq (J_reg ?_)))))
    (refine st (s_indexIN rfl rfl ?_) rfl ?_; omega)
    refine st (s_load rfl) rfl ?_
    refine a_allocS (T := 28) rfl rfl rfl (fun b => ?_)
    refine a_storeV 0 rfl rfl rfl rfl (Run.nil (pj_then (J_seq (J_reg (st (s_loadB 0 rfl rfl rfl) rfl ?_)))))
    have hcall : Ok Tryz.prog 43 [if i = 0 then matF ra ca F else matF rb cb G] (one (.bool true)) := by
      split
      · exact matValidF_ok _ _ _
      · exact matValidF_ok _ _ _
    refine st (s_callk hcall rfl ⟨VT.le_refl _, trivial⟩) rfl ?_
    refine st (s_not rfl) rfl (Run.nil (pj_then ?_))
    refine J_cond rfl (fun hc2 => ?_) (fun hc2 => ?_)
    · cases hc2
    · refine J_skip (pn_block (pj_then (J_reg ?_)))
      (refine st (s_add rfl rfl (wrap_i64 ?_ ?_)) rfl ?_; omega; omega)
      refine st (s_move rfl) rfl (Run.nil ?_)
      exact pj_round (s := i) (i + 1) (show _ from by omega) (by show 2 - (i + 1) < 2 - i; omega) (by repeat (first | exact SubG.nil | refine SubG.cons rfl (VT.le_refl _) ?_ | (refine SubG.cons rfl (one_le ?_) ?_; (congr 1; first | omega | (simp; omega) | simp)))) (.drop .nil)
  · refine J_exit (px_then (px_then (px_block (pj_then (J_seq (J_reg (st (s_assign rfl) rfl (Run.nil (pj_then ?_)))))))))
    refine J_ret ?_
    exact retc1 Tryz.results93 (.tmp rfl (VT.le_refl _))
end Tor
end
section
namespace Tor
open Go Go.RowKit Go.Proofs
attribute [local irreducible] Tor.J Tor.PJ Tor.StepO Tor.one Tor.slT Tor.ptrT Tor.aggT Tor.tupT Tor.exT Tor.andT Tor.eP Tor.boxO Tor.sliO Tor.slV Tor.VT.le Tor.Ret Tor.anyT
set_option maxHeartbeats 1000000 in
theorem own_ok (x : Int) (hx : small x) : Ok Tryz.prog 81 [bigT x] (bigT x) := by
  unfold bigT
  refine Ok.enter Tryz.func81 rfl Tryz.ntmps81 rfl (fun w O => ?_)
  refine J_seq (J_reg ?_)
  refine a_boxS rfl rfl (ltN rfl) (fun b => ?_)
  refine a_alloc (T := 43) rfl (ltN rfl) (fun b => ?_)
  refine Run.nil (pj_then (J_seq (J_regd 6 mixed (by kernel_rfl) (by decide) (st (s_fieldAddr rfl) rfl (st (s_loadB 1 rfl rfl rfl) rfl (st (s_fieldAddr rfl) rfl (st (s_loadB 1 rfl rfl rfl) rfl ?_)))))))
  refine st (s_callk (Clone_ok _ hx) rfl ⟨VT.le_refl _, trivial⟩) rfl ?_
  refine stB rfl rfl rfl (BuildK.cons rfl rfl rfl (BuildK.cons rfl rfl rfl (BuildK.nil (Run.nil (a_storeB 0 rfl rfl rfl rfl rfl (leN rfl) rfl (Run.nil (pj_then (J_ret ?_))))))))
  refine retc1 Tryz.results81 (.cellB 0 rfl rfl rfl (VT.le_refl _))
attribute [local irreducible] bigT
set_option maxHeartbeats 2000000 in
theorem ownRow_ok (n m : Nat) (f g : Nat → Int) (hn : n ≤ 1048576) (hm : m ≤ 1048576) (hf : ∀ i, small (f i)) (hg : ∀ i, small (g i)) : Ok Tryz.prog 95 [rowF n f, rowF m g] (rowF (n + m) (fun k => if k < n then f k else g (k - n))) := by
  unfold rowF
  refine Ok.enter Tryz.func95 rfl Tryz.ntmps95 rfl (fun w O => ?_)
  refine J_seq (J_reg (st (s_assign rfl) rfl (Run.nil (pj_then (J_seq (J_reg (st (s_move rfl) rfl (st (s_len rfl) rfl (st (s_move rfl) rfl ?_)))))))))
  refine st (s_len rfl) rfl ?_
  (refine st (s_add rfl rfl (wrap_i64 ?_ ?_)) rfl ?_; omega; omega)
  refine a_makeSlice 0 (n + m) rfl rfl rfl (by simp) (Nat.zero_le _) rfl rfl (by omega) rfl rfl (fun bz => ?_)
  refine st (s_assign rfl) rfl (Run.nil (pj_then (J_seq (J_seq (J_reg (st (s_move rfl) rfl (st (s_len rfl) rfl (st (s_move rfl) rfl (Run.nil ?_)))))))))
  refine pj_then (J_block ?_)
  refine J_loop (σ := Nat × Option Nat × Nat) (fun s => [(1, slT (.agg 2) m (fun j => bigT (g j))), (5, one (slV s.2.1 s.1 s.2.2)), (16, slT (.agg 2) n (fun j => bigT (f j))), (17, one (.int .i64 n)), (18, one (.int .i64 (s.1 : Nat)))])
    (fun s => [sliO s.2.1 43 (.agg 2) s.2.2 s.1 (fun q => bigT (f q))]) (fun s => s.1 ≤ n) (fun s => n - s.1) (0, some bz, n + m) (Nat.zero_le _) (by repeat (first | exact SubG.nil | refine SubG.cons rfl (VT.le_refl _) ?_ | (refine SubG.cons rfl (one_le ?_) ?_; (congr 1; first | omega | (simp; omega) | simp)))) (.keep (sliO_eq fun q hq => by omega) .nil) (fun s hs => ?_)
  obtain ⟨k, sv0, cap0⟩ := s
  simp only at hs ⊢
  refine J_seq (J_reg (st (s_lt rfl rfl) rfl (Run.nil (pj_then (J_seq ?_)))))
  refine J_cond rfl (fun hc => ?_) (fun hc => ?_) <;> simp only [decide_eq_true_eq, decide_eq_false_iff_not, ne_eq, Decidable.not_not] at hc
  · refine J_skip (pj_then (J_seq (J_block (J_seq (J_reg ?_)))))
    (refine st (s_indexIN rfl rfl ?_) rfl ?_; omega)
    refine st (s_load rfl) rfl ?_
    refine a_alloc (T := 43) rfl (ltN rfl) (fun b => ?_)
    refine a_storeB 0 rfl rfl rfl rfl rfl (leN rfl) rfl (Run.nil (pj_then (J_reg (st (s_move rfl) rfl (st (s_loadB 0 rfl rfl rfl) rfl ?_)))))
    refine st (s_callk (own_ok (f k) (hf k)) rfl ⟨VT.le_refl _, trivial⟩) rfl ?_
    refine stS1 rfl rfl rfl rfl ?_
    (refine a_append 1 rfl rfl rfl (leN rfl) ?_ ?_ rfl (ltN rfl) (fun sv cap => ?_); omega; omega)
    refine st (s_assign rfl) rfl (Run.nil (pn_block (pj_then (J_reg ?_))))
    (refine st (s_add rfl rfl (wrap_i64 ?_ ?_)) rfl ?_; omega; omega)
    refine st (s_move rfl) rfl (Run.nil ?_)
    refine pj_round (s := (k, sv0, cap0)) (k + 1, sv, cap) (show _ from by simp only; omega) (by show n - (k + 1) < n - k; omega) (by repeat (first | exact SubG.nil | refine SubG.cons rfl (VT.le_refl _) ?_ | (refine SubG.cons rfl (one_le ?_) ?_; (congr 1; first | omega | (simp; omega) | simp)))) (.drop (.keep (sliO_eq fun q hq => ?_) .nil))
    by_cases h : q < k
    · rw [if_pos h]
    · have : q = k := by omega
      subst this; rw [if_neg h]
  · have hk : k = n := by omega
    subst hk
    refine J_exit (px_then (px_then (px_block (pj_then (J_seq (J_seq (J_reg (st (s_move rfl) rfl (st (s_len rfl) rfl ?_)))))))))
    refine st (s_move rfl) rfl (Run.nil (pj_then (J_block ?_)))
    refine J_loop (σ := Nat × Option Nat × Nat) (fun s => [(5, one (slV s.2.1 (k + s.1) s.2.2)), (28, slT (.agg 2) m (fun j => bigT (g j))), (29, one (.int .i64 m)), (30, one (.int .i64 (s.1 : Nat)))])
      (fun s => [sliO s.2.1 43 (.agg 2) s.2.2 (k + s.1) (fun q => bigT (if q < k then f q else g (q - k)))]) (fun s => s.1 ≤ m) (fun s => m - s.1) (0, sv0, cap0) (Nat.zero_le _) (by repeat (first | exact SubG.nil | refine SubG.cons rfl (VT.le_refl _) ?_ | (refine SubG.cons rfl (one_le ?_) ?_; (congr 1; first | omega | (simp; omega) | simp)))) (.keep (sliO_eq fun q hq => by rw [if_pos hq]) .nil) (fun s hs => ?_)
    obtain ⟨j, sv1, cap1⟩ := s
    simp only at hs ⊢
    refine J_seq (J_reg (st (s_lt rfl rfl) rfl (Run.nil (pj_then (J_seq ?_)))))
    refine J_cond rfl (fun hc2 => ?_) (fun hc2 => ?_) <;> simp only [decide_eq_true_eq, decide_eq_false_iff_not] at hc2
    · refine J_skip (pj_then (J_seq (J_block (J_seq (J_reg ?_)))))
      (refine st (s_indexIN rfl rfl ?_) rfl ?_; omega)
      refine st (s_load rfl) rfl ?_
      refine a_alloc (T := 43) rfl (ltN rfl) (fun b => ?_)
      refine a_storeB 0 rfl rfl rfl rfl rfl (leN rfl) rfl (Run.nil (pj_then (J_reg (st (s_move rfl) rfl (st (s_loadB 0 rfl rfl rfl) rfl ?_)))))
      refine st (s_callk (own_ok (g j) (hg j)) rfl ⟨VT.le_refl _, trivial⟩) rfl ?_
      refine stS1 rfl rfl rfl rfl ?_
      (refine a_append 1 rfl rfl rfl (leN rfl) ?_ ?_ rfl (ltN rfl) (fun sv cap => ?_); omega; omega)
      refine st (s_assign rfl) rfl (Run.nil (pn_block (pj_then (J_reg ?_))))
      (refine st (s_add rfl rfl (wrap_i64 ?_ ?_)) rfl ?_; omega; omega)
      refine st (s_move rfl) rfl (Run.nil ?_)
      refine pj_round (s := (j, sv1, cap1)) (j + 1, sv, cap) (show _ from by simp only; omega) (by show m - (j + 1) < m - j; omega) (by repeat (first | exact SubG.nil | refine SubG.cons rfl (VT.le_refl _) ?_ | (refine SubG.cons rfl (one_le ?_) ?_; (congr 1; first | omega | (simp; omega) | simp)))) (.drop (.keep (sliO_eq fun q hq => ?_) .nil))
      by_cases h : q < k + j
      · rw [if_pos h]
      · have : q = k + j := by omega
        subst this; rw [if_neg h, if_neg (by omega)]; simp
    · have hk : j = m := by omega
      subst hk
      refine J_exit (px_then (px_then (px_block (pj_then (J_seq (J_reg (st (s_move rfl) rfl (st (s_assign rfl) rfl (Run.nil ?_)))))))))
      refine pj_then (J_ret (PJ_freeze (t := 4) (i := 0) rfl rfl ?_))
      refine retc1 Tryz.results95 (.tmp rfl (VT.le_refl _))
end Tor
end
section
namespace Tor
open Go Go.RowKit Go.Proofs
attribute [local irreducible] Tor.J Tor.PJ Tor.StepO Tor.one Tor.slT Tor.ptrT Tor.aggT Tor.tupT Tor.exT Tor.andT Tor.eP Tor.boxO Tor.sliO Tor.slV Tor.VT.le Tor.Ret Tor.anyT
set_option maxHeartbeats 1000000 in
theorem combR_ok (n : Nat) (φ ψ χ : Nat → VT) [hF : ∀ i, Flat (χ i) .one] (cl : VT) (hn : n ≤ 1048576) (hC : ∀ i, i < n → Callable Tryz.prog cl [φ i, ψ i] (χ i)) : Ok Tryz.prog 94 [slT .one n φ, slT .one n ψ, cl] (slT .one n χ) := by
  refine Ok.enter Tryz.func94 rfl Tryz.ntmps94 rfl (fun w O => ?_)
  refine J_seq (J_reg (st (s_assign rfl) rfl (Run.nil (pj_then (J_seq (J_reg (st (s_move rfl) rfl (st (s_len rfl) rfl ?_))))))))
  refine a_makeSlice n n rfl rfl rfl rfl (Nat.le_refl _) rfl rfl (by omega) rfl rfl (fun bz => ?_)
  refine st (s_assign rfl) rfl (Run.nil (pj_then (J_seq (J_seq (J_reg (st (s_move rfl) rfl (st (s_lenO rfl) rfl (st (s_move rfl) rfl (Run.nil ?_)))))))))
  refine pj_then (J_block ?_)
  refine J_loop (σ := Nat) (fun i => [(0, slT .one n φ), (1, slT .one n ψ), (2, cl), (7, one (slV (some bz) n n)), (13, one (.int .i64 n)), (14, one (.int .i64 (i : Nat)))])
    (fun i => [sliO (some bz) 30 .one n n (fun q => if q < i then χ q else anyT)]) (fun i => i ≤ n) (fun i => n - i) 0 (Nat.zero_le _) (by repeat (first | exact SubG.nil | refine SubG.cons rfl (VT.le_refl _) ?_ | (refine SubG.cons rfl (one_le ?_) ?_; (congr 1; first | omega | (simp; omega) | simp)))) (.keep (sliO_le fun q hq => by rw [if_neg (by omega)]; exact le_any _) .nil) (fun i hi => ?_)
  refine J_seq (J_reg (st (s_lt rfl rfl) rfl (Run.nil (pj_then (J_seq ?_)))))
  refine J_cond rfl (fun hc => ?_) (fun hc => ?_) <;> simp only [decide_eq_true_eq, decide_eq_false_iff_not, ne_eq, Decidable.not_not] at hc
  · refine J_skip (pj_then (J_seq (J_block (J_seq (J_reg (st (s_move rfl) rfl (st (s_assign rfl) rfl (Run.nil (pj_then ?_)))))))))
    refine J_regd 13 mixed (by kernel_rfl) (by decide) (st (s_move rfl) rfl (st (s_move rfl) rfl (st (s_move rfl) rfl (st (s_move rfl) rfl (st (s_move rfl) rfl ?_)))))
    (refine st (s_indexIN rfl rfl ?_) rfl ?_; omega)
    refine st (s_load rfl) rfl (st (s_move rfl) rfl (st (s_move rfl) rfl ?_))
    (refine st (s_indexIN rfl rfl ?_) rfl ?_; omega)
    refine st (s_load rfl) rfl ?_
    refine st (s_callF (hC i (by omega)) rfl rfl ⟨VT.le_refl _, VT.le_refl _, trivial⟩) rfl ?_
    (refine st (s_indexON rfl rfl ?_) rfl ?_; omega)
    refine Run.nil ?_
    (refine a_storeE 0 rfl rfl rfl ?_ rfl ?_; omega)
    refine Run.nil (pn_block (pj_then (J_reg ?_)))
    (refine st (s_add rfl rfl (wrap_i64 ?_ ?_)) rfl ?_; omega; omega)
    refine st (s_move rfl) rfl (Run.nil ?_)
    refine pj_round (s := i) (i + 1) (show _ from by omega) (by show n - (i + 1) < n - i; omega) (by repeat (first | exact SubG.nil | refine SubG.cons rfl (VT.le_refl _) ?_ | (refine SubG.cons rfl (one_le ?_) ?_; (congr 1; first | omega | (simp; omega) | simp)))) (.keep (sliO_eq fun q hq => ?_) .nil)
    unfold upd
    by_cases h : q = i
    · subst h; rw [if_pos rfl, if_pos (by omega)]
    · rw [if_neg h]
      have e : q < i + 1 ↔ q < i := by omega
      simp only [e]
  · have hk : i = n := by omega
    subst hk
    refine J_exit (px_then (px_then (px_block (pj_then (J_seq (J_reg (st (s_move rfl) rfl (st (s_assign rfl) rfl (Run.nil ?_)))))))))
    refine pj_then (J_ret (PJ_freeze (t := 6) (i := 0) rfl rfl ?_))
    refine retc1 Tryz.results94 (.tmp rfl (slT_le fun q hq => ?_))
    rw [if_pos hq]; exact VT.le_refl _
set_option maxHeartbeats 1000000 in
theorem IndexFunc_ok (l : List Int) (p : Int → Bool) (cl : VT) (hC : ∀ x ∈ l, Callable Tryz.prog cl [one (.int .i64 x)] (one (.bool (p x)))) : Ok Tryz.prog 124 [numT .i64 l, cl] (exT fun k : Int => andT ((0 ≤ k ↔ l.any p = true) ∧ -1 ≤ k ∧ k ≤ 2 ^ 48) (one (.int .i64 k))) := by
  unfold numT
  refine Ok.enter Tryz.func124 rfl Tryz.ntmps124 rfl (fun w O => ?_)
  refine J_fact (t := 0) rfl (fun _ _ => slT_bound) (fun hb => ?_)
  refine J_seq (J_reg (st (s_assign rfl) rfl (Run.nil (pj_then (J_seq (J_seq (J_reg (st (s_move rfl) rfl (st (s_len rfl) rfl ?_)))))))))
  refine st (s_move rfl) rfl (Run.nil (pj_then (J_block ?_)))
  refine J_loop (σ := Nat) (fun i => [(0, slT .one l.length (fun i => one (.int .i64 (l.getD i 0)))), (1, cl), (7, one (.int .i64 l.length)), (8, one (.int .i64 (i : Nat)))]) (fun _ => []) (fun i => i ≤ l.length ∧ (l.take i).any p = false) (fun i => l.length - i) 0 ⟨Nat.zero_le _, rfl⟩ (by repeat (first | exact SubG.nil | refine SubG.cons rfl (VT.le_refl _) ?_ | (refine SubG.cons rfl (one_le ?_) ?_; (congr 1; first | omega | (simp; omega) | simp)))) (SubM.refl _) (fun i ⟨hi, ht⟩ => ?_)
  refine J_seq (J_reg (st (s_lt rfl rfl) rfl (Run.nil (pj_then (J_seq ?_)))))
  refine J_cond rfl (fun hc => ?_) (fun hc => ?_) <;> simp only [decide_eq_true_eq, decide_eq_false_iff_not, Int.ofNat_lt] at hc
  · refine J_skip (pj_then (J_seq (J_block (J_seq (J_reg (st (s_move rfl) rfl (st (s_assign rfl) rfl (Run.nil (pj_then ?_)))))))))
    refine J_seq (J_reg (st (s_move rfl) rfl (st (s_move rfl) rfl (st (s_move rfl) rfl ?_))))
    (refine st (s_indexIN rfl rfl ?_) rfl ?_; omega)
    refine st (s_load rfl) rfl ?_
    have hm : l.getD i 0 ∈ l := by
      simp only [List.getD, List.getElem?_eq_getElem hc, Option.getD_some]; exact List.getElem_mem hc
    refine st (s_callF (hC _ hm) rfl rfl ⟨VT.le_refl _, trivial⟩) rfl ?_
    refine Run.nil (pj_then ?_)
    refine J_cond rfl (fun hc2 => ?_) (fun hc2 => ?_)
    · refine J_seq (J_reg (st (s_move rfl) rfl (st (s_assign rfl) rfl (Run.nil (pj_then (J_ret (pr_block (pr_then (pr_then ?_)))))))))
      refine pr_block (pr_then ?_)
      refine retc1 Tryz.results124 (.tmp rfl (le_exT (i : Int) (le_andT ⟨?_, by omega, by omega⟩ (VT.le_refl _))))
      have : l.any p = true := List.any_eq_true.2 ⟨_, hm, hc2⟩
      simp [this]
    · refine J_skip (pn_block (pj_then (J_reg ?_)))
      (refine st (s_add rfl rfl (wrap_i64 ?_ ?_)) rfl ?_; omega; omega)
      refine st (s_move rfl) rfl (Run.nil ?_)
      refine pj_round (s := i) (i + 1) ⟨by omega, ?_⟩ (by show l.length - (i + 1) < l.length - i; omega) (by repeat (first | exact SubG.nil | refine SubG.cons rfl (VT.le_refl _) ?_ | (refine SubG.cons rfl (one_le ?_) ?_; (congr 1; first | omega | (simp; omega) | simp)))) .nil
      rw [List.take_add_one, List.any_append, ht, List.getElem?_eq_getElem hc]
      simp only [List.getD, List.getElem?_eq_getElem hc, Option.getD_some] at hc2
      simp [hc2]
  · refine J_exit (px_then (px_then (px_block (pj_then (J_seq (J_reg (st (s_assign rfl) rfl (Run.nil (pj_then ?_)))))))))
    refine J_ret ?_
    refine retc1 Tryz.results124 (.tmp rfl (le_exT (-1 : Int) (le_andT ⟨?_, by omega, by omega⟩ (VT.le_refl _))))
    rw [List.take_of_length_le (by omega)] at ht
    simp [ht]
set_option maxHeartbeats 1000000 in
theorem ContainsFunc_ok (l : List Int) (p : Int → Bool) (cl : VT) (hC : ∀ x ∈ l, Callable Tryz.prog cl [one (.int .i64 x)] (one (.bool (p x)))) : Ok Tryz.prog 112 [numT .i64 l, cl] (one (.bool (l.any p))) := by
  refine Ok.enter Tryz.func112 rfl Tryz.ntmps112 rfl (fun w O => ?_)
  refine J_seq (J_reg (st (s_assign rfl) rfl (Run.nil (pj_then (J_seq (J_reg (st (s_move rfl) rfl (st (s_move rfl) rfl ?_))))))))
  refine a_callM (IndexFunc_ok l p cl hC).toM rfl ⟨VT.le_refl _, VT.le_refl _, trivial⟩ rfl rfl (fun k => ?_)
  obtain ⟨k, hk⟩ := k
  refine st (s_ge rfl rfl) rfl (st (s_assign rfl) rfl (Run.nil (pj_then (J_ret ?_))))
  refine retc1 Tryz.results112 (.tmp rfl (one_le ?_))
  have := hk.1
  show Value.bool (decide (0 ≤ k)) = _
  cases h : l.any p
  · rw [h] at this; simp at this; simp [this]
  · rw [h] at this; simp at this; simp [this]
def capT (n : Int) : VT := ptrT .one (one (.int .i64 n))
set_option maxHeartbeats 1000000 in
theorem Pick11_ok (x n : Int) : Ok Tryz.prog 111 [one (.int .i64 x), capT n] (one (.bool (decide (x < 0 ∨ n ≤ x)))) := by
  unfold capT
  refine Ok.enter Tryz.func111 rfl Tryz.ntmps111 rfl (fun w O => ?_)
  refine J_seq (J_reg (st (s_assign rfl) rfl (Run.nil (pj_then (J_seq (J_reg (st (s_move rfl) rfl (st (s_lt rfl rfl) rfl (st (s_move rfl) rfl ?_)))))))))
  refine bsel (t := 6) rfl (fun b h1 => ?_)
  rw [h1]
  cases b
  · simp at h1
    refine sg1 rfl rfl (s_move rfl) rfl (sg1 rfl rfl (s_load rfl) rfl (sg1 rfl rfl (s_ge rfl rfl) rfl (st (s_pickF rfl rfl) rfl (st (s_assign rfl) rfl (Run.nil (pj_then (J_ret ?_)))))))
    refine retc1 Tryz.results111 (.tmp rfl (one_le ?_))
    congr 1; rw [decide_eq_decide]; omega
  · simp at h1
    refine sg0 rfl rfl rfl rfl (sg0 rfl rfl rfl rfl (sg0 rfl rfl rfl rfl (st (s_pickT rfl rfl) rfl (st (s_assign rfl) rfl (Run.nil (pj_then (J_ret ?_)))))))
    refine retc1 Tryz.results111 (.tmp rfl (one_le ?_))
    congr 1; symm; rw [decide_eq_true_eq]; omega
set_option maxHeartbeats 1000000 in
theorem Pick1_ok (n : Int) : Ok Tryz.prog 110 [one (.int .i64 n)] (cloT 111 [capT n]) := by
  refine Ok.enter Tryz.func110 rfl Tryz.ntmps110 rfl (fun w O => ?_)
  refine J_seq (J_reg ?_)
  refine a_box rfl rfl (ltN rfl) (fun b => ?_)
  refine st (s_assign rfl) rfl (Run.nil (pj_then (J_seq (J_reg (st (s_makeFunc rfl) rfl (st (s_assign rfl) rfl (Run.nil (pj_then (J_ret ?_)))))))))
  refine PJ_open [boxO b 3 1 [(0, .one, one (.int .i64 n))]] (List.Perm.refl _) .nil (EntG.set (t := 2) rfl (Ent.clo1 (Ent.ptr (T := 3) (L := .one) List.mem_cons_self List.mem_cons_self))) ?_
  refine retc1 Tryz.results110 (.tmp rfl (VT.le_refl _))
end Tor
end
section
namespace Tor
open Go Go.RowKit Go.Proofs
def sumF : Nat → (Nat → Int) → Int
  | 0, _ => 0
  | n + 1, f => sumF n f + f n
def mulF (n : Nat) (F G : Nat → Nat → Int) : Nat → Nat → Int := fun i j => sumF n (fun k => F i k * G k j)
theorem sumF_step {n : Nat} {f : Nat → Int} : sumF (n + 1) f = sumF n f + f n := rfl
attribute [local irreducible] Tor.J Tor.PJ Tor.StepO Tor.one Tor.slT Tor.ptrT Tor.aggT Tor.tupT Tor.exT Tor.andT Tor.eP Tor.boxO Tor.sliO Tor.slV Tor.VT.le Tor.Ret Tor.anyT
attribute [local irreducible] bigT
end Tor
end
section
namespace Tor
open Go Go.RowKit Go.Proofs
instance : Idle Tryz.prog 96 := Idle.of Tryz.func96 rfl Tryz.ntmps96 Tryz.results96
attribute [local irreducible] Tor.J Tor.PJ Tor.StepO Tor.one Tor.slT Tor.ptrT Tor.aggT Tor.tupT Tor.exT Tor.andT Tor.eP Tor.boxO Tor.sliO Tor.slV Tor.VT.le Tor.Ret Tor.anyT
attribute [local irreducible] Tor.rowsO
set_option maxHeartbeats 2000000 in
theorem New_ok (r c : Nat) (hr : r ≤ 1048576) (hc0 : c ≤ 1048576) : OkM Tryz.prog 65 [one (.int .i64 r), one (.int .i64 c)] (newT r c) (fun s => [outO s.1.2.1 s.1.2.2 r c s.1.1, ownR c s.1.1 (fun _ _ => 0)]) := by
  refine OkM.enterD Tryz.func65 rfl Tryz.ntmps65 rfl (fun w O => ?_)
  have e1 : max (r : Int) 0 = r := by omega
  have e2 : max (c : Int) 0 = c := by omega
  refine J_seq (J_reg ?_)
  refine a_allocS (T := 28) rfl rfl rfl (fun b => ?_)
  refine Run.nil (pj_then (J_seq (J_reg (a_defer rfl (Run.nil (pj_then (J_seq (J_reg (st (s_move rfl) rfl ?_)))))))))
  refine st (s_max rfl rfl) rfl (st (s_move rfl) rfl (st (s_max rfl rfl) rfl (st (s_assign rfl) rfl (st (s_assign rfl) rfl (Run.nil (pj_then (J_seq (J_reg (st (s_move rfl) rfl ?_)))))))))
  rw [e1, e2]
  refine a_makeSlice r r rfl rfl rfl rfl (Nat.le_refl _) rfl rfl (by omega) rfl rfl (fun bo => ?_)
  refine st (s_assign rfl) rfl (Run.nil (pj_then (J_seq (J_seq (J_reg (st (s_move rfl) rfl (st (s_lenO rfl) rfl (st (s_move rfl) rfl (Run.nil ?_)))))))))
  refine pj_then (J_block ?_)
  refine J_conv (ConvM.rows0 (T := 43) (L := .agg 2) (c := c) (φ := fun _ _ => bigT 0) _) ?_
  refine J_loop (σ := List Nat) (fun s => [(0, one (.int .i64 r)), (1, one (.int .i64 c)), (4, one (.pointer (some ⟨b, 0, none⟩))), (5, one (slV (some bo) r r)), (14, one (.int .i64 r)), (15, one (.int .i64 s.length))])
    (fun s => [sliO (some bo) 30 .one r r (fun q => if q < s.length then one (slV (some (s.getD q 0)) c c) else anyT), boxO b 28 3 (zeroC #[Value.int IntKind.i64 0, Value.int IntKind.i64 0, Value.slice none 0 0] [(0, Lay.one), (1, Lay.one), (2, Lay.one)]), ownR c s (fun _ _ => 0)])
    (fun s => s.length ≤ r) (fun s => r - s.length) [] (Nat.zero_le _) (by repeat (first | exact SubG.nil | refine SubG.cons rfl (VT.le_refl _) ?_ | (refine SubG.cons rfl (one_le ?_) ?_; (congr 1; first | omega | (simp; omega) | simp)))) (.keep (sliO_le fun q hq => by rw [if_neg (by simp)]; exact le_any _) (SubM.refl _)) (fun bs hk => ?_)
  refine J_seq (J_reg (st (s_lt rfl rfl) rfl (Run.nil (pj_then (J_seq ?_)))))
  refine J_cond rfl (fun hc => ?_) (fun hc => ?_) <;> simp only [decide_eq_true_eq, decide_eq_false_iff_not, ne_eq, Decidable.not_not] at hc
  · refine J_skip (pj_then (J_seq (J_block (J_seq (J_reg (st (s_move rfl) rfl (st (s_assign rfl) rfl (Run.nil (pj_then ?_)))))))))
    refine J_reg (st (s_move rfl) rfl (st (s_move rfl) rfl (st (s_move rfl) rfl ?_)))
    refine a_makeSlice c c rfl rfl rfl rfl (Nat.le_refl _) rfl rfl (by omega) rfl rfl (fun bz => ?_)
    (refine st (s_indexON rfl rfl ?_) rfl ?_; omega)
    (refine a_storeE 1 rfl rfl rfl ?_ rfl ?_; omega)
    refine Run.nil (pn_block (pj_then (J_reg ?_)))
    (refine st (s_add rfl rfl (wrap_i64 ?_ ?_)) rfl ?_; omega; omega)
    refine st (s_move rfl) rfl (Run.nil (PJ_conv (ConvM.row (k := 2) rfl) (pj_round (s := bs) (bs ++ [bz]) (by simp; omega) (by simp; omega) (.cons rfl (VT.le_refl _) (.cons rfl (VT.le_refl _) (.cons rfl (VT.le_refl _) (.cons rfl (VT.le_refl _) (.cons rfl (VT.le_refl _) (.cons rfl (one_le (by simp)) .nil)))))) ?_)))
    refine .keep (sliO_eq (fun q hq => ?_)) (.keep (Own.le_refl _) (.keep (rowsO_le fun i j hi hj => ?_) .nil))
    · unfold upd
      by_cases h : q = bs.length
      · subst h; simp
      · rw [if_neg h]
        show (if q < bs.length then one (slV (some (bs.getD q 0)) c c) else anyT) = _
        by_cases h2 : q < bs.length
        · rw [if_pos h2, if_pos (by simp; omega)]; simp [List.getElem?_append_left h2]
        · rw [if_neg h2, if_neg (by simp; omega)]
    · simp only
      split
      · exact VT.le_refl _
      · exact zero_big
  · have hlen : bs.length = r := by omega
    subst hlen
    refine J_exit (px_then (px_then (px_block (pj_then (J_seq (J_reg (st (s_move rfl) rfl (st (s_move rfl) rfl (st (s_move rfl) rfl ?_)))))))))
    refine stB rfl rfl rfl (BuildK.cons rfl rfl rfl (BuildK.cons rfl rfl rfl (BuildK.cons rfl rfl rfl (BuildK.nil (a_storeW 1 rfl rfl rfl rfl (Run.nil (pj_then (J_ret ?_))))))))
    refine pj_idle (retM1 ⟨(bs, some bo, bs.length), rfl, fun h => by cases h⟩ Tryz.results65 (.cellW 1 rfl rfl (VT.le_refl _)) ?_)
    refine .keep (sliO_eq fun q hq => ?_) (.drop (SubM.refl _))
    rw [if_pos hq]
attribute [local irreducible] bigT
set_option maxHeartbeats 2000000 in
theorem Identity_ok (n : Nat) (hn : n ≤ 1048576) : Ok Tryz.prog 64 [one (.int .i64 n)] (matF n n (fun i j => if i = j then 1 else 0)) := by
  refine Ok.enter Tryz.func64 rfl Tryz.ntmps64 rfl (fun w O => ?_)
  refine J_seq (J_reg ?_)
  refine a_allocS (T := 28) rfl rfl rfl (fun b => ?_)
  refine Run.nil (pj_then (J_seq (J_reg (st (s_move rfl) rfl (st (s_move rfl) rfl ?_)))))
  refine a_callM (New_ok n n hn hn) rfl ⟨VT.le_refl _, VT.le_refl _, trivial⟩ rfl rfl (fun s => ?_)
  obtain ⟨⟨bs, sv1, cap1⟩, hlen, hsv⟩ := s
  simp only at hlen hsv
  unfold newT
  refine a_allocS (T := 28) rfl rfl rfl (fun b => ?_)
  refine a_storeW 0 rfl rfl rfl rfl (Run.nil (pj_then (J_seq (J_seq (J_reg (st (s_fieldAddr rfl) rfl (st (s_loadB 0 rfl rfl rfl) rfl (st (s_lenO rfl) rfl (st (s_move rfl) rfl ?_)))))))))
  refine Run.nil (pj_then (J_block ?_))
  rename_i b2
  refine J_loop (σ := Nat) (fun i => [(2, one (.pointer (some ⟨b2, 0, none⟩))), (3, one (.pointer (some ⟨b, 0, none⟩))), (10, one (.int .i64 n)), (11, one (.int .i64 (i : Nat)))])
    (fun i => [boxO b 28 3 [(0, .one, one (.int .i64 n)), (1, .one, one (.int .i64 n)), (2, .one, one (slV sv1 n cap1))], outO sv1 cap1 n n bs, ownR n bs (fun q k => if q < i then (if q = k then 1 else 0) else 0),
      boxO b2 28 3 (zeroC #[Value.int IntKind.i64 0, Value.int IntKind.i64 0, Value.slice none 0 0] [(0, Lay.one), (1, Lay.one), (2, Lay.one)])])
    (fun i => i ≤ n) (fun i => n - i) 0 (Nat.zero_le _) (by repeat (first | exact SubG.nil | refine SubG.cons rfl (VT.le_refl _) ?_ | (refine SubG.cons rfl (one_le ?_) ?_; (congr 1; first | omega | (simp; omega) | simp)))) (.keep (Own.le_refl _) (.keep (Own.le_refl _) (.keep (ownR_le fun i j hi hj => by simp) (SubM.refl _)))) (fun i hi => ?_)
  refine J_seq (J_reg (st (s_lt rfl rfl) rfl (Run.nil (pj_then (J_seq ?_)))))
  refine J_cond rfl (fun hc => ?_) (fun hc => ?_) <;> simp only [decide_eq_true_eq, decide_eq_false_iff_not, ne_eq, Decidable.not_not] at hc
  · obtain ⟨bo, rfl⟩ := sv_some hsv (by omega)
    refine J_skip (pj_then (J_seq (J_block (J_seq (J_reg (st (s_move rfl) rfl (st (s_assign rfl) rfl (Run.nil (pj_then ?_)))))))))
    refine J_regd 8 mixed (by kernel_rfl) (by decide) (st (s_fieldAddr rfl) rfl (st (s_loadB 0 rfl rfl rfl) rfl (st (s_move rfl) rfl ?_)))
    (refine st (s_indexON rfl rfl ?_) rfl ?_; omega)
    (refine st (s_loadE 1 rfl rfl ?_) rfl ?_; omega)
    refine st (s_move rfl) rfl ?_
    refine st (s_callk (Of_ok 1 (by decide) (by decide)) rfl ⟨VT.le_refl _, trivial⟩) rfl ?_
    (refine st (s_indexON rfl rfl ?_) rfl ?_; omega)
    refine Run.nil ?_
    (refine a_storeR 2 rfl rfl rfl (getq ?_) ?_ rfl ?_; omega; omega)
    refine Run.nil (pn_block (pj_then (J_reg ?_)))
    (refine st (s_add rfl rfl (wrap_i64 ?_ ?_)) rfl ?_; omega; omega)
    refine st (s_move rfl) rfl (Run.nil ?_)
    refine pj_round (s := i) (i + 1) (show _ from by omega) (by omega) (by repeat (first | exact SubG.nil | refine SubG.cons rfl (VT.le_refl _) ?_ | (refine SubG.cons rfl (one_le ?_) ?_; (congr 1; first | omega | (simp; omega) | simp)))) (.keep (Own.le_refl _) (.keep (Own.le_refl _) (.keep (rowsO_eq fun q k hq hk => ?_) (SubM.refl _))))
    unfold upd2
    by_cases h : q = i
    · subst h
      by_cases h2 : k = q
      · subst h2; simp
      · have h3 : ¬ q = k := fun e => h2 e.symm
        simp [h2, h3]
    · have h3 : q < i + 1 ↔ q < i := by omega
      simp [h, h3]
  · have hin : i = n := by omega
    subst hin
    refine J_exit (px_then (px_then (px_block (pj_then (J_seq (J_reg (st (s_loadW 0 rfl rfl) rfl (a_storeW 3 rfl rfl rfl rfl (Run.nil ?_)))))))))
    refine pj_then (J_ret ?_)
    have hperm : ∀ (x y z u : Own), [x, y, z, u].Perm ([y, z] ++ [x, u]) := fun x y z u => (List.Perm.swap y x _).trans (List.Perm.cons y (List.Perm.swap z x _))
    refine PJ_open [outO sv1 cap1 i i bs, ownR i bs (fun q k => if q < i then (if q = k then 1 else 0) else 0)] (hperm _ _ _ _) (.keep (EntO.refl _) (.keep (EntO.box (newT_open hlen ⟨by simp, by simp, by simp⟩)) .nil)) (EntG.refl _) ?_
    refine retc1 Tryz.results64 (.cellW 1 rfl rfl ?_)
    exact matF_le fun a b ha hb => by simp [ha]
end Tor
end
section
namespace Tor
open Go Go.RowKit Go.Proofs
def resMT (ok : Bool) (e : Int) (r c : Nat) (F : Nat → Nat → Int) : VT := tupT [matF (if ok then r else 0) (if ok then c else 0) F, one (.int .i64 (if ok then 0 else e))]
theorem zero_mat (F : Nat → Nat → Int) : VT.le (aggT 3 (zeroC #[Value.int IntKind.i64 0, Value.int IntKind.i64 0, Value.slice none 0 0] [(0, Lay.one), (1, Lay.one), (2, Lay.one)])) (matF 0 0 F) := by
  unfold matF
  refine aggT_le (fun q hq => ?_)
  rcases List.mem_cons.1 hq with rfl | hq
  · exact ⟨_, List.mem_cons_self, VT.le_refl _⟩
  rcases List.mem_cons.1 hq with rfl | hq
  · exact ⟨_, List.mem_cons_of_mem _ List.mem_cons_self, VT.le_refl _⟩
  rcases List.mem_cons.1 hq with rfl | hq
  · exact ⟨_, List.mem_cons_of_mem _ (List.mem_cons_of_mem _ List.mem_cons_self), nil_slT⟩
  · cases hq
theorem zero_bigC : VT.le (aggT 2 (zeroC #[Value.bool false, Value.slice none 0 0] [(0, Lay.one), (1, Lay.one)])) (bigT 0) := by
  unfold bigT
  refine aggT_le (fun q hq => ?_)
  rcases List.mem_cons.1 hq with rfl | hq
  · exact ⟨_, List.mem_cons_self, VT.le_refl _⟩
  rcases List.mem_cons.1 hq with rfl | hq
  · exact ⟨_, List.mem_cons_of_mem _ List.mem_cons_self, nil_slT⟩
  · cases hq
attribute [local irreducible] Tor.J Tor.PJ Tor.StepO Tor.one Tor.slT Tor.ptrT Tor.aggT Tor.tupT Tor.exT Tor.andT Tor.eP Tor.boxO Tor.sliO Tor.slV Tor.VT.le Tor.Ret Tor.anyT
attribute [local irreducible] bigT
set_option maxHeartbeats 2000000 in
theorem Beside_ok (ra ca : Nat) (F : Nat → Nat → Int) (rb cb : Nat) (G : Nat → Nat → Int) (h1 : ra ≤ 1048576) (h2 : ca ≤ 1048576) (h4 : cb ≤ 1048576) (hF : ∀ i j, small (F i j)) (hG : ∀ i j, small (G i j)) :
    Ok Tryz.prog 63 [matF ra ca F, matF rb cb G] (resMT (decide (ra = rb)) 50 ra (ca + cb) (fun i k => if k < ca then F i k else G i (k - ca))) := by
  unfold resMT
  refine Ok.enter Tryz.func63 rfl Tryz.ntmps63 rfl (fun w O => ?_)
  have hI : ∀ (φ : VT), φ = φ := fun _ => rfl
  unfold matF
  refine J_seq (J_reg ?_)
  refine a_boxS rfl rfl (ltN rfl) (fun b => ?_)
  refine a_boxS rfl rfl (ltN rfl) (fun b => ?_)
  refine a_allocS (T := 28) rfl rfl rfl (fun b => ?_)
  refine st (s_assign rfl) rfl (Run.nil (pj_then (J_seq (J_seq (J_reg (st (s_loadW 2 rfl rfl) rfl (st (s_loadW 1 rfl rfl) rfl (stS rfl rfl rfl rfl (PartsK.cons rfl ?_)))))))))
  refine PartsK.cons rfl (PartsK.nil ?_)
  refine st (s_callk (valid2_ok ra ca F rb cb G) rfl ⟨two_mat2, trivial⟩) rfl ?_
  refine st (s_not rfl) rfl (st (s_move rfl) rfl (sg1 rfl rfl (s_fieldAddr rfl) rfl (sg1 rfl rfl (s_loadB 2 rfl rfl rfl) rfl (sg1 rfl rfl (s_fieldAddr rfl) rfl (sg1 rfl rfl (s_loadB 1 rfl rfl rfl) rfl (sg1 rfl rfl (s_ne rfl rfl) rfl (st (s_pickF rfl rfl) rfl (Run.nil (pj_then ?_)))))))))
  refine J_cond rfl (fun hc => ?_) (fun hc => ?_) <;> simp only [decide_eq_true_eq, decide_eq_false_iff_not, ne_eq, Decidable.not_not] at hc
  · have hne : ¬ ra = rb := by omega
    refine J_seq (J_reg (stB rfl rfl rfl (BuildK.nil (a_storeW 0 rfl rfl rfl rfl (st (s_assign rfl) rfl (Run.nil (pj_then (J_ret (pr_then ?_)))))))))
    refine retc2 Tryz.results63 (.cellW 0 rfl rfl ?_) (.tmp rfl (one_le ?_))
    · rw [decide_eq_false hne]; exact zero_mat _
    · rw [decide_eq_false hne]; rfl
  · have he : ra = rb := by omega
    subst he
    refine J_skip (pj_then (J_seq (J_regd 13 mixed (by kernel_rfl) (by decide) (st (s_fieldAddr rfl) rfl (st (s_loadB 2 rfl rfl rfl) rfl (st (s_fieldAddr rfl) rfl (st (s_loadB 2 rfl rfl rfl) rfl (st (s_fieldAddr rfl) rfl (st (s_loadB 1 rfl rfl rfl) rfl ?_)))))))))
    (refine st (s_add rfl rfl (wrap_i64 ?_ ?_)) rfl ?_; omega; omega)
    refine st (s_fieldAddr rfl) rfl (st (s_loadB 2 rfl rfl rfl) rfl (st (s_fieldAddr rfl) rfl (st (s_loadB 1 rfl rfl rfl) rfl ?_)))
    refine st (s_callk (combR_ok ra (fun i => rowF ca (F i)) (fun i => rowF cb (G i)) (fun i => rowF (ca + cb) (fun k => if k < ca then F i k else G i (k - ca))) (hF := fun i => by unfold rowF; infer_instance) (one (.func (.func 95) #[] #[])) h1 (fun i hi => Callable.fn (ownRow_ok ca cb (F i) (G i) h2 h4 (hF i) (hG i)))) rfl ⟨VT.le_refl _, VT.le_refl _, VT.le_refl _, trivial⟩) rfl ?_
    refine stB rfl rfl rfl (BuildK.cons rfl rfl rfl (BuildK.cons rfl rfl rfl (BuildK.cons rfl rfl rfl (BuildK.nil (Run.nil (a_storeW 0 rfl rfl rfl rfl (st (s_assign rfl) rfl (Run.nil (pj_then ?_)))))))))
    refine J_ret ?_
    refine retc2 Tryz.results63 (.cellW 0 rfl rfl ?_) (.tmp rfl (one_le ?_))
    · simp only [decide_true, if_true]
      exact VT.le_refl _
    · simp
end Tor
end
section
namespace Tor
open Go Go.RowKit Go.Proofs
def outs (n : Nat) (l : List Int) : Bool := l.any fun x => decide (x < 0 ∨ (n : Int) ≤ x)
theorem outs_at {n : Nat} {l : List Int} (h : outs n l = false) {i : Nat} (hi : i < l.length) : 0 ≤ l.getD i 0 ∧ l.getD i 0 < n := by
  have := List.any_eq_false.1 h (l.getD i 0) (by simp only [List.getD, List.getElem?_eq_getElem hi, Option.getD_some]; exact List.getElem_mem hi)
  simp only [decide_eq_true_eq] at this; omega
def pickF (l m : List Int) (F : Nat → Nat → Int) : Nat → Nat → Int := fun i j => F (l.getD i 0).toNat (m.getD j 0).toNat
theorem getD_cast {l : List Int} {n i : Nat} (h : outs n l = false) (hi : i < l.length) : ∃ k : Nat, k < n ∧ l.getD i 0 = (k : Int) := ⟨(l.getD i 0).toNat, by have := outs_at h hi; omega, by have := outs_at h hi; omega⟩
def fill2 (F : Nat → Nat → Int) (i j : Nat) : Nat → Nat → Int := fun q k => if q < i ∨ (q = i ∧ k < j) then F q k else 0
theorem upd_fill2 {T : TypeId} {c : Nat} {bs : List Nat} {F : Nat → Nat → Int} {i j : Nat} (x : Int) (hx : x = F i j) :
    Own.le (rowsO T (.agg 2) c bs (upd2 (fun q k => bigT (fill2 F i j q k)) i j (bigT x))) (rowsO T (.agg 2) c bs (fun q k => bigT (fill2 F i (j + 1) q k))) := by
  subst hx
  refine rowsO_eq fun q k hq hk => ?_
  unfold upd2 fill2
  by_cases h : q = i ∧ k = j
  · obtain ⟨rfl, rfl⟩ := h; simp
  · rw [if_neg h]
    have e : (q < i ∨ q = i ∧ k < j + 1) ↔ (q < i ∨ q = i ∧ k < j) := by omega
    simp only [e]
theorem next_fill2 {c : Nat} {bs : List Nat} {F : Nat → Nat → Int} {i : Nat} : Own.le (ownR c bs (fill2 F i c)) (ownR c bs (fill2 F (i + 1) 0)) := by
  refine ownR_le fun q k hq hk => ?_
  unfold fill2
  have e : (q < i ∨ q = i ∧ k < c) ↔ (q < i + 1 ∨ q = i + 1 ∧ k < 0) := by omega
  simp only [e]
attribute [local irreducible] Tor.J Tor.PJ Tor.StepO Tor.one Tor.slT Tor.ptrT Tor.aggT Tor.tupT Tor.exT Tor.andT Tor.eP Tor.boxO Tor.sliO Tor.slV Tor.VT.le Tor.Ret Tor.anyT
attribute [local irreducible] bigT Tor.rowsO
set_option maxHeartbeats 8000000 in
theorem Pick_ok (r c : Nat) (F : Nat → Nat → Int) (l m : List Int) (hl : l.length ≤ 1048576) (hm : m.length ≤ 1048576) (hF : ∀ i j, small (F i j)) :
    Ok Tryz.prog 97 [matF r c F, numT .i64 l, numT .i64 m] (resMT (!(outs r l || outs c m)) 1 l.length m.length (pickF l m F)) := by
  unfold resMT matF numT
  refine Ok.enter Tryz.func97 rfl Tryz.ntmps97 rfl (fun w O => ?_)
  have hcl : ∀ (n : Nat) (l : List Int), ∀ x ∈ l, Callable Tryz.prog (cloT 111 [capT (n : Int)]) [one (.int .i64 x)] (one (.bool (decide (x < 0 ∨ (n : Int) ≤ x)))) := fun n l x hx => Callable.clo (Pick11_ok x n)
  have hcont : ∀ (n : Nat) (l : List Int), Ok Tryz.prog 112 [slT .one l.length (fun i => one (.int .i64 (l.getD i 0))), cloT 111 [capT (n : Int)]] (one (.bool (outs n l))) := fun n l => ContainsFunc_ok l _ _ (hcl n l)
  refine J_seq (J_reg ?_)
  refine a_boxS rfl rfl (ltN rfl) (fun b => ?_)
  refine a_allocS (T := 28) rfl rfl rfl (fun b => ?_)
  refine st (s_assign rfl) rfl (Run.nil (pj_then (J_seq (J_reg (st (s_assign rfl) rfl (Run.nil (pj_then (J_seq (J_seq ?_)))))))))
  refine J_reg (st (s_loadW 1 rfl rfl) rfl ?_)
  rename_i ba
  refine st (s_callk (matValidF_ok r c F) rfl ⟨VT.le_refl _, trivial⟩) rfl ?_
  refine st (s_not rfl) rfl (st (s_move rfl) rfl (sg1 rfl rfl (s_move rfl) rfl (sg1 rfl rfl (s_move rfl) rfl (sg1 rfl rfl (s_fieldAddr rfl) rfl (sg1 rfl rfl (s_loadB 1 rfl rfl rfl) rfl ?_)))))
  refine sg1 rfl rfl (s_callF (Callable.fn (Pick1_ok (r : Int))) rfl rfl ⟨VT.le_refl _, trivial⟩) rfl ?_
  refine sg1 rfl rfl (s_callk (hcont r l) rfl ⟨VT.le_refl _, VT.le_refl _, trivial⟩) rfl ?_
  refine st (s_pickF rfl rfl) rfl (st (s_move rfl) rfl ?_)
  refine bsel (t := 25) rfl (fun o1 h1 => ?_)
  rw [h1]
  cases o1
  · refine sg1 rfl rfl (s_move rfl) rfl (sg1 rfl rfl (s_move rfl) rfl (sg1 rfl rfl (s_fieldAddr rfl) rfl (sg1 rfl rfl (s_loadB 1 rfl rfl rfl) rfl ?_)))
    refine sg1 rfl rfl (s_callF (Callable.fn (Pick1_ok (c : Int))) rfl rfl ⟨VT.le_refl _, trivial⟩) rfl ?_
    refine sg1 rfl rfl (s_callk (hcont c m) rfl ⟨VT.le_refl _, VT.le_refl _, trivial⟩) rfl ?_
    refine st (s_pickF rfl rfl) rfl (Run.nil (pj_then ?_))
    refine J_cond rfl (fun h2 => ?_) (fun h2 => ?_)
    · refine J_seq (J_reg (stB rfl rfl rfl (BuildK.nil (a_storeW 0 rfl rfl rfl rfl (st (s_assign rfl) rfl (Run.nil (pj_then (J_ret (pr_then ?_)))))))))
      refine retc2 Tryz.results97 (.cellW 0 rfl rfl ?_) (.tmp rfl (one_le ?_))
      · rw [h2]; simp only [Bool.or_true, Bool.not_true, Bool.false_eq_true, if_false]; exact zero_mat _
      · rw [h2]; simp
    · refine J_skip (pj_then (J_seq (J_reg (st (s_move rfl) rfl (st (s_len rfl) rfl (st (s_move rfl) rfl (st (s_len rfl) rfl ?_)))))))
      refine a_callM (New_ok l.length m.length hl hm) rfl ⟨VT.le_refl _, VT.le_refl _, trivial⟩ rfl rfl (fun s => ?_)
      obtain ⟨⟨bs, sv1, cap1⟩, hlen, hsv⟩ := s
      simp only at hlen hsv
      unfold newT
      refine a_allocS (T := 28) rfl rfl rfl (fun b => ?_)
      refine a_storeW 0 rfl rfl rfl rfl (Run.nil (pj_then (J_seq (J_seq (J_reg (st (s_move rfl) rfl (st (s_len rfl) rfl (st (s_move rfl) rfl (Run.nil ?_)))))))))
      refine pj_then (J_block ?_)
      rename_i b6
      refine J_loop (σ := Nat) (fun i => [(2, slT .one m.length (fun i => one (.int .i64 (m.getD i 0)))), (3, one (.pointer (some ⟨ba, 0, none⟩))), (6, one (.pointer (some ⟨b6, 0, none⟩))), (9, one (.pointer (some ⟨b, 0, none⟩))), (39, slT .one l.length (fun i => one (.int .i64 (l.getD i 0)))), (40, one (.int .i64 l.length)), (41, one (.int .i64 (i : Nat)))])
        (fun i => [boxO b 28 3 [(0, .one, one (.int .i64 l.length)), (1, .one, one (.int .i64 m.length)), (2, .one, one (slV sv1 l.length cap1))], outO sv1 cap1 l.length m.length bs, ownR m.length bs (fill2 (pickF l m F) i 0),
          boxO b6 28 3 (zeroC #[Value.int IntKind.i64 0, Value.int IntKind.i64 0, Value.slice none 0 0] [(0, Lay.one), (1, Lay.one), (2, Lay.one)]),
          boxO ba 28 3 [(0, .one, one (.int .i64 r)), (1, .one, one (.int .i64 c)), (2, .one, slT .one r (fun i => rowF c (F i)))]])
        (fun i => i ≤ l.length) (fun i => l.length - i) 0 (Nat.zero_le _) (by repeat (first | exact SubG.nil | refine SubG.cons rfl (VT.le_refl _) ?_ | (refine SubG.cons rfl (one_le ?_) ?_; (congr 1; first | omega | (simp; omega) | simp)))) (.keep (Own.le_refl _) (.keep (Own.le_refl _) (.keep (ownR_le fun i j hi hj => by simp [fill2]) (SubM.refl _)))) (fun i hi => ?_)
      refine J_seq (J_reg (st (s_lt rfl rfl) rfl (Run.nil (pj_then (J_seq ?_)))))
      refine J_cond rfl (fun hc => ?_) (fun hc => ?_) <;> simp only [decide_eq_true_eq, decide_eq_false_iff_not, Int.ofNat_lt] at hc
      · obtain ⟨bo, rfl⟩ := sv_some hsv (by omega)
        obtain ⟨x, hx, ex⟩ := getD_cast h1 hc
        refine J_skip (pj_then (J_seq (J_block (J_seq (J_reg (st (s_move rfl) rfl ?_))))))
        (refine st (s_indexIN rfl rfl ?_) rfl ?_; omega)
        refine st (s_load rfl) rfl (st (s_assign rfl) rfl (st (s_assign rfl) rfl (Run.nil (pj_then (J_seq (J_reg (st (s_move rfl) rfl (st (s_len rfl) rfl (st (s_move rfl) rfl ?_)))))))))
        refine Run.nil (pj_then (J_block ?_))
        rw [ex]
        skip
        refine J_loop (σ := Nat) (fun j => [(2, slT .one m.length (fun i => one (.int .i64 (m.getD i 0)))), (3, one (.pointer (some ⟨ba, 0, none⟩))), (6, one (.pointer (some ⟨b6, 0, none⟩))), (9, one (.pointer (some ⟨b, 0, none⟩))), (10, one (.int .i64 (i : Nat))), (11, one (.int .i64 (x : Nat))), (39, slT .one l.length (fun i => one (.int .i64 (l.getD i 0)))), (40, one (.int .i64 l.length)), (41, one (.int .i64 (i : Nat))), (46, slT .one m.length (fun i => one (.int .i64 (m.getD i 0)))), (47, one (.int .i64 m.length)), (48, one (.int .i64 (j : Nat)))])
          (fun j => [boxO b 28 3 [(0, .one, one (.int .i64 l.length)), (1, .one, one (.int .i64 m.length)), (2, .one, one (slV (some bo) l.length cap1))], outO (some bo) cap1 l.length m.length bs, ownR m.length bs (fill2 (pickF l m F) i j),
          boxO b6 28 3 (zeroC #[Value.int IntKind.i64 0, Value.int IntKind.i64 0, Value.slice none 0 0] [(0, Lay.one), (1, Lay.one), (2, Lay.one)]),
          boxO ba 28 3 [(0, .one, one (.int .i64 r)), (1, .one, one (.int .i64 c)), (2, .one, slT .one r (fun i => rowF c (F i)))]])
          (fun j => j ≤ m.length) (fun j => m.length - j) 0 (Nat.zero_le _) (by repeat (first | exact SubG.nil | refine SubG.cons rfl (VT.le_refl _) ?_ | (refine SubG.cons rfl (one_le ?_) ?_; (congr 1; first | omega | (simp; omega) | simp)))) (SubM.refl _) (fun j hj => ?_)
        refine J_seq (J_reg (st (s_lt rfl rfl) rfl (Run.nil (pj_then (J_seq ?_)))))
        refine J_cond rfl (fun hc2 => ?_) (fun hc2 => ?_) <;> simp only [decide_eq_true_eq, decide_eq_false_iff_not, Int.ofNat_lt] at hc2
        · obtain ⟨y, hy, ey⟩ := getD_cast h2 hc2
          refine J_skip (pj_then (J_seq (J_block (J_seq (J_reg (st (s_move rfl) rfl ?_))))))
          (refine st (s_indexIN rfl rfl ?_) rfl ?_; omega)
          refine st (s_load rfl) rfl (st (s_assign rfl) rfl (st (s_assign rfl) rfl (Run.nil (pj_then ?_))))
          rw [ey]
          skip
          refine J_regd 16 mixed (by kernel_rfl) (by decide) ?_
          unfold rowF
          refine st (s_fieldAddr rfl) rfl (st (s_loadB 0 rfl rfl rfl) rfl (st (s_move rfl) rfl ?_))
          (refine st (s_indexON rfl rfl ?_) rfl ?_; omega)
          (refine st (s_loadE 1 rfl rfl ?_) rfl ?_; omega)
          refine st (s_move rfl) rfl (st (s_fieldAddr rfl) rfl (st (s_loadB 4 rfl rfl rfl) rfl (st (s_move rfl) rfl ?_)))
          (refine st (s_indexIN rfl rfl ?_) rfl ?_; omega)
          refine st (s_load rfl) rfl (st (s_move rfl) rfl ?_)
          (refine st (s_indexIN rfl rfl ?_) rfl ?_; omega)
          refine st (s_load rfl) rfl ?_
          refine st (s_callk (own_ok (F x y) (hF x y)) rfl ⟨VT.le_refl _, trivial⟩) rfl ?_
          (refine st (s_indexON rfl rfl ?_) rfl ?_; omega)
          refine Run.nil ?_
          (refine a_storeR 2 rfl rfl rfl (getq ?_) ?_ rfl ?_; omega; omega)
          refine Run.nil (pn_block (pj_then (J_reg ?_)))
          (refine st (s_add rfl rfl (wrap_i64 ?_ ?_)) rfl ?_; omega; omega)
          refine st (s_move rfl) rfl (Run.nil ?_)
          refine pj_round (s := j) (j + 1) (show _ from by omega) (by show m.length - (j + 1) < m.length - j; omega) (by repeat (first | exact SubG.nil | refine SubG.cons rfl (VT.le_refl _) ?_ | (refine SubG.cons rfl (one_le ?_) ?_; (congr 1; first | omega | (simp; omega) | simp)))) (.keep (Own.le_refl _) (.keep (Own.le_refl _) (.keep (upd_fill2 _ ?_) (SubM.refl _))))
          unfold pickF; rw [ex, ey]; rfl
        · have hjm : j = m.length := by omega
          subst hjm
          refine J_exit (px_then (px_then (px_block (pn_block (pj_then (J_reg ?_))))))
          (refine st (s_add rfl rfl (wrap_i64 ?_ ?_)) rfl ?_; omega; omega)
          refine st (s_move rfl) rfl (Run.nil ?_)
          exact pj_round (s := i) (i + 1) (show _ from by omega) (by show l.length - (i + 1) < l.length - i; omega) (by repeat (first | exact SubG.nil | refine SubG.cons rfl (VT.le_refl _) ?_ | (refine SubG.cons rfl (one_le ?_) ?_; (congr 1; first | omega | (simp; omega) | simp)))) (.keep (Own.le_refl _) (.keep (Own.le_refl _) (.keep next_fill2 (SubM.refl _))))
      · have hin : i = l.length := by omega
        subst hin
        refine J_exit (px_then (px_then (px_block (pj_then (J_seq (J_reg (st (s_loadW 0 rfl rfl) rfl (a_storeW 3 rfl rfl rfl rfl (st (s_assign rfl) rfl ?_)))))))))
        refine Run.nil (pj_then (J_ret ?_))
        have hperm : ∀ (x y z u t : Own), [x, y, z, u, t].Perm ([y, z] ++ [x, u, t]) := fun x y z u t => (List.Perm.swap y x _).trans (List.Perm.cons y (List.Perm.swap z x _))
        refine PJ_open [outO sv1 cap1 l.length m.length bs, ownR m.length bs (fill2 (pickF l m F) l.length 0)] (hperm _ _ _ _ _) (.keep (EntO.refl _) (.keep (EntO.box (newT_open hlen ⟨by simp, by simp, by simp⟩)) (.keep (EntO.refl _) .nil))) (EntG.refl _) ?_
        refine retc2 Tryz.results97 (.cellW 1 rfl rfl ?_) (.tmp rfl (one_le ?_))
        · rw [h2]; simp only [h1, Bool.or_self, Bool.not_false, if_true]; exact matF_le fun a b ha hb => by simp [fill2, ha]
        · rw [h2]; simp [h1]
  · refine sg0 rfl rfl rfl rfl (sg0 rfl rfl rfl rfl (sg0 rfl rfl rfl rfl (sg0 rfl rfl rfl rfl (sg0 rfl rfl rfl rfl (sg0 rfl rfl rfl rfl (st (s_pickT rfl rfl) rfl (Run.nil (pj_then ?_))))))))
    refine J_cond rfl (fun h2 => ?_) (fun h2 => ?_)
    · refine J_seq (J_reg (stB rfl rfl rfl (BuildK.nil (a_storeW 0 rfl rfl rfl rfl (st (s_assign rfl) rfl (Run.nil (pj_then (J_ret (pr_then ?_)))))))))
      refine retc2 Tryz.results97 (.cellW 0 rfl rfl ?_) (.tmp rfl (one_le ?_))
      · simp only [Bool.true_or, Bool.not_true, Bool.false_eq_true, if_false]; exact zero_mat _
      · simp
    · cases h2
end Tor
end
section
namespace Tor
open Go Go.RowKit Go.Proofs
def fillT (F : Nat → Nat → Int) (i j : Nat) : Nat → Nat → Int := fun q k => if k < i ∨ (k = i ∧ q < j) then F k q else 0
theorem upd_fillT {T : TypeId} {c : Nat} {bs : List Nat} {F : Nat → Nat → Int} {i j : Nat} :
    Own.le (rowsO T (.agg 2) c bs (upd2 (fun q k => bigT (fillT F i j q k)) j i (bigT (F i j)))) (rowsO T (.agg 2) c bs (fun q k => bigT (fillT F i (j + 1) q k))) := by
  refine rowsO_eq fun q k hq hk => ?_
  unfold upd2 fillT
  by_cases h : q = j ∧ k = i
  · obtain ⟨rfl, rfl⟩ := h; simp
  · rw [if_neg h]
    have e : (k < i ∨ k = i ∧ q < j + 1) ↔ (k < i ∨ k = i ∧ q < j) := by omega
    simp only [e]
attribute [local irreducible] Tor.J Tor.PJ Tor.StepO Tor.one Tor.slT Tor.ptrT Tor.aggT Tor.tupT Tor.exT Tor.andT Tor.eP Tor.boxO Tor.sliO Tor.slV Tor.VT.le Tor.Ret Tor.anyT
attribute [local irreducible] bigT Tor.rowsO
set_option maxHeartbeats 8000000 in
theorem rTranspose_ok (r c : Nat) (F : Nat → Nat → Int) (hr0 : r ≤ 1048576) (hc0 : c ≤ 1048576) : Ok Tryz.prog 23 [matF r c F] (matF c r (fun i j => F j i)) := by
  unfold matF
  refine Ok.enter Tryz.func23 rfl Tryz.ntmps23 rfl (fun w O => ?_)
  refine J_seq (J_reg ?_)
  refine a_boxS rfl rfl (ltN rfl) (fun b => ?_)
  refine a_allocS (T := 28) rfl rfl rfl (fun b => ?_)
  refine Run.nil (pj_then (J_seq (J_reg (st (s_fieldAddr rfl) rfl (st (s_loadB 1 rfl rfl rfl) rfl (st (s_fieldAddr rfl) rfl (st (s_loadB 1 rfl rfl rfl) rfl ?_)))))))
  refine a_callM (rNew_ok c r hc0 hr0) rfl ⟨VT.le_refl _, VT.le_refl _, trivial⟩ rfl rfl (fun s => ?_)
  obtain ⟨⟨bs, sv1, cap1⟩, hlen, hsv⟩ := s
  simp only at hlen hsv
  unfold newT
  refine a_allocS (T := 28) rfl rfl rfl (fun b => ?_)
  refine a_storeW 0 rfl rfl rfl rfl (Run.nil (pj_then (J_seq (J_seq (J_reg (st (s_assign rfl) rfl (Run.nil (pj_then (J_block ?_)))))))))
  rename_i b1 b2
  refine J_loop (σ := Nat) (fun i => [(1, one (.pointer (some ⟨b1, 0, none⟩))), (2, one (.pointer (some ⟨b2, 0, none⟩))), (3, one (.pointer (some ⟨b, 0, none⟩))), (4, one (.int .i64 (i : Nat)))])
    (fun i => [boxO b 28 3 [(0, .one, one (.int .i64 c)), (1, .one, one (.int .i64 r)), (2, .one, one (slV sv1 c cap1))], outO sv1 cap1 c r bs, ownR r bs (fillT F i 0), boxO b2 28 3 (zeroC #[Value.int IntKind.i64 0, Value.int IntKind.i64 0, Value.slice none 0 0] [(0, Lay.one), (1, Lay.one), (2, Lay.one)]), boxO b1 28 3 [(0, .one, one (.int .i64 r)), (1, .one, one (.int .i64 c)), (2, .one, slT .one r (fun i => rowF c (F i)))]])
    (fun i => i ≤ r) (fun i => r - i) 0 (Nat.zero_le _) (by repeat (first | exact SubG.nil | refine SubG.cons rfl (VT.le_refl _) ?_ | (refine SubG.cons rfl (one_le ?_) ?_; (congr 1; first | omega | (simp; omega) | simp)))) (.keep (Own.le_refl _) (.keep (Own.le_refl _) (.keep (ownR_le fun i j hi hj => by simp [fillT]) (SubM.refl _)))) (fun i hi => ?_)
  refine J_seq (J_seq (J_reg (st (s_move rfl) rfl (st (s_fieldAddr rfl) rfl (st (s_loadB 4 rfl rfl rfl) rfl (st (s_lt rfl rfl) rfl (Run.nil (pj_then ?_))))))))
  refine J_cond rfl (fun hc => ?_) (fun hc => ?_) <;> simp only [decide_eq_true_eq, decide_eq_false_iff_not, Int.ofNat_lt] at hc
  · refine J_skip (pj_then (J_seq (J_block (J_seq (J_reg (st (s_assign rfl) rfl (Run.nil (pj_then (J_block ?_)))))))))
    refine J_loop (σ := Nat) (fun j => [(1, one (.pointer (some ⟨b1, 0, none⟩))), (2, one (.pointer (some ⟨b2, 0, none⟩))), (3, one (.pointer (some ⟨b, 0, none⟩))), (4, one (.int .i64 (i : Nat))), (5, one (.int .i64 (j : Nat)))])
      (fun j => [boxO b 28 3 [(0, .one, one (.int .i64 c)), (1, .one, one (.int .i64 r)), (2, .one, one (slV sv1 c cap1))], outO sv1 cap1 c r bs, ownR r bs (fillT F i j), boxO b2 28 3 (zeroC #[Value.int IntKind.i64 0, Value.int IntKind.i64 0, Value.slice none 0 0] [(0, Lay.one), (1, Lay.one), (2, Lay.one)]), boxO b1 28 3 [(0, .one, one (.int .i64 r)), (1, .one, one (.int .i64 c)), (2, .one, slT .one r (fun i => rowF c (F i)))]])
      (fun j => j ≤ c) (fun j => c - j) 0 (Nat.zero_le _) (by repeat (first | exact SubG.nil | refine SubG.cons rfl (VT.le_refl _) ?_ | (refine SubG.cons rfl (one_le ?_) ?_; (congr 1; first | omega | (simp; omega) | simp)))) (SubM.refl _) (fun j hj => ?_)
    refine J_seq (J_seq (J_reg (st (s_move rfl) rfl (st (s_fieldAddr rfl) rfl (st (s_loadB 4 rfl rfl rfl) rfl (st (s_lt rfl rfl) rfl (Run.nil (pj_then ?_))))))))
    refine J_cond rfl (fun hc2 => ?_) (fun hc2 => ?_) <;> simp only [decide_eq_true_eq, decide_eq_false_iff_not, Int.ofNat_lt] at hc2
    · obtain ⟨bo, rfl⟩ := sv_some hsv (by omega)
      refine J_skip (pj_then (J_seq (J_block (J_regd 15 mixed (by kernel_rfl) (by decide) ?_))))
      unfold rowF
      refine st (s_fieldAddr rfl) rfl (st (s_loadB 0 rfl rfl rfl) rfl (st (s_move rfl) rfl ?_))
      (refine st (s_indexON rfl rfl ?_) rfl ?_; omega)
      (refine st (s_loadE 1 rfl rfl ?_) rfl ?_; omega)
      refine st (s_move rfl) rfl (st (s_fieldAddr rfl) rfl (st (s_loadB 4 rfl rfl rfl) rfl (st (s_move rfl) rfl ?_)))
      (refine st (s_indexIN rfl rfl ?_) rfl ?_; omega)
      refine st (s_load rfl) rfl (st (s_move rfl) rfl ?_)
      (refine st (s_indexIN rfl rfl ?_) rfl ?_; omega)
      refine st (s_load rfl) rfl ?_
      (refine st (s_indexON rfl rfl ?_) rfl ?_; omega)
      refine Run.nil ?_
      (refine a_storeR 2 rfl rfl rfl (getq ?_) ?_ rfl ?_; omega; omega)
      refine Run.nil (pn_block (pj_then (J_reg (st (s_move rfl) rfl ?_))))
      (refine st (s_add rfl rfl (wrap_i64 ?_ ?_)) rfl ?_; omega; omega)
      refine st (s_assign rfl) rfl (Run.nil ?_)
      exact pj_round (s := j) (j + 1) (show _ from by omega) (by show c - (j + 1) < c - j; omega) (by repeat (first | exact SubG.nil | refine SubG.cons rfl (VT.le_refl _) ?_ | (refine SubG.cons rfl (one_le ?_) ?_; (congr 1; first | omega | (simp; omega) | simp)))) (.keep (Own.le_refl _) (.keep (Own.le_refl _) (.keep upd_fillT (SubM.refl _))))
    · have hjm : j = c := by omega
      subst hjm
      refine J_exit (px_then (px_then (px_block (pn_block (pj_then (J_reg (st (s_move rfl) rfl ?_)))))))
      (refine st (s_add rfl rfl (wrap_i64 ?_ ?_)) rfl ?_; omega; omega)
      refine st (s_assign rfl) rfl (Run.nil ?_)
      refine pj_round (s := i) (i + 1) (show _ from by omega) (by show r - (i + 1) < r - i; omega) (by repeat (first | exact SubG.nil | refine SubG.cons rfl (VT.le_refl _) ?_ | (refine SubG.cons rfl (one_le ?_) ?_; (congr 1; first | omega | (simp; omega) | simp)))) (.keep (Own.le_refl _) (.keep (Own.le_refl _) (.keep (ownR_le fun q k hq hk => ?_) (SubM.refl _))))
      unfold fillT
      have hq' : q < j := by omega
      have e : (k < i ∨ k = i ∧ q < j) ↔ (k < i + 1 ∨ k = i + 1 ∧ q < 0) := by omega
      simp only [e]
  · have hin : i = r := by omega
    subst hin
    refine J_exit (px_then (px_then (px_block (pj_then (J_seq (J_reg (st (s_loadW 0 rfl rfl) rfl (a_storeW 3 rfl rfl rfl rfl (Run.nil ?_)))))))))
    refine pj_then (J_ret ?_)
    have hperm : ∀ (x y z u t : Own), [x, y, z, u, t].Perm ([y, z] ++ [x, u, t]) := fun x y z u t => (List.Perm.swap y x _).trans (List.Perm.cons y (List.Perm.swap z x _))
    refine PJ_open [outO sv1 cap1 c i bs, ownR i bs (fillT F i 0)] (hperm _ _ _ _ _) (.keep (EntO.refl _) (.keep (EntO.box (newT_open hlen ⟨by simp, by simp, by simp⟩)) (.keep (EntO.refl _) .nil))) (EntG.refl _) ?_
    refine retc1 Tryz.results23 (.cellW 1 rfl rfl ?_)
    exact matF_le fun a b ha hb => by simp [fillT, hb]
end Tor
end
section
namespace Tor
open Go Go.RowKit Go.Proofs
attribute [local irreducible] Tor.J Tor.PJ Tor.StepO Tor.one Tor.slT Tor.ptrT Tor.aggT Tor.tupT Tor.exT Tor.andT Tor.eP Tor.boxO Tor.sliO Tor.slV Tor.VT.le Tor.Ret Tor.anyT
attribute [local irreducible] bigT Tor.rowsO
set_option maxHeartbeats 8000000 in
theorem Transpose_ok (r c : Nat) (F : Nat → Nat → Int) (hr0 : r ≤ 1048576) (hc0 : c ≤ 1048576) (hF : ∀ i j, small (F i j)) : Ok Tryz.prog 45 [matF r c F] (matF c r (fun i j => F j i)) := by
  unfold matF
  refine Ok.enter Tryz.func45 rfl Tryz.ntmps45 rfl (fun w O => ?_)
  refine J_seq (J_reg ?_)
  refine a_boxS rfl rfl (ltN rfl) (fun b => ?_)
  refine a_allocS (T := 28) rfl rfl rfl (fun b => ?_)
  refine Run.nil (pj_then (J_seq (J_seq (J_reg (st (s_loadW 1 rfl rfl) rfl ?_)))))
  refine st (s_callk (matValidF_ok r c F) rfl ⟨VT.le_refl _, trivial⟩) rfl ?_
  refine st (s_not rfl) rfl (Run.nil (pj_then ?_))
  refine J_cond rfl (fun h => ?_) (fun h => ?_)
  · cases h
  · refine J_skip (pj_then (J_seq (J_reg (st (s_fieldAddr rfl) rfl (st (s_loadB 1 rfl rfl rfl) rfl (st (s_fieldAddr rfl) rfl (st (s_loadB 1 rfl rfl rfl) rfl ?_)))))))
    refine a_callM (New_ok c r hc0 hr0) rfl ⟨VT.le_refl _, VT.le_refl _, trivial⟩ rfl rfl (fun s => ?_)
    obtain ⟨⟨bs, sv1, cap1⟩, hlen, hsv⟩ := s
    simp only at hlen hsv
    unfold newT
    refine a_allocS (T := 28) rfl rfl rfl (fun b => ?_)
    refine a_storeW 0 rfl rfl rfl rfl (Run.nil (pj_then (J_seq (J_seq (J_reg (st (s_fieldAddr rfl) rfl (st (s_loadB 4 rfl rfl rfl) rfl (st (s_len rfl) rfl (st (s_move rfl) rfl ?_)))))))))
    refine Run.nil (pj_then (J_block ?_))
    rename_i b1 b2
    revert b
    intro b3
    refine J_loop (σ := Nat) (fun i => [(2, one (.pointer (some ⟨b2, 0, none⟩))), (3, one (.pointer (some ⟨b3, 0, none⟩))), (18, slT .one r (fun i => rowF c (F i))), (19, one (.int .i64 r)), (20, one (.int .i64 (i : Nat)))])
      (fun i => [boxO b3 28 3 [(0, .one, one (.int .i64 c)), (1, .one, one (.int .i64 r)), (2, .one, one (slV sv1 c cap1))], outO sv1 cap1 c r bs, ownR r bs (fillT F i 0), boxO b2 28 3 (zeroC #[Value.int IntKind.i64 0, Value.int IntKind.i64 0, Value.slice none 0 0] [(0, Lay.one), (1, Lay.one), (2, Lay.one)])])
      (fun i => i ≤ r) (fun i => r - i) 0 (Nat.zero_le _) (by repeat (first | exact SubG.nil | refine SubG.cons rfl (VT.le_refl _) ?_ | (refine SubG.cons rfl (one_le ?_) ?_; (congr 1; first | omega | (simp; omega) | simp)))) (.keep (Own.le_refl _) (.keep (Own.le_refl _) (.keep (ownR_le fun i j hi hj => by simp [fillT]) (.keep (Own.le_refl _) (.drop .nil))))) (fun i hi => ?_)
    refine J_seq (J_reg (st (s_lt rfl rfl) rfl (Run.nil (pj_then (J_seq ?_)))))
    refine J_cond rfl (fun hc => ?_) (fun hc => ?_) <;> simp only [decide_eq_true_eq, decide_eq_false_iff_not, Int.ofNat_lt] at hc
    · unfold rowF
      refine J_skip (pj_then (J_seq (J_block (J_seq (J_reg (st (s_move rfl) rfl ?_))))))
      (refine st (s_indexIN rfl rfl ?_) rfl ?_; omega)
      refine st (s_load rfl) rfl (st (s_assign rfl) rfl (st (s_assign rfl) rfl (Run.nil (pj_then (J_seq (J_reg (st (s_move rfl) rfl (st (s_len rfl) rfl (st (s_move rfl) rfl ?_)))))))))
      refine Run.nil (pj_then (J_block ?_))
      refine J_loop (σ := Nat) (fun j => [(2, one (.pointer (some ⟨b2, 0, none⟩))), (3, one (.pointer (some ⟨b3, 0, none⟩))), (18, slT .one r (fun i => slT (.agg 2) c (fun j => bigT (F i j)))), (19, one (.int .i64 r)), (20, one (.int .i64 (i : Nat))), (4, one (.int .i64 (i : Nat))), (25, slT (.agg 2) c (fun j => bigT (F i j))), (26, one (.int .i64 c)), (27, one (.int .i64 (j : Nat)))])
        (fun j => [boxO b3 28 3 [(0, .one, one (.int .i64 c)), (1, .one, one (.int .i64 r)), (2, .one, one (slV sv1 c cap1))], outO sv1 cap1 c r bs, ownR r bs (fillT F i j), boxO b2 28 3 (zeroC #[Value.int IntKind.i64 0, Value.int IntKind.i64 0, Value.slice none 0 0] [(0, Lay.one), (1, Lay.one), (2, Lay.one)])])
        (fun j => j ≤ c) (fun j => c - j) 0 (Nat.zero_le _) (by repeat (first | exact SubG.nil | refine SubG.cons rfl (VT.le_refl _) ?_ | (refine SubG.cons rfl (one_le ?_) ?_; (congr 1; first | omega | (simp; omega) | simp)))) (SubM.refl _) (fun j hj => ?_)
      refine J_seq (J_reg (st (s_lt rfl rfl) rfl (Run.nil (pj_then (J_seq ?_)))))
      refine J_cond rfl (fun hc2 => ?_) (fun hc2 => ?_) <;> simp only [decide_eq_true_eq, decide_eq_false_iff_not, Int.ofNat_lt] at hc2
      · obtain ⟨bo, rfl⟩ := sv_some hsv (by omega)
        refine J_skip (pj_then (J_seq (J_block (J_seq (J_reg (st (s_move rfl) rfl ?_))))))
        (refine st (s_indexIN rfl rfl ?_) rfl ?_; omega)
        refine st (s_load rfl) rfl ?_
        refine a_alloc (T := 43) rfl (ltN rfl) (fun b => ?_)
        refine st (s_assign rfl) rfl (a_storeB 0 rfl rfl rfl rfl rfl (leN rfl) rfl (Run.nil (pj_then (J_regd 9 mixed (by kernel_rfl) (by decide) (st (s_fieldAddr rfl) rfl (st (s_loadB 1 rfl rfl rfl) rfl (st (s_move rfl) rfl ?_)))))))
        (refine st (s_indexON rfl rfl ?_) rfl ?_; omega)
        (refine st (s_loadE 2 rfl rfl ?_) rfl ?_; omega)
        refine st (s_move rfl) rfl (st (s_loadB 0 rfl rfl rfl) rfl ?_)
        refine st (s_callk (own_ok (F i j) (hF i j)) rfl ⟨VT.le_refl _, trivial⟩) rfl ?_
        (refine st (s_indexON rfl rfl ?_) rfl ?_; omega)
        refine Run.nil ?_
        (refine a_storeR 3 rfl rfl rfl (getq ?_) ?_ rfl ?_; omega; omega)
        refine Run.nil (pn_block (pj_then (J_reg ?_)))
        (refine st (s_add rfl rfl (wrap_i64 ?_ ?_)) rfl ?_; omega; omega)
        refine st (s_move rfl) rfl (Run.nil ?_)
        exact pj_round (s := j) (j + 1) (show _ from by omega) (by show c - (j + 1) < c - j; omega) (by repeat (first | exact SubG.nil | refine SubG.cons rfl (VT.le_refl _) ?_ | (refine SubG.cons rfl (one_le ?_) ?_; (congr 1; first | omega | (simp; omega) | simp)))) (.drop (.keep (Own.le_refl _) (.keep (Own.le_refl _) (.keep upd_fillT (SubM.refl _)))))
      · have hjm : j = c := by omega
        subst hjm
        refine J_exit (px_then (px_then (px_block (pn_block (pj_then (J_reg ?_))))))
        (refine st (s_add rfl rfl (wrap_i64 ?_ ?_)) rfl ?_; omega; omega)
        refine st (s_move rfl) rfl (Run.nil ?_)
        refine pj_round (s := i) (i + 1) (show _ from by omega) (by show r - (i + 1) < r - i; omega) (by repeat (first | exact SubG.nil | refine SubG.cons rfl (VT.le_refl _) ?_ | (refine SubG.cons rfl (one_le ?_) ?_; (congr 1; first | omega | (simp; omega) | simp)))) (.keep (Own.le_refl _) (.keep (Own.le_refl _) (.keep (ownR_le fun q k hq hk => ?_) (SubM.refl _))))
        unfold fillT
        have hq' : q < j := by omega
        have e : (k < i ∨ k = i ∧ q < j) ↔ (k < i + 1 ∨ k = i + 1 ∧ q < 0) := by omega
        simp only [e]
    · have hin : i = r := by omega
      subst hin
      refine J_exit (px_then (px_then (px_block (pj_then (J_seq (J_reg (st (s_loadW 0 rfl rfl) rfl (a_storeW 3 rfl rfl rfl rfl (Run.nil ?_)))))))))
      refine pj_then (J_ret ?_)
      have hperm : ∀ (x y z u : Own), [x, y, z, u].Perm ([y, z] ++ [x, u]) := fun x y z u => (List.Perm.swap y x _).trans (List.Perm.cons y (List.Perm.swap z x _))
      refine PJ_open [outO sv1 cap1 c i bs, ownR i bs (fillT F i 0)] (hperm _ _ _ _) (.keep (EntO.refl _) (.keep (EntO.box (newT_open hlen ⟨by simp, by simp, by simp⟩)) .nil)) (EntG.refl _) ?_
      refine retc1 Tryz.results45 (.cellW 1 rfl rfl ?_)
      exact matF_le fun a b ha hb => by simp [fillT, hb]
end Tor
end
section
namespace Tor
open Go Go.RowKit Go.Proofs
attribute [local irreducible] Tor.J Tor.PJ Tor.StepO Tor.one Tor.slT Tor.ptrT Tor.aggT Tor.tupT Tor.exT Tor.andT Tor.eP Tor.boxO Tor.sliO Tor.slV Tor.VT.le Tor.Ret Tor.anyT
attribute [local irreducible] bigT
set_option maxHeartbeats 2000000 in
theorem rVector_ok (l : List Int) (n : Nat) (hn : n ≤ 16) : Ok Tryz.prog 10 [numT .i8 l, one (.int .i64 n)] (rowF n (dig l)) := by
  refine Ok.enter Tryz.func10 rfl Tryz.ntmps10 rfl (fun w O => ?_)
  refine J_seq (J_reg (st (s_assign rfl) rfl (Run.nil (pj_then (J_seq (J_reg (st (s_move rfl) rfl (st (s_move rfl) rfl ?_))))))))
  refine st (s_callk (rFilled_ok 1 n l (by decide) hn) rfl ⟨one_le rfl, VT.le_refl _, VT.le_refl _, trivial⟩) rfl ?_
  unfold matF
  refine st (s_field rfl rfl) rfl ?_
  (refine st (s_indexI rfl rfl ?_ ?_) rfl ?_; omega; omega)
  refine st (s_load rfl) rfl (st (s_assign rfl) rfl (Run.nil (pj_then (J_ret ?_))))
  refine retc1 Tryz.results10 (.tmp rfl ?_)
  unfold rowF
  refine slT_le' rfl fun j hj => ?_
  simp
end Tor
end
section
namespace Tor
open Go Go.RowKit Go.Proofs
def blenF : Nat → Nat → Nat
  | 0, _ => 0
  | f + 1, x => if x = 0 then 0 else blenF f (x / 2) + 1
def blen (x : Nat) : Nat := blenF 64 x
theorem blenF_spec : ∀ (f x : Nat), x < 2 ^ f → x < 2 ^ blenF f x ∧ (x = 0 → blenF f x = 0) ∧ (x ≠ 0 → 0 < blenF f x ∧ 2 ^ (blenF f x - 1) ≤ x) ∧ blenF f x ≤ f
  | 0, x, h => by simp at h; subst h; simp [blenF]
  | f + 1, x, h => by
    rw [blenF]
    split
    · rename_i h0; subst h0; simp
    · rename_i h0
      have h1 : x / 2 < 2 ^ f := by rw [Nat.pow_succ] at h; omega
      obtain ⟨i1, i2, i3, i4⟩ := blenF_spec f (x / 2) h1
      refine ⟨by rw [Nat.pow_succ]; omega, fun h => absurd h h0, fun _ => ⟨by omega, ?_⟩, by omega⟩
      rw [Nat.add_sub_cancel]
      by_cases h2 : x / 2 = 0
      · rw [i2 h2]; simp; omega
      · obtain ⟨j1, j2⟩ := i3 h2
        obtain ⟨m, hm⟩ : ∃ m, blenF f (x / 2) = m + 1 := ⟨blenF f (x / 2) - 1, by omega⟩
        rw [hm] at j2 ⊢
        rw [Nat.add_sub_cancel] at j2
        rw [Nat.pow_succ]; omega
theorem blen_lt {x : Nat} (h : x < 2 ^ 64) : x < 2 ^ blen x := (blenF_spec 64 x h).1
theorem blen_ge {x : Nat} (h : x < 2 ^ 64) (h0 : x ≠ 0) : 0 < blen x ∧ 2 ^ (blen x - 1) ≤ x := (blenF_spec 64 x h).2.2.1 h0
theorem blen_uniq {x n : Nat} (h : x < 2 ^ 64) (h1 : x < 2 ^ n) (h2 : n = 0 ∨ 2 ^ (n - 1) ≤ x) : blen x = n := by
  obtain ⟨i1, i2, i3, _⟩ := blenF_spec 64 x h
  show blenF 64 x = n
  by_cases h0 : x = 0
  · rw [i2 h0]
    rcases h2 with h2 | h2
    · exact h2.symm
    · subst h0; have := Nat.two_pow_pos (n - 1); omega
  · obtain ⟨j1, j2⟩ := i3 h0
    rcases Nat.lt_trichotomy (blenF 64 x) n with h3 | h3 | h3
    · have := Nat.pow_le_pow_right (n := 2) (by decide) (show blenF 64 x ≤ n - 1 by omega)
      rcases h2 with h2 | h2
      · omega
      · omega
    · exact h3
    · have := Nat.pow_le_pow_right (n := 2) (by decide) (show n ≤ blenF 64 x - 1 by omega)
      omega
theorem blen_le {x n : Nat} (h : x < 2 ^ n) (hn : n ≤ 64) : blen x ≤ n := by
  have hx : x < 2 ^ 64 := Nat.lt_of_lt_of_le h (Nat.pow_le_pow_right (by decide) hn)
  by_cases h0 : x = 0
  · have := (blenF_spec 64 x hx).2.1 h0
    unfold blen; omega
  · obtain ⟨j1, j2⟩ := blen_ge hx h0
    rcases Nat.lt_or_ge n (blen x) with h3 | h3
    · have := Nat.pow_le_pow_right (n := 2) (by decide) (show n ≤ blen x - 1 by omega)
      omega
    · exact h3
theorem blen_div {x k : Nat} (h : x < 2 ^ 64) (hk : 2 ^ k ≤ x) : blen x = k + blen (x / 2 ^ k) := by
  have hp := Nat.two_pow_pos k
  have hy : x / 2 ^ k < 2 ^ 64 := Nat.lt_of_le_of_lt (Nat.div_le_self _ _) h
  have hy0 : x / 2 ^ k ≠ 0 := by
    have := (Nat.le_div_iff_mul_le hp (x := 1) (y := x)).2 (by omega); omega
  obtain ⟨j1, j2⟩ := blen_ge hy hy0
  have j3 := blen_lt hy
  refine blen_uniq h ?_ (.inr ?_)
  · rw [Nat.pow_add]
    have := Nat.lt_mul_div_succ x hp
    exact Nat.lt_of_lt_of_le this (Nat.mul_le_mul_left _ j3)
  · have e : k + blen (x / 2 ^ k) - 1 = (blen (x / 2 ^ k) - 1) + k := by omega
    rw [e, Nat.pow_add]
    exact Nat.le_trans (Nat.mul_le_mul_right _ j2) (Nat.div_mul_le_self x (2 ^ k))
theorem tab_of {s : ByteArray} (h : ((List.range 256).all fun i => (s[i]?).map UInt8.toNat == some (blen i)) = true) {i : Nat} (hi : i < 256) : (s[i]?).map UInt8.toNat = some (blen i) := by
  have := List.all_eq_true.1 h i (List.mem_range.2 hi)
  simpa using this
attribute [local irreducible] Tor.J Tor.PJ Tor.StepO Tor.one Tor.slT Tor.ptrT Tor.aggT Tor.tupT Tor.exT Tor.andT Tor.eP Tor.boxO Tor.sliO Tor.slV Tor.VT.le Tor.Ret Tor.anyT
set_option maxHeartbeats 1000000 in
theorem Len32_ok (x : Nat) (hx : x < 4294967296) : Ok Tryz.prog 133 [one (.int .u32 x)] (one (.int .i64 (blen x))) := by
  refine Ok.enter Tryz.func133 rfl Tryz.ntmps133 rfl (fun w O => ?_)
  have key : ∀ y : Nat, y < 256 → blen y ≤ 8 := fun y hy => blen_le (n := 8) (by omega) (by decide)
  by_cases h1 : 65536 ≤ x
  · have e1 := blen_div (k := 16) (x := x) (by omega) (by omega)
    by_cases h2 : 256 ≤ x / 2 ^ 16
    · have e2 := blen_div (k := 8) (x := x / 2 ^ 16) (by omega) (by omega)
      have k2 := key (x / 2 ^ 16 / 2 ^ 8) (by omega)
      refine J_seq (J_reg (st (s_assign rfl) rfl (Run.nil (pj_then (J_seq (J_seq (J_reg (st (s_move rfl) rfl (st (sT (by omega) (s_ge rfl rfl)) rfl ?_)))))))))
      refine Run.nil (pj_then (J_cond1 rfl (J_seq (J_reg (st (s_move rfl) rfl (st (s_shrU (s := 16) rfl rfl (by decide)) rfl (st (s_assign rfl) rfl (Run.nil (pj_then ?_)))))))))
      refine J_reg (st (s_assign rfl) rfl (Run.nil (pj_then (J_seq (J_seq (J_reg (st (s_move rfl) rfl (st (sT (by omega) (s_ge rfl rfl)) rfl (Run.nil ?_)))))))))
      refine pj_then (J_cond1 rfl (J_seq (J_reg (st (s_move rfl) rfl (st (s_shrU (s := 8) rfl rfl (by decide)) rfl (st (s_assign rfl) rfl (Run.nil (pj_then (J_reg ?_)))))))))
      refine st (s_move rfl) rfl (st (s_add rfl rfl (wrap_i64 (by omega) (by omega))) rfl (st (s_assign rfl) rfl (Run.nil (pj_then (J_seq (J_reg (st (s_move rfl) rfl (st (s_move rfl) rfl (st (s_toU8K rfl (by omega) (by omega)) rfl ?_)))))))))
      refine st (s_indexStr (by kernel_rfl) rfl rfl (tab_of (by decide +kernel) (by omega))) rfl (st (s_toI64 rfl (by omega) (by omega)) rfl (st (s_add rfl rfl (wrap_i64 (by omega) (by omega))) rfl (st (s_assign rfl) rfl (Run.nil (pj_then (J_ret ?_))))))
      refine retc1 Tryz.results133 (.tmp rfl (one_le (by congr 1; omega)))
    · have k2 := key (x / 2 ^ 16) (by omega)
      refine J_seq (J_reg (st (s_assign rfl) rfl (Run.nil (pj_then (J_seq (J_seq (J_reg (st (s_move rfl) rfl (st (sT (by omega) (s_ge rfl rfl)) rfl ?_)))))))))
      refine Run.nil (pj_then (J_cond1 rfl (J_seq (J_reg (st (s_move rfl) rfl (st (s_shrU (s := 16) rfl rfl (by decide)) rfl (st (s_assign rfl) rfl (Run.nil (pj_then ?_)))))))))
      refine J_reg (st (s_assign rfl) rfl (Run.nil (pj_then (J_seq (J_seq (J_reg (st (s_move rfl) rfl (st (sF (by omega) (s_ge rfl rfl)) rfl (Run.nil ?_)))))))))
      refine pj_then (J_cond0 rfl (J_skip (pj_then (J_seq (J_reg (st (s_move rfl) rfl (st (s_move rfl) rfl (st (s_toU8K rfl (by omega) (by omega)) rfl (st (s_indexStr (by kernel_rfl) rfl rfl (tab_of (by decide +kernel) (by omega))) rfl ?_)))))))))
      refine st (s_toI64 rfl (by omega) (by omega)) rfl (st (s_add rfl rfl (wrap_i64 (by omega) (by omega))) rfl (st (s_assign rfl) rfl (Run.nil (pj_then (J_ret ?_)))))
      refine retc1 Tryz.results133 (.tmp rfl (one_le (by congr 1; omega)))
  · by_cases h2 : 256 ≤ x
    · have e2 := blen_div (k := 8) (x := x) (by omega) (by omega)
      have k2 := key (x / 2 ^ 8) (by omega)
      refine J_seq (J_reg (st (s_assign rfl) rfl (Run.nil (pj_then (J_seq (J_seq (J_reg (st (s_move rfl) rfl (st (sF (by omega) (s_ge rfl rfl)) rfl ?_)))))))))
      refine Run.nil (pj_then (J_cond0 rfl (J_skip (pj_then (J_seq (J_seq (J_reg (st (s_move rfl) rfl (st (sT (by omega) (s_ge rfl rfl)) rfl ?_)))))))))
      refine Run.nil (pj_then (J_cond1 rfl (J_seq (J_reg (st (s_move rfl) rfl (st (s_shrU (s := 8) rfl rfl (by decide)) rfl (st (s_assign rfl) rfl (Run.nil (pj_then ?_)))))))))
      refine J_reg (st (s_move rfl) rfl (st (s_add rfl rfl (wrap_i64 (by omega) (by omega))) rfl (st (s_assign rfl) rfl (Run.nil (pj_then (J_seq (J_reg (st (s_move rfl) rfl (st (s_move rfl) rfl ?_)))))))))
      refine st (s_toU8K rfl (by omega) (by omega)) rfl (st (s_indexStr (by kernel_rfl) rfl rfl (tab_of (by decide +kernel) (by omega))) rfl (st (s_toI64 rfl (by omega) (by omega)) rfl (st (s_add rfl rfl (wrap_i64 (by omega) (by omega))) rfl (st (s_assign rfl) rfl (Run.nil (pj_then (J_ret ?_)))))))
      refine retc1 Tryz.results133 (.tmp rfl (one_le (by congr 1; omega)))
    · have k2 := key x (by omega)
      refine J_seq (J_reg (st (s_assign rfl) rfl (Run.nil (pj_then (J_seq (J_seq (J_reg (st (s_move rfl) rfl (st (sF (by omega) (s_ge rfl rfl)) rfl ?_)))))))))
      refine Run.nil (pj_then (J_cond0 rfl (J_skip (pj_then (J_seq (J_seq (J_reg (st (s_move rfl) rfl (st (sF (by omega) (s_ge rfl rfl)) rfl ?_)))))))))
      refine Run.nil (pj_then (J_cond0 rfl (J_skip (pj_then (J_seq (J_reg (st (s_move rfl) rfl (st (s_move rfl) rfl (st (s_toU8K rfl (by omega) (by omega)) rfl ?_)))))))))
      refine st (s_indexStr (by kernel_rfl) rfl rfl (tab_of (by decide +kernel) (by omega))) rfl (st (s_toI64 rfl (by omega) (by omega)) rfl (st (s_add rfl rfl (wrap_i64 (by omega) (by omega))) rfl (st (s_assign rfl) rfl (Run.nil (pj_then (J_ret ?_))))))
      refine retc1 Tryz.results133 (.tmp rfl (one_le (by congr 1; omega)))
set_option maxHeartbeats 1000000 in
theorem LZ32_ok (x : Nat) (hx : x < 4294967296) : Ok Tryz.prog 128 [one (.int .u32 x)] (one (.int .i64 ((32 - blen x : Nat) : Int))) := by
  have h := blen_le (n := 32) (x := x) (by omega) (by decide)
  refine Ok.enter Tryz.func128 rfl Tryz.ntmps128 rfl (fun w O => ?_)
  refine J_seq (J_reg (st (s_assign rfl) rfl (Run.nil (pj_then (J_seq (J_reg (st (s_move rfl) rfl ?_)))))))
  refine st (s_callk (Len32_ok _ (by assumption)) rfl ⟨VT.le_refl _, trivial⟩) rfl ?_
  refine st (s_sub rfl rfl (wrap_i64 (by omega) (by omega))) rfl (st (s_assign rfl) rfl (Run.nil (pj_then (J_ret ?_))))
  refine retc1 Tryz.results128 (.tmp rfl (one_le (by congr 1; omega)))
theorem pow32 (i : Nat) : 4294967296 ^ i = 2 ^ (32 * i) := by rw [Nat.pow_mul]
theorem lv_take_lt {l : List Nat} (h : Limbs l) (i : Nat) : lv (l.take i) < 2 ^ (32 * i) := by
  have h1 := lv_lt (h.take i)
  rw [← pow32]
  exact Nat.lt_of_lt_of_le h1 (Nat.pow_le_pow_right (by decide) (by simp; omega))
theorem word_bound {d e i : Nat} (hd : d < 4294967296) (hb : e < 2 ^ (32 * i)) (hi : i ≤ 1) : d * 2 ^ (32 * i) + e < 18446744073709551616 := by
  rcases (show i = 0 ∨ i = 1 by omega) with rfl | rfl
  · rw [show 2 ^ (32 * 0) = 1 by simp] at hb ⊢; omega
  · rw [show 2 ^ (32 * 1) = 4294967296 by simp] at hb ⊢
    have h1 : d * 4294967296 + e < (d + 1) * 4294967296 := by rw [Nat.add_mul]; exact Nat.add_lt_add_left (by rw [Nat.one_mul]; exact hb) _
    exact Nat.lt_of_lt_of_le h1 (Nat.le_trans (Nat.mul_le_mul_right _ hd) (Nat.le_of_eq rfl))
set_option maxHeartbeats 1000000 in
theorem word_ok (l : List Nat) (hl : Limbs l) (h2 : l.length ≤ 2) : Ok Tryz.prog 121 [limT l] (one (.int .u64 (lv l))) := by
  refine Ok.enter Tryz.func121 rfl Tryz.ntmps121 rfl (fun w O => ?_)
  refine J_seq (J_reg (st (s_assign rfl) rfl (Run.nil (pj_then (J_seq (J_reg (st (s_assign rfl) rfl (Run.nil (pj_then ?_)))))))))
  refine J_seq (J_seq (J_reg (st (s_move rfl) rfl (st (s_len rfl) rfl (st (s_move rfl) rfl (Run.nil (pj_then (J_block (J_sub (Γ' := [(2, _), (3, _), (6, _), (7, _), (8, _)]) (SubG.cons rfl (VT.le_refl _) (SubG.cons rfl (VT.le_refl _) (SubG.cons rfl (VT.le_refl _) (SubG.cons rfl (VT.le_refl _) (SubG.cons rfl (VT.le_refl _) (SubG.nil)))))) (SubM.refl _) ?_)))))))))
  refine J_loopA (σ := Nat) (Γk := [(2, _), (6, _), (7, _)]) (SubG.cons rfl (VT.le_refl _) (SubG.cons rfl (VT.le_refl _) (SubG.cons rfl (VT.le_refl _) (SubG.nil)))) (fun i => [(8, one (.int .i64 (i : Nat))), (3, one (.int .u64 (lv (l.take i))))]) (fun i M0 => M0) (fun i => i ≤ l.length) (fun i => l.length - i) (0) (Nat.zero_le _) (by repeat (first | exact SubG.refl _ | exact SubG.nil | refine SubG.cons rfl (VT.le_refl _) ?_ | (refine SubG.cons rfl (one_le ?_) ?_; (congr 1; first | omega | (simp; omega) | simp)))) (.nil) (fun i hi => ?_)
  refine J_norm (Γ' := [(8, _), (3, _), (2, _), (6, _), (7, _)]) (M' := []) rfl rfl (J_seq (J_reg (st (s_lt rfl rfl) rfl (Run.nil (pj_then (J_seq ?_))))))
  refine J_if rfl (fun hc => ?_) (fun hc => ?_)
  · have hi1 : i ≤ 1 := by omega
    have hd := getD_lt hl i
    have hb := lv_take_lt hl i
    have hab := word_bound hd hb hi1
    have ha : l.getD i 0 * 2 ^ (32 * i) < 18446744073709551616 := Nat.lt_of_le_of_lt (Nat.le_add_right _ _) hab
    have hn : lv (l.take i) + l.getD i 0 * 2 ^ (32 * i) = lv (l.take (i + 1)) := by
      rw [lv_take_succ (by omega), pow32, Nat.mul_comm]
    refine J_skip (pj_then (J_seq (J_block (J_seq (J_reg (st (s_move rfl) rfl (st (s_indexIN rfl rfl (by omega)) rfl (st (s_load rfl) rfl (st (s_assign rfl) rfl ?_)))))))))
    refine st (s_assign rfl) rfl (Run.nil (pj_then (J_reg (st (s_move rfl) rfl (st (s_move rfl) rfl (st (s_toU64 rfl (by omega)) rfl (st (s_move rfl) rfl (st (s_mulN 32 _ rfl rfl (by omega)) rfl (st (s_shlU rfl rfl (by omega) (by omega)) rfl ?_)))))))))
    refine st (s_orS rfl rfl (by omega) (by omega)) rfl (st (s_assign rfl) rfl (Run.nil (pn_block (pj_then (J_reg (st (s_addN _ 1 rfl rfl (by omega)) rfl (st (s_move rfl) rfl (Run.nil ?_))))))))
    rw [hn]
    refine pj_roundM (i + 1) (by omega) (by omega) (by repeat (first | exact SubG.refl _ | exact SubG.nil | refine SubG.cons rfl (VT.le_refl _) ?_ | (refine SubG.cons rfl (one_le ?_) ?_; (congr 1; first | omega | (simp; omega) | simp)))) (.nil)
  · have e : i = l.length := by omega
    subst e
    rw [List.take_length]
    refine J_exit (px_then (px_then (px_block (pj_then (J_seq (J_reg (st (s_move rfl) rfl (st (s_assign rfl) rfl (Run.nil ?_)))))))))
    refine pj_then (J_ret ?_)
    refine retc1 Tryz.results121 (.tmp rfl (VT.le_refl _))
end Tor
end
section
namespace Tor
open Go Go.RowKit Go.Proofs
structure ShortR (l : List Nat) (d : Nat) (s : List Nat × Nat × Nat) : Prop where
  le : s.2.1 ≤ l.length
  len : s.1.length = l.length
  lim : Limbs s.1
  r : s.2.2 < d
  zero : ∀ k, k < s.2.1 → s.1.getD k 0 = 0
  val : lv l = lv (l.take s.2.1) + (lv s.1 * d + 4294967296 ^ s.2.1 * s.2.2)
theorem ShortR.start {l : List Nat} {d : Nat} (hd : 0 < d) : ShortR l d (List.replicate l.length 0, l.length, 0) :=
  ⟨Nat.le_refl _, by simp, Limbs.replicate _, hd, fun k _ => getD_replicate0 _ _, by simp [lv_replicate]⟩
theorem ShortR.bound {x r d : Nat} (hx : x < 4294967296) (hr : r < d) (hd : d < 4294967296) : r * 4294967296 + x < 18446744073709551616 ∧ (r * 4294967296 + x) / d < 4294967296 := by
  have h1 : r * 4294967296 + x < d * 4294967296 := by omega
  exact ⟨by omega, Nat.div_lt_of_lt_mul h1⟩
theorem ShortR.step {l : List Nat} {d : Nat} {z : List Nat} {n r : Nat} (h : ShortR l d (z, n + 1, r)) (hl : Limbs l) (hd : d < 4294967296) :
    ShortR l d (z.set n ((r * 4294967296 + l.getD n 0) / d), n, (r * 4294967296 + l.getD n 0) % d) := by
  have hn : n < l.length := h.le
  have hz : n < z.length := by have := h.len; simp only at this; omega
  have hx := getD_lt hl n
  have hr : r < d := h.r
  have hb := ShortR.bound hx hr hd
  have h0 : z.getD n 0 = 0 := h.zero n (Nat.lt_succ_self n)
  have hs := lv_set (l := z) (v := (r * 4294967296 + l.getD n 0) / d) hz
  rw [h0, Nat.mul_zero, Nat.add_zero] at hs
  refine ⟨Nat.le_of_lt hn, by rw [List.length_set]; exact h.len, Limbs.set h.lim hb.2, Nat.mod_lt _ (by omega), fun k hk => ?_, ?_⟩
  · simp only at hk ⊢
    rw [getD_setL hz, if_neg (by omega)]; exact h.zero k (Nat.lt_succ_of_lt hk)
  · have hv : lv l = lv (l.take (n + 1)) + (lv z * d + 4294967296 ^ (n + 1) * r) := h.val
    simp only
    rw [hs, hv, lv_take_succ hn]
    have e := Nat.div_add_mod (r * 4294967296 + l.getD n 0) d
    generalize (r * 4294967296 + l.getD n 0) / d = q at *
    generalize (r * 4294967296 + l.getD n 0) % d = m at *
    generalize l.getD n 0 = x at *
    rw [Nat.pow_succ]
    generalize 4294967296 ^ n = B at *
    have e2 : B * (d * q + m) = B * (r * 4294967296 + x) := by rw [e]
    have e3 : (lv z + B * q) * d = lv z * d + B * (d * q) := by rw [Nat.add_mul, Nat.mul_assoc, Nat.mul_comm q d]
    have e4 : B * 4294967296 * r = B * (r * 4294967296) := by rw [Nat.mul_assoc, Nat.mul_comm r]
    rw [e3, e4]
    rw [Nat.mul_add, Nat.mul_add] at e2
    omega
theorem ShortR.finish {l : List Nat} {d : Nat} {z : List Nat} {r : Nat} (h : ShortR l d (z, 0, r)) : lv z = lv l / d ∧ r = lv l % d := by
  have hv : lv l = lv (l.take 0) + (lv z * d + 4294967296 ^ 0 * r) := h.val
  have hr : r < d := h.r
  have e : lv l = lv z * d + r := by simpa [lv] using hv
  rw [e]
  constructor
  · rw [Nat.mul_comm, Nat.mul_add_div (by omega), Nat.div_eq_of_lt hr]; rfl
  · rw [Nat.mul_comm, Nat.mul_add_mod, Nat.mod_eq_of_lt hr]
theorem lim_set {b : Option Nat} {T : TypeId} {n cap : Nat} {z : List Nat} {k v v' : Nat} (hk : k < z.length) (hv : v' = v) : Own.le (sliO b T .one n cap (upd (fun q => one (.int .u32 (z.getD q 0 : Nat))) k (one (.int .u32 (v' : Nat))))) (sliO b T .one n cap (fun q => one (.int .u32 ((z.set k v).getD q 0 : Nat)))) := by
  subst hv
  exact sliO_eq (fun q _ => by unfold upd; rw [getD_setL hk]; split <;> rfl)
attribute [local irreducible] Tor.J Tor.PJ Tor.StepO Tor.one Tor.slT Tor.ptrT Tor.aggT Tor.tupT Tor.exT Tor.andT Tor.eP Tor.boxO Tor.sliO Tor.slV Tor.VT.le Tor.Ret Tor.anyT
set_option maxHeartbeats 1000000 in
theorem short_ok (l : List Nat) (d : Nat) (hl : Limbs l) (h1 : l.length ≤ 1099511627776) (hd0 : 0 < d) (hd : d < 4294967296) : Ok Tryz.prog 127 [limT l, one (.int .u32 (d : Nat))] (tupT [natT (lv l / d), one (.int .u32 ((lv l % d : Nat) : Int))]) := by
  refine Ok.enter Tryz.func127 rfl Tryz.ntmps127 rfl (fun w O => ?_)
  refine J_seq (J_reg (st (s_assign rfl) rfl (st (s_assign rfl) rfl (Run.nil (pj_then (J_seq (J_reg (st (s_move rfl) rfl (st (s_len rfl) rfl ?_)))))))))
  refine a_makeSlice l.length l.length rfl rfl rfl rfl (Nat.le_refl _) rfl rfl (by omega) rfl rfl (fun bz => ?_)
  refine st (s_assign rfl) rfl (Run.nil (pj_then (J_seq (J_reg (st (s_assign rfl) rfl (Run.nil (pj_then (J_seq (J_seq ?_)))))))))
  refine J_reg (st (s_move rfl) rfl (st (s_len rfl) rfl (st (s_sub rfl rfl (wrap_i64 (by omega) (by omega))) rfl (st (s_assign rfl) rfl (Run.nil (pj_then (J_block (J_sub (Γ' := [(0, _), (1, _), (4, _), (5, _), (6, _), (7, _), (8, _)]) (SubG.cons rfl (VT.le_refl _) (SubG.cons rfl (VT.le_refl _) (SubG.cons rfl (VT.le_refl _) (SubG.cons rfl (VT.le_refl _) (SubG.cons rfl (VT.le_refl _) (SubG.cons rfl (VT.le_refl _) (SubG.cons rfl (VT.le_refl _) (SubG.nil)))))))) (SubM.refl _) ?_))))))))
  refine J_loopA (σ := List Nat × Nat × Nat) (Γk := [(0, _), (1, _), (4, _), (5, _), (6, _)]) (SubG.cons rfl (VT.le_refl _) (SubG.cons rfl (VT.le_refl _) (SubG.cons rfl (VT.le_refl _) (SubG.cons rfl (VT.le_refl _) (SubG.cons rfl (VT.le_refl _) (SubG.nil)))))) (fun s => [(8, one (.int .i64 ((s.2.1 : Nat) - 1 : Int))), (7, one (.int .u64 (s.2.2 : Nat)))]) (fun s M0 => (M0.set 0 (sliO (some bz) 110 .one l.length l.length (fun q => one (.int .u32 (s.1.getD q 0 : Nat)))))) (fun s => ShortR l d s) (fun s => s.2.1) ((List.replicate l.length 0, l.length, 0)) (ShortR.start hd0) (by repeat (first | exact SubG.refl _ | exact SubG.nil | refine SubG.cons rfl (VT.le_refl _) ?_ | (refine SubG.cons rfl (one_le ?_) ?_; (congr 1; first | omega | (simp; omega) | simp)))) (.keep (sliO_eq (fun q _ => by rw [getD_replicate0]; rfl)) (.nil)) (fun s hs => ?_)
  refine J_norm (Γ' := [(8, _), (7, _), (0, _), (1, _), (4, _), (5, _), (6, _)]) (M' := [_]) rfl rfl ?_
  obtain ⟨z, n, r⟩ := s
  dsimp only at hs ⊢
  refine J_seq (J_seq (J_reg (st (s_move rfl) rfl (st (s_ge rfl rfl) rfl (Run.nil (pj_then ?_))))))
  cases n with
  | zero =>
    obtain ⟨f1, f2⟩ := hs.finish
    have hlen : z.length = l.length := hs.len
    have hr : r < d := hs.r
    rw [← f1, ← f2]
    refine J_condF rfl (by omega) (J_exit (px_then (px_then (px_block (pj_then (J_seq (J_reg (st (s_move rfl) rfl (st (s_move rfl) rfl ?_)))))))))
    refine st (s_toU32 rfl) rfl (st (s_assign rfl) rfl (st (s_assign rfl) rfl (Run.nil (pj_then (J_ret (PJ_freeze (t := 4) (i := 0) rfl rfl ?_))))))
    refine retc2 Tryz.results127 (.tmp rfl (VT.le_trans (slT_le' (m := z.length) (ψ := fun i => one (.int .u32 (z.getD i 0 : Nat))) hlen.symm (fun q hq => rfl)) (natT_of (l := z) hs.lim rfl))) (.tmp rfl (one_le (by congr 1; omega)))
  | succ n =>
    have hx := getD_lt hl n
    have hr : r < d := hs.r
    have hb := ShortR.bound hx hr hd
    have hst := hs.step hl hd
    have hn : n < l.length := hs.le
    have hzn : n < z.length := by have := hs.len; dsimp only at this; omega
    have en : ((n + 1 : Nat) : Int) - 1 = (n : Nat) := by omega
    rw [en]
    refine J_condT rfl (by omega) (J_skip (pj_then (J_seq (J_block (J_seq (J_reg (st (s_move rfl) rfl (st (s_shlU (s := 32) rfl rfl (by omega) (by omega)) rfl (st (s_move rfl) rfl ?_)))))))))
    refine st (s_move rfl) rfl (st (s_indexIN rfl rfl (by omega)) rfl (st (s_load rfl) rfl (st (s_toU64 rfl (by omega)) rfl (st (s_orHL rfl rfl (by omega) (by omega)) rfl (st (s_assign rfl) rfl (Run.nil (pj_then (J_seq (J_reg ?_)))))))))
    refine st (s_move rfl) rfl (st (s_move rfl) rfl (st (s_move rfl) rfl (st (s_move rfl) rfl (st (s_toU64 rfl (by omega)) rfl (st (s_quoU rfl rfl (by omega) (by omega)) rfl (st (s_toU32 rfl) rfl (st (s_indexON rfl rfl (by omega)) rfl ?_)))))))
    (refine a_storeE 0 rfl rfl rfl ?_ rfl ?_; omega)
    refine Run.nil (pj_then (J_reg (st (s_move rfl) rfl (st (s_move rfl) rfl (st (s_toU64 rfl (by omega)) rfl (st (s_remN _ rfl rfl rfl (by omega)) rfl (st (s_assign rfl) rfl (Run.nil (pn_block ?_)))))))))
    refine pj_then (J_reg (st (s_move rfl) rfl (st (s_sub rfl rfl (wrap_i64 (by omega) (by omega))) rfl (st (s_assign rfl) rfl (Run.nil ?_)))))
    refine pj_roundM ((z.set n ((r * 4294967296 + l.getD n 0) / d), n, (r * 4294967296 + l.getD n 0) % d)) (hst) (by (simp only []; omega)) (by repeat (first | exact SubG.refl _ | exact SubG.nil | refine SubG.cons rfl (VT.le_refl _) ?_ | (refine SubG.cons rfl (one_le ?_) ?_; (congr 1; first | omega | (simp; omega) | simp)))) (.keep (lim_set hzn (Nat.mod_eq_of_lt hb.2)) (.nil))
end Tor
end
section
namespace Tor
open Go Go.RowKit Go.Proofs
structure ShiftR (l : List Nat) (s : Nat) (p : List Nat × Nat × Nat) : Prop where
  le : p.2.1 ≤ l.length
  len : p.1.length = l.length + 1
  lim : Limbs p.1
  c : p.2.2 < 2 ^ s
  zero : ∀ k, p.2.1 ≤ k → p.1.getD k 0 = 0
  val : lv p.1 + 4294967296 ^ p.2.1 * p.2.2 = lv (l.take p.2.1) * 2 ^ s
theorem ShiftR.start (l : List Nat) (s : Nat) : ShiftR l s (List.replicate (l.length + 1) 0, 0, 0) :=
  ⟨Nat.zero_le _, by simp, Limbs.replicate _, Nat.two_pow_pos s, fun k _ => getD_replicate0 _ _, by simp [lv_replicate, lv]⟩
theorem ShiftR.bound {d c s : Nat} (hd : d < 4294967296) (hc : c < 2 ^ s) (hs : s < 32) : d * 2 ^ s + c < 4294967296 * 2 ^ s ∧ d * 2 ^ s + c < 18446744073709551616 ∧ d * 2 ^ s < 18446744073709551616 ∧ 2 ^ s < 4294967296 := by
  have h1 : (d + 1) * 2 ^ s ≤ 4294967296 * 2 ^ s := Nat.mul_le_mul_right _ hd
  have h2 : 2 ^ s ≤ 2 ^ 31 := Nat.pow_le_pow_right (by decide) (by omega)
  rw [Nat.add_mul, Nat.one_mul] at h1
  have h3 : (2 : Nat) ^ 31 = 2147483648 := rfl
  generalize d * 2 ^ s = x at *
  generalize 2 ^ s = y at *
  omega
theorem ShiftR.step {l : List Nat} {s : Nat} {z : List Nat} {i c : Nat} (h : ShiftR l s (z, i, c)) (hl : Limbs l) (hs : s < 32) (hi : i < l.length) :
    ShiftR l s (z.set i ((c + l.getD i 0 * 2 ^ s) % 4294967296), i + 1, (c + l.getD i 0 * 2 ^ s) / 4294967296) := by
  have hlen : z.length = l.length + 1 := h.len
  have hz : i < z.length := by omega
  have hc : c < 2 ^ s := h.c
  have hb := ShiftR.bound (getD_lt hl i) hc hs
  have h0 : z.getD i 0 = 0 := h.zero i (Nat.le_refl _)
  have hv : lv z + 4294967296 ^ i * c = lv (l.take i) * 2 ^ s := h.val
  have hse := lv_set (l := z) (v := (c + l.getD i 0 * 2 ^ s) % 4294967296) hz
  rw [h0, Nat.mul_zero, Nat.add_zero] at hse
  refine ⟨hi, by rw [List.length_set]; exact hlen, Limbs.set h.lim (Nat.mod_lt _ (by decide)), ?_, fun k hk => ?_, ?_⟩
  · show (c + l.getD i 0 * 2 ^ s) / 4294967296 < 2 ^ s
    exact Nat.div_lt_of_lt_mul (by omega)
  · simp only at hk ⊢
    rw [getD_setL hz, if_neg (by omega)]; exact h.zero k (by show i ≤ k; omega)
  · show lv (z.set i _) + 4294967296 ^ (i + 1) * _ = lv (l.take (i + 1)) * 2 ^ s
    dsimp only
    rw [hse, lv_take_succ hi, Nat.pow_succ, Nat.add_mul, ← hv]
    generalize l.getD i 0 = x at *
    generalize 2 ^ s = p at *
    have e := Nat.div_add_mod (c + x * p) 4294967296
    generalize (c + x * p) / 4294967296 = q at *
    generalize (c + x * p) % 4294967296 = m at *
    generalize 4294967296 ^ i = B at *
    have e2 : B * (4294967296 * q + m) = B * (c + x * p) := by rw [e]
    rw [Nat.mul_add, Nat.mul_add, ← Nat.mul_assoc, ← Nat.mul_assoc] at e2
    omega
theorem ShiftR.finish {l : List Nat} {s : Nat} {z : List Nat} {c : Nat} (h : ShiftR l s (z, l.length, c)) (hs : s < 32) :
    (z.set l.length c).length = l.length + 1 ∧ Limbs (z.set l.length c) ∧ lv (z.set l.length c) = lv l * 2 ^ s ∧ c < 4294967296 ∧ l.length < z.length := by
  have hlen : z.length = l.length + 1 := h.len
  have hc : c < 2 ^ s := h.c
  have hb := ShiftR.bound (d := 0) (by decide) hc hs
  have h0 : z.getD l.length 0 = 0 := h.zero _ (Nat.le_refl _)
  have hv : lv z + 4294967296 ^ l.length * c = lv (l.take l.length) * 2 ^ s := h.val
  have hse := lv_set (l := z) (k := l.length) (v := c) (by omega)
  rw [h0, Nat.mul_zero, Nat.add_zero] at hse
  rw [List.take_length] at hv
  exact ⟨by rw [List.length_set]; exact hlen, Limbs.set h.lim (by omega), by rw [hse, hv], by omega, by omega⟩
abbrev limF (z : List Nat) : Nat → VT := fun q => one (.int .u32 (z.getD q 0 : Nat))
theorem lim_setF {b : Option Nat} {T : TypeId} {n cap : Nat} {z : List Nat} {k v v' : Nat} (hk : k < z.length) (hv : v' = v) : Own.le (sliO b T .one n cap (upd (limF z) k (one (.int .u32 (v' : Nat))))) (sliO b T .one n cap (limF (z.set k v))) := lim_set hk hv
abbrev ShiftS (l : List Nat) (s : Nat) : Type := {p : Nat × List Nat // p.2.length = l.length + 1 ∧ Limbs p.2 ∧ lv p.2 = lv l * 2 ^ s}
attribute [local irreducible] Tor.J Tor.PJ Tor.StepO Tor.one Tor.slT Tor.ptrT Tor.aggT Tor.tupT Tor.exT Tor.andT Tor.eP Tor.boxO Tor.sliO Tor.slV Tor.VT.le Tor.Ret Tor.anyT
set_option maxHeartbeats 1000000 in
theorem shift_ok (l : List Nat) (s : Nat) (hl : Limbs l) (h1 : l.length ≤ 1099511627776) (hs : s < 32) : OkM Tryz.prog 129 [limT l, one (.int .i64 (s : Nat))] (fun p : ShiftS l s => one (slV (some p.1.1) (l.length + 1) (l.length + 1))) (fun p => [sliO (some p.1.1) 110 .one (l.length + 1) (l.length + 1) (limF p.1.2)]) := by
  refine OkM.enter Tryz.func129 rfl Tryz.ntmps129 rfl (fun w O => ?_)
  refine J_seq (J_reg (st (s_assign rfl) rfl (Run.nil (pj_then (J_seq (J_reg (st (s_move rfl) rfl (st (s_len rfl) rfl (st (s_addN _ 1 rfl rfl (by omega)) rfl ?_)))))))))
  refine a_makeSlice (l.length + 1) (l.length + 1) rfl rfl (by simp) (by simp) (Nat.le_refl _) rfl rfl (by omega) rfl rfl (fun bz => ?_)
  refine st (s_assign rfl) rfl (Run.nil (pj_then (J_seq (J_reg (st (s_assign rfl) rfl (Run.nil (pj_then (J_seq (J_seq ?_)))))))))
  refine J_reg (st (s_move rfl) rfl (st (s_len rfl) rfl (st (s_move rfl) rfl (Run.nil (pj_then (J_block (J_sub (Γ' := [(0, _), (1, _), (4, _), (5, _), (6, _), (13, _), (14, _), (15, _)]) (SubG.cons rfl (VT.le_refl _) (SubG.cons rfl (VT.le_refl _) (SubG.cons rfl (VT.le_refl _) (SubG.cons rfl (VT.le_refl _) (SubG.cons rfl (VT.le_refl _) (SubG.cons rfl (VT.le_refl _) (SubG.cons rfl (VT.le_refl _) (SubG.cons rfl (VT.le_refl _) (SubG.nil))))))))) (SubM.refl _) ?_)))))))
  refine J_loopA (σ := List Nat × Nat × Nat) (Γk := [(0, _), (1, _), (4, _), (5, _), (13, _), (14, _)]) (SubG.cons rfl (VT.le_refl _) (SubG.cons rfl (VT.le_refl _) (SubG.cons rfl (VT.le_refl _) (SubG.cons rfl (VT.le_refl _) (SubG.cons rfl (VT.le_refl _) (SubG.cons rfl (VT.le_refl _) (SubG.nil))))))) (fun p => [(15, one (.int .i64 (p.2.1 : Nat))), (6, one (.int .u64 (p.2.2 : Nat)))]) (fun p M0 => (M0.set 0 (sliO (some bz) 110 .one (l.length + 1) (l.length + 1) (limF p.1)))) (fun p => ShiftR l s p) (fun p => l.length - p.2.1) ((List.replicate (l.length + 1) 0, 0, 0)) (ShiftR.start l s) (by repeat (first | exact SubG.refl _ | exact SubG.nil | refine SubG.cons rfl (VT.le_refl _) ?_ | (refine SubG.cons rfl (one_le ?_) ?_; (congr 1; first | omega | (simp; omega) | simp)))) (.keep (sliO_eq (fun q _ => by unfold limF; rw [getD_replicate0]; rfl)) (.nil)) (fun p hp => ?_)
  refine J_norm (Γ' := [(15, _), (6, _), (0, _), (1, _), (4, _), (5, _), (13, _), (14, _)]) (M' := [_]) rfl rfl ?_
  obtain ⟨z, i, c⟩ := p
  dsimp only at hp ⊢
  refine J_seq (J_reg (st (s_lt rfl rfl) rfl (Run.nil (pj_then (J_seq ?_)))))
  refine J_if rfl (fun hcc => ?_) (fun hcc => ?_)
  · have hc : c < 2 ^ s := hp.c
    have hi : i < l.length := by omega
    have hb := ShiftR.bound (getD_lt hl i) hc hs
    have hst := hp.step hl hs hi
    have hx := getD_lt hl i
    have hzn : i < z.length := by have := hp.len; dsimp only at this; omega
    refine J_skip (pj_then (J_seq (J_block (J_seq (J_reg (st (s_move rfl) rfl (st (s_indexIN rfl rfl (by omega)) rfl (st (s_load rfl) rfl (st (s_assign rfl) rfl ?_)))))))))
    refine st (s_assign rfl) rfl (Run.nil (pj_then (J_seq (J_reg (st (s_move rfl) rfl (st (s_move rfl) rfl (st (s_toU64 rfl (by omega)) rfl (st (s_move rfl) rfl (st (s_shlU rfl rfl (by omega) (by omega)) rfl ?_)))))))))
    refine st (s_orS rfl rfl (by omega) (by omega)) rfl (st (s_assign rfl) rfl (Run.nil (pj_then (J_seq (J_reg (st (s_move rfl) rfl (st (s_move rfl) rfl (st (s_move rfl) rfl (st (s_toU32 rfl) rfl ?_)))))))))
    refine st (s_indexON rfl rfl (by omega)) rfl ?_
    (refine a_storeE 0 rfl rfl rfl ?_ rfl ?_; omega)
    refine Run.nil (pj_then (J_reg (st (s_move rfl) rfl (st (s_shr32 rfl) rfl (st (s_assign rfl) rfl (Run.nil (pn_block (pj_then (J_reg ?_)))))))))
    refine st (s_addN _ 1 rfl rfl (by omega)) rfl (st (s_move rfl) rfl (Run.nil ?_))
    refine pj_roundM ((z.set i ((c + l.getD i 0 * 2 ^ s) % 4294967296), i + 1, (c + l.getD i 0 * 2 ^ s) / 4294967296)) (hst) (by (simp only []; omega)) (by repeat (first | exact SubG.refl _ | exact SubG.nil | refine SubG.cons rfl (VT.le_refl _) ?_ | (refine SubG.cons rfl (one_le ?_) ?_; (congr 1; first | omega | (simp; omega) | simp)))) (.keep (lim_setF hzn rfl) (.nil))
  · have e : i = l.length := by have := hp.le; dsimp only at this; omega
    subst e
    obtain ⟨f1, f2, f3, f4, f5⟩ := hp.finish hs
    have hc : c < 2 ^ s := hp.c
    refine J_exit (px_then (px_then (px_block (pj_then (J_seq (J_reg (st (s_move rfl) rfl (st (s_move rfl) rfl (st (s_len rfl) rfl ?_)))))))))
    refine st (s_move rfl) rfl (st (s_toU32 rfl) rfl (st (s_indexON rfl rfl (by omega)) rfl ?_))
    (refine a_storeE 0 rfl rfl rfl ?_ rfl ?_; omega)
    refine Run.nil (pj_then (J_seq (J_reg (st (s_move rfl) rfl (st (s_assign rfl) rfl (Run.nil (pj_then (J_ret ?_))))))))
    refine retM1 (⟨(bz, z.set l.length c), f1, f2, f3⟩ : ShiftS l s) Tryz.results129 (.tmp rfl (VT.le_refl _)) (.keep (lim_setF f5 (Nat.mod_eq_of_lt f4)) .nil)
end Tor
end
section
namespace Tor
def win (W : List Nat) (j m : Nat) : List Nat := (W.drop j).take m
theorem win_len {W : List Nat} {j m : Nat} (h : j + m ≤ W.length) : (win W j m).length = m := by unfold win; simp; omega
theorem win_getD {W : List Nat} {j m i : Nat} (h : i < m) : (win W j m).getD i 0 = W.getD (j + i) 0 := by
  unfold win; simp [List.getD, List.getElem?_take, h]
theorem win_set {W : List Nat} {j m i x : Nat} (h : i < m) : win (W.set (j + i) x) j m = (win W j m).set i x := by
  unfold win; rw [List.drop_set, if_neg (by omega), Nat.add_sub_cancel_left, List.take_set]
theorem Limbs.win {W : List Nat} (h : Limbs W) (j m : Nat) : Limbs (win W j m) := fun d hd => h d (List.mem_of_mem_drop (List.mem_of_mem_take hd))
theorem lv_top2 {l : List Nat} {k : Nat} (h : l.length = k + 2) : lv l = lv (l.take k) + 4294967296 ^ k * (l.getD k 0 + 4294967296 * l.getD (k + 1) 0) := by
  have e : l = l.take (k + 2) := by rw [List.take_of_length_le (by omega)]
  conv => lhs; rw [e]
  rw [lv_take_succ (by omega), lv_take_succ (by omega), Nat.pow_succ, Nat.mul_add, Nat.mul_assoc]; omega
theorem lv_top3 {l : List Nat} {k : Nat} (h : l.length = k + 3) : lv l = lv (l.take k) + 4294967296 ^ k * (l.getD k 0 + 4294967296 * (l.getD (k + 1) 0 + 4294967296 * l.getD (k + 2) 0)) := by
  have e : l = l.take (k + 3) := by rw [List.take_of_length_le (by omega)]
  conv => lhs; rw [e]
  rw [lv_take_succ (by omega), lv_take_succ (by omega), lv_take_succ (by omega)]
  simp only [Nat.pow_succ, Nat.mul_add, Nat.mul_assoc]; omega
structure Gss (U V B P h v2 top u2 : Nat) : Prop where
  P0 : 0 < P
  iv1 : (h * B + v2) * P ≤ V
  iv2 : V < (h * B + v2 + 1) * P
  iu1 : (top * B + u2) * P ≤ U
  iu2 : U < (top * B + u2 + 1) * P
  l2 : v2 < B
  m2 : u2 < B
  h0 : 0 < h
  lt : U < V * B
theorem Gss.V0 {U V B P h v2 top u2 : Nat} (g : Gss U V B P h v2 top u2) : 0 < V := by
  rcases Nat.eq_zero_or_pos V with h | h
  · have := g.lt; rw [h] at this; simp at this
  · exact h
theorem Gss.top {U V B P h v2 top u2 : Nat} (g : Gss U V B P h v2 top u2) : top < (h + 1) * B := by
  have h1 : top * (B * P) < (h + 1) * B * (B * P) := by
    calc top * (B * P) = top * B * P := (Nat.mul_assoc _ _ _).symm
      _ ≤ (top * B + u2) * P := Nat.mul_le_mul_right _ (Nat.le_add_right _ _)
      _ ≤ U := g.iu1
      _ < V * B := g.lt
      _ ≤ (h * B + v2 + 1) * P * B := Nat.mul_le_mul_right _ (Nat.le_of_lt g.iv2)
      _ ≤ ((h + 1) * B) * P * B := Nat.mul_le_mul_right _ (Nat.mul_le_mul_right _ (by rw [Nat.add_mul, Nat.one_mul]; have := g.l2; omega))
      _ = (h + 1) * B * (B * P) := by rw [Nat.mul_assoc, Nat.mul_comm P B]
  exact Nat.lt_of_mul_lt_mul_right h1
theorem Gss.q_lt {U V B P h v2 top u2 : Nat} (g : Gss U V B P h v2 top u2) : U / V < B := Nat.div_lt_of_lt_mul g.lt
theorem Gss.start {U V B P h v2 top u2 : Nat} (g : Gss U V B P h v2 top u2) : U / V ≤ top / h := by
  rw [Nat.le_div_iff_mul_le g.h0]
  have h1 : (U / V * h) * (B * P) < (top + 1) * (B * P) := by
    calc (U / V * h) * (B * P) = U / V * (h * B * P) := by rw [Nat.mul_assoc, Nat.mul_assoc]
      _ ≤ U / V * ((h * B + v2) * P) := Nat.mul_le_mul_left _ (Nat.mul_le_mul_right _ (Nat.le_add_right _ _))
      _ ≤ U / V * V := Nat.mul_le_mul_left _ g.iv1
      _ ≤ U := Nat.div_mul_le_self _ _
      _ < (top * B + u2 + 1) * P := g.iu2
      _ ≤ ((top + 1) * B) * P := Nat.mul_le_mul_right _ (by rw [Nat.add_mul, Nat.one_mul]; have := g.m2; omega)
      _ = (top + 1) * (B * P) := Nat.mul_assoc _ _ _
  exact Nat.lt_succ_iff.1 (Nat.lt_of_mul_lt_mul_right h1)
theorem Gss.low {U V B P h v2 top u2 : Nat} (g : Gss U V B P h v2 top u2) {q r : Nat} (e : q * h + r = top) (hc : r * B + u2 < q * v2) : U / V < q := by
  have h1 : (U / V * (h * B + v2)) * P < (top * B + u2 + 1) * P := by
    calc (U / V * (h * B + v2)) * P = U / V * ((h * B + v2) * P) := Nat.mul_assoc _ _ _
      _ ≤ U / V * V := Nat.mul_le_mul_left _ g.iv1
      _ ≤ U := Nat.div_mul_le_self _ _
      _ < (top * B + u2 + 1) * P := g.iu2
  have h2 := Nat.lt_of_mul_lt_mul_right h1
  have h3 : top * B + u2 < q * (h * B + v2) := by
    rw [← e, Nat.add_mul, Nat.mul_add, Nat.mul_assoc]; omega
  exact Nat.lt_of_mul_lt_mul_right (Nat.lt_of_lt_of_le h2 h3)
theorem Gss.done {U V B P h v2 top u2 : Nat} (g : Gss U V B P h v2 top u2) {q r : Nat} (e : q * h + r = top) (hq : q < B) (hc : q * v2 ≤ r * B + u2 ∨ B ≤ r) : q ≤ U / V + 1 := by
  rcases Nat.eq_zero_or_pos q with h0 | h0
  · rw [h0]; exact Nat.zero_le _
  obtain ⟨p, rfl⟩ : ∃ p, q = p + 1 := ⟨q - 1, by omega⟩
  have hh : (p + 1) * v2 ≤ r * B + u2 := by
    rcases hc with hc | hc
    · exact hc
    · have h1 : (p + 1) * v2 ≤ B * B := Nat.mul_le_mul (Nat.le_of_lt hq) (Nat.le_of_lt g.l2)
      have h2 : B * B ≤ r * B := Nat.mul_le_mul_right _ hc
      omega
  have h3 : (p + 1) * (h * B + v2) ≤ top * B + u2 := by
    rw [← e, Nat.add_mul _ r, Nat.mul_add, Nat.mul_assoc]; omega
  have h4 : p * (h * B + v2 + 1) ≤ top * B + u2 := by
    refine Nat.le_trans ?_ h3
    rw [Nat.add_mul p 1, Nat.mul_add p (h * B + v2) 1, Nat.one_mul, Nat.mul_one]
    have : B ≤ h * B := Nat.le_mul_of_pos_left _ g.h0
    omega
  have h5 : p * V ≤ U := by
    calc p * V ≤ p * ((h * B + v2 + 1) * P) := Nat.mul_le_mul_left _ (Nat.le_of_lt g.iv2)
      _ = p * (h * B + v2 + 1) * P := (Nat.mul_assoc _ _ _).symm
      _ ≤ (top * B + u2) * P := Nat.mul_le_mul_right _ h4
      _ ≤ U := g.iu1
  have := (Nat.le_div_iff_mul_le g.V0).2 h5
  omega
theorem gss_of {u v : List Nat} {k : Nat} (hu : Limbs u) (hv : Limbs v) (lu : u.length = k + 3) (lw : v.length = k + 2) (hh : 0 < v.getD (k + 1) 0) (hlt : lv u < lv v * 4294967296) :
    Gss (lv u) (lv v) 4294967296 (4294967296 ^ k) (v.getD (k + 1) 0) (v.getD k 0) (u.getD (k + 2) 0 * 4294967296 + u.getD (k + 1) 0) (u.getD k 0) := by
  have e1 := lv_top3 lu
  have e2 := lv_top2 lw
  have h1 := lv_lt (hu.take k)
  have h2 := lv_lt (hv.take k)
  rw [List.length_take_of_le (by omega)] at h1 h2
  have g1 := getD_lt hu k
  have g2 := getD_lt hv k
  refine ⟨Nat.pow_pos (by decide), ?_, ?_, ?_, ?_, g2, g1, hh, hlt⟩
  · rw [e2, Nat.mul_comm _ (4294967296 ^ k), show v.getD (k + 1) 0 * 4294967296 + v.getD k 0 = v.getD k 0 + 4294967296 * v.getD (k + 1) 0 by omega]; omega
  · rw [e2, Nat.mul_comm _ (4294967296 ^ k), show v.getD (k + 1) 0 * 4294967296 + v.getD k 0 + 1 = v.getD k 0 + 4294967296 * v.getD (k + 1) 0 + 1 by omega, Nat.mul_add (4294967296 ^ k) _ 1]; omega
  · rw [e1, Nat.mul_comm _ (4294967296 ^ k), show (u.getD (k + 2) 0 * 4294967296 + u.getD (k + 1) 0) * 4294967296 + u.getD k 0 = u.getD k 0 + 4294967296 * (u.getD (k + 1) 0 + 4294967296 * u.getD (k + 2) 0) by omega]; omega
  · rw [e1, Nat.mul_comm _ (4294967296 ^ k), show (u.getD (k + 2) 0 * 4294967296 + u.getD (k + 1) 0) * 4294967296 + u.getD k 0 + 1 = u.getD k 0 + 4294967296 * (u.getD (k + 1) 0 + 4294967296 * u.getD (k + 2) 0) + 1 by omega, Nat.mul_add (4294967296 ^ k) _ 1]; omega
structure GuessR (h top Q : Nat) (p : Nat × Nat) : Prop where
  e : p.1 * h + p.2 = top
  r : p.2 < 4294967296
  q : Q ≤ p.1
  m : p.1 ≤ 4294967297
structure SubR (u v : List Nat) (q : Nat) (z : List Nat) (i b c : Nat) : Prop where
  le : i ≤ v.length
  len : z.length = u.length
  lim : Limbs z
  hb : b ≤ 1
  hc : c < 4294967296
  val : lv z + q * lv (v.take i) = lv u + 4294967296 ^ i * (b + c)
theorem borrow2 {x y b d : Nat} (hx : x < 4294967296) (hy : y < 4294967296) (hb : b ≤ 1) (hd : d = ((x + 18446744073709551616 - y) % 18446744073709551616 + 18446744073709551616 - b) % 18446744073709551616) :
    d % 4294967296 + y + b = x + 4294967296 * (d / 9223372036854775808) ∧ d / 9223372036854775808 ≤ 1 := by
  rcases Nat.lt_or_ge x (y + b) with h | h
  · have h1 : d = x + 18446744073709551616 - (y + b) := by omega
    omega
  · have h1 : d = x - (y + b) := by omega
    omega
theorem SubR.start {u v : List Nat} {q : Nat} (hu : Limbs u) : SubR u v q u 0 0 0 := ⟨Nat.zero_le _, rfl, hu, by decide, by decide, by simp [lv]⟩
theorem sub_lim {q y c : Nat} (hq : q < 4294967296) (hy : y < 4294967296) (hc : c < 4294967296) : q * y < 18446744073709551616 ∧ c + q * y < 18446744073709551616 ∧ (c + q * y) / 4294967296 < 4294967296 := by
  have h1 : q * y ≤ 4294967295 * 4294967295 := Nat.mul_le_mul (by omega) (by omega)
  omega
theorem SubR.step {u v z : List Nat} {q i b c d : Nat} (h : SubR u v q z i b c) (hv : Limbs v) (hq : q < 4294967296) (hi : i < v.length) (hl : v.length ≤ u.length)
    (hd : d = ((z.getD i 0 + 18446744073709551616 - (c + q * v.getD i 0) % 4294967296) % 18446744073709551616 + 18446744073709551616 - b) % 18446744073709551616) :
    SubR u v q (z.set i (d % 4294967296)) (i + 1) (d / 9223372036854775808) ((c + q * v.getD i 0) / 4294967296) := by
  have hlim := sub_lim hq (getD_lt hv i) h.hc
  obtain ⟨h1, h2⟩ := borrow2 (getD_lt h.lim i) (Nat.mod_lt _ (by decide)) h.hb hd
  have hz : i < z.length := by rw [h.len]; omega
  have hs := lv_set (l := z) (v := d % 4294967296) hz
  have hvv := h.val
  refine ⟨hi, by rw [List.length_set]; exact h.len, h.lim.set (Nat.mod_lt _ (by decide)), h2, hlim.2.2, ?_⟩
  rw [lv_take_succ hi, Nat.pow_succ, Nat.mul_add q]
  have e := Nat.div_add_mod (c + q * v.getD i 0) 4294967296
  have e5 : q * (4294967296 ^ i * v.getD i 0) = 4294967296 ^ i * (q * v.getD i 0) := Nat.mul_left_comm _ _ _
  rw [e5]
  clear hd
  generalize z.getD i 0 = x at *
  generalize q * v.getD i 0 = y at *
  generalize 4294967296 ^ i = B at *
  generalize (c + y) / 4294967296 = t1 at *
  generalize (c + y) % 4294967296 = t2 at *
  generalize d % 4294967296 = r at *
  generalize d / 9223372036854775808 = q' at *
  have e2 : B * (r + t2 + b) = B * (x + 4294967296 * q') := by rw [h1]
  have e3 : B * (4294967296 * t1 + t2) = B * (c + y) := by rw [e]
  simp only [Nat.mul_add, Nat.mul_assoc] at e2 e3 hvv ⊢
  omega
structure BackR (u v : List Nat) (z : List Nat) (i c : Nat) : Prop where
  le : i ≤ v.length
  len : z.length = u.length
  lim : Limbs z
  hc : c ≤ 1
  val : lv z + 4294967296 ^ i * c = lv u + lv (v.take i)
theorem BackR.start {u v : List Nat} (hu : Limbs u) : BackR u v u 0 0 := ⟨Nat.zero_le _, rfl, hu, by decide, by simp [lv]⟩
theorem BackR.step {u v z : List Nat} {i c : Nat} (h : BackR u v z i c) (hv : Limbs v) (hi : i < v.length) (hl : v.length ≤ u.length) :
    BackR u v (z.set i ((c + (z.getD i 0 + v.getD i 0)) % 4294967296)) (i + 1) ((c + (z.getD i 0 + v.getD i 0)) / 4294967296) := by
  have hz : i < z.length := by rw [h.len]; omega
  have hs := lv_set (l := z) (v := (c + (z.getD i 0 + v.getD i 0)) % 4294967296) hz
  have hvv := h.val
  have g1 := getD_lt h.lim i
  have g2 := getD_lt hv i
  have hc := h.hc
  refine ⟨hi, by rw [List.length_set]; exact h.len, h.lim.set (Nat.mod_lt _ (by decide)), by omega, ?_⟩
  rw [lv_take_succ hi, Nat.pow_succ]
  generalize z.getD i 0 = x at *
  generalize v.getD i 0 = y at *
  generalize 4294967296 ^ i = B at *
  have e : 4294967296 * ((c + (x + y)) / 4294967296) + (c + (x + y)) % 4294967296 = c + (x + y) := by omega
  generalize (c + (x + y)) / 4294967296 = t1 at *
  generalize (c + (x + y)) % 4294967296 = t2 at *
  have e3 : B * (4294967296 * t1 + t2) = B * (c + (x + y)) := by rw [e]
  simp only [Nat.mul_add, Nat.mul_assoc] at e3 hvv ⊢
  omega
theorem SubR.good {u v z : List Nat} {q b c d : Nat} (h : SubR u v q z v.length b c) (hl : u.length = v.length + 1) (hV : 0 < lv v)
    (hQ : lv u / lv v ≤ q) (hd : d = ((z.getD v.length 0 + 18446744073709551616 - c) % 18446744073709551616 + 18446744073709551616 - b) % 18446744073709551616) (h0 : d / 9223372036854775808 = 0) :
    q = lv u / lv v ∧ Limbs (z.set v.length (d % 4294967296)) ∧ lv (z.set v.length (d % 4294967296)) = lv u % lv v := by
  obtain ⟨h1, h2⟩ := borrow2 (getD_lt h.lim v.length) h.hc h.hb hd
  have hz : v.length < z.length := by rw [h.len]; omega
  have hs := lv_set (l := z) (v := d % 4294967296) hz
  have hvv := h.val
  rw [List.take_length] at hvv
  have e : lv (z.set v.length (d % 4294967296)) + q * lv v = lv u := by
    rw [h0] at h1
    generalize z.getD v.length 0 = x at *
    clear hd
    generalize d % 4294967296 = r at *
    generalize 4294967296 ^ v.length = B at *
    have e2 : B * (r + c + b) = B * (x + 4294967296 * 0) := by rw [h1]
    simp only [Nat.mul_add] at e2 hvv
    omega
  have e4 : lv (z.set v.length (d % 4294967296)) = lv u - q * lv v := by omega
  have hle : q ≤ lv u / lv v := (Nat.le_div_iff_mul_le hV).2 (by omega)
  have eq : q = lv u / lv v := by omega
  refine ⟨eq, h.lim.set (Nat.mod_lt _ (by decide)), ?_⟩
  have := Nat.div_add_mod (lv u) (lv v)
  rw [e4, eq, Nat.mul_comm]; omega
theorem SubR.bad {u v z : List Nat} {q b c d : Nat} (h : SubR u v q z v.length b c) (hl : u.length = v.length + 1) (hV : 0 < lv v)
    (hQ : lv u / lv v ≤ q) (hq : q ≤ lv u / lv v + 1) (hd : d = ((z.getD v.length 0 + 18446744073709551616 - c) % 18446744073709551616 + 18446744073709551616 - b) % 18446744073709551616) (h0 : d / 9223372036854775808 ≠ 0) :
    q = lv u / lv v + 1 ∧ Limbs (z.set v.length (d % 4294967296)) ∧ lv (z.set v.length (d % 4294967296)) + lv v = lv u % lv v + 4294967296 ^ (v.length + 1) := by
  obtain ⟨h1, h2⟩ := borrow2 (getD_lt h.lim v.length) h.hc h.hb hd
  have hz : v.length < z.length := by rw [h.len]; omega
  have hs := lv_set (l := z) (v := d % 4294967296) hz
  have hvv := h.val
  rw [List.take_length] at hvv
  have hL : Limbs (z.set v.length (d % 4294967296)) := h.lim.set (Nat.mod_lt _ (by decide))
  have hlt := lv_lt hL
  rw [List.length_set, h.len, hl] at hlt
  have h3 : d / 9223372036854775808 = 1 := by omega
  have e : lv (z.set v.length (d % 4294967296)) + q * lv v = lv u + 4294967296 ^ (v.length + 1) := by
    rw [h3] at h1
    generalize z.getD v.length 0 = x at *
    clear hd hL hlt h0 h2 h3
    generalize lv (z.set v.length (d % 4294967296)) = y at *
    generalize d % 4294967296 = r at *
    rw [Nat.pow_succ]
    generalize 4294967296 ^ v.length = B at *
    have e2 : B * (r + c + b) = B * (x + 4294967296 * 1) := by rw [h1]
    simp only [Nat.mul_add] at e2 hvv
    omega
  have hm := Nat.div_add_mod (lv u) (lv v)
  have hne : q ≠ lv u / lv v := fun hx => by
    rw [hx, Nat.mul_comm] at e; omega
  have eq : q = lv u / lv v + 1 := by omega
  refine ⟨eq, hL, ?_⟩
  rw [eq, Nat.add_mul, Nat.one_mul, Nat.mul_comm] at e
  omega
theorem BackR.good {u v z : List Nat} {c R x : Nat} (h : BackR u v z v.length c) (hl : u.length = v.length + 1) (hV : R < lv v) (hv : Limbs v)
    (hu : lv u + lv v = R + 4294967296 ^ (v.length + 1)) (hx : x = (z.getD v.length 0 + c) % 4294967296) : Limbs (z.set v.length x) ∧ lv (z.set v.length x) = R := by
  have hz : v.length < z.length := by rw [h.len]; omega
  have hs := lv_set (l := z) (v := x) hz
  have hvv := h.val
  rw [List.take_length] at hvv
  have hL : Limbs (z.set v.length x) := h.lim.set (by rw [hx]; exact Nat.mod_lt _ (by decide))
  have hlt := lv_lt hL
  rw [List.length_set, h.len, hl] at hlt
  have hzl := getD_lt h.lim v.length
  have hc := h.hc
  have hvl := lv_lt hv
  refine ⟨hL, ?_⟩
  rcases Nat.lt_or_ge (z.getD v.length 0 + c) 4294967296 with h5 | h5
  · have h6 : x = z.getD v.length 0 + c := by omega
    have e : lv (z.set v.length x) = lv u + lv v := by
      rw [h6] at hs
      rw [h6]
      rw [Nat.mul_add] at hs
      omega
    omega
  · have h6 : x + 4294967296 = z.getD v.length 0 + c := by omega
    have e : lv (z.set v.length x) + 4294967296 ^ (v.length + 1) = lv u + lv v := by
      generalize lv (z.set v.length x) = y at *
      clear hlt
      rw [hu, Nat.pow_succ]
      generalize z.getD v.length 0 = t at *
      rw [hu, Nat.pow_succ] at hvv
      generalize 4294967296 ^ v.length = B at *
      have e2 : B * (x + 4294967296) = B * (t + c) := by rw [h6]
      simp only [Nat.mul_add] at e2
      omega
    omega
end Tor
end
section
namespace Tor
open Go Go.RowKit Go.Proofs
def Outside (W0 W : List Nat) (j m : Nat) : Prop := W.length = W0.length ∧ W.take j = W0.take j ∧ W.drop (j + m) = W0.drop (j + m)
theorem Outside.refl (W : List Nat) (j m : Nat) : Outside W W j m := ⟨rfl, rfl, rfl⟩
theorem Outside.set {W0 W : List Nat} {j m i x : Nat} (h : Outside W0 W j m) (hi : i < m) : Outside W0 (W.set (j + i) x) j m :=
  ⟨by rw [List.length_set]; exact h.1, by rw [List.take_set_of_le (by omega)]; exact h.2.1, by rw [List.drop_set_of_lt (by omega)]; exact h.2.2⟩
theorem q_sub {q Q : Nat} (h : q = Q + 1) (hq : q < 4294967296) : (q + 18446744073709551616 - 1) % 18446744073709551616 % 4294967296 = Q := by omega
structure DgS (W0 v : List Nat) (j k q : Nat) (s : List Nat × Nat × Nat × Nat) : Prop where
  out : Outside W0 s.1 j (k + 3)
  lim : Limbs s.1
  sub : SubR (win W0 j (k + 3)) v q (win s.1 j (k + 3)) s.2.1 s.2.2.1 s.2.2.2
structure DgB (W0 W1 v : List Nat) (j k : Nat) (s : List Nat × Nat × Nat) : Prop where
  out : Outside W0 s.1 j (k + 3)
  lim : Limbs s.1
  back : BackR (win W1 j (k + 3)) v (win s.1 j (k + 3)) s.2.1 s.2.2
abbrev DigS (W v : List Nat) (j k : Nat) : Type := {W' : List Nat // Outside W W' j (k + 3) ∧ Limbs W' ∧ lv (win W' j (k + 3)) = lv (win W j (k + 3)) % lv v}
theorem GuessR.aux {top h : Nat} (ht : top < (h + 1) * 4294967296) (hh : 2147483648 ≤ h) : top < h * 4294967298 := by
  have e1 : h * 4294967298 = h * 4294967296 + h * 2 := by rw [← Nat.mul_add]
  have e2 : (h + 1) * 4294967296 = h * 4294967296 + 4294967296 := by rw [Nat.add_mul]
  have e3 : 4294967296 ≤ h * 2 := Nat.mul_le_mul_right 2 hh
  rw [e1]; rw [e2] at ht
  exact Nat.lt_of_lt_of_le ht (Nat.add_le_add_left e3 _)
theorem GuessR.start {U V P h v2 top u2 : Nat} (g : Gss U V 4294967296 P h v2 top u2) (hh : 2147483648 ≤ h) (hl : h < 4294967296) : GuessR h top (U / V) (top / h, top % h) := by
  have hm := Nat.mod_lt top (show 0 < h by omega)
  refine ⟨?_, ?_, g.start, ?_⟩
  · show top / h * h + top % h = top
    rw [Nat.mul_comm]; exact Nat.div_add_mod top h
  · show top % h < _; omega
  · have ht := g.top
    have h1 : top < h * 4294967298 := GuessR.aux ht hh
    exact Nat.lt_succ_iff.1 (Nat.div_lt_of_lt_mul h1)
theorem GuessR.next {h top Q q r : Nat} (s : GuessR h top Q (q, r)) (hQ : Q < q) (hr : r + h < 4294967296) : GuessR h top Q (q - 1, r + h) := by
  obtain ⟨p, rfl⟩ : ∃ p, q = p + 1 := ⟨q - 1, by omega⟩
  have e : (p + 1) * h + r = top := s.e
  have m : p + 1 ≤ 4294967297 := s.m
  refine ⟨?_, hr, ?_, ?_⟩
  · show (p + 1 - 1) * h + (r + h) = top
    rw [Nat.add_mul, Nat.one_mul] at e
    rw [Nat.add_sub_cancel]; omega
  · show Q ≤ p + 1 - 1; omega
  · show p + 1 - 1 ≤ _; omega
theorem GuessR.last {U V P h v2 top u2 q r : Nat} (g : Gss U V 4294967296 P h v2 top u2) (s : GuessR h top (U / V) (q, r)) (hQ : U / V < q) (hr : 4294967296 ≤ r + h) : q - 1 < 4294967296 ∧ U / V ≤ q - 1 ∧ q - 1 ≤ U / V + 1 := by
  obtain ⟨p, rfl⟩ : ∃ p, q = p + 1 := ⟨q - 1, by have := Nat.lt_of_le_of_lt (Nat.zero_le _) hQ; omega⟩
  have e : (p + 1) * h + r = top := s.e
  have ht := g.top
  have e2 : p * h + (r + h) = top := by rw [Nat.add_mul, Nat.one_mul] at e; omega
  have h1 : p < 4294967296 := by
    rcases Nat.lt_or_ge p 4294967296 with h1 | h1
    · exact h1
    · have := Nat.mul_le_mul_right h h1
      omega
  rw [Nat.add_sub_cancel]
  exact ⟨h1, Nat.lt_succ_iff.1 hQ, g.done e2 h1 (.inr hr)⟩
attribute [local irreducible] Tor.J Tor.PJ Tor.StepO Tor.one Tor.slT Tor.ptrT Tor.aggT Tor.tupT Tor.exT Tor.andT Tor.eP Tor.boxO Tor.sliO Tor.slV Tor.VT.le Tor.Ret Tor.anyT
set_option maxHeartbeats 4000000 in
set_option maxRecDepth 20000 in
theorem digit_ok (b N j cap k : Nat) (W v : List Nat) (hW : Limbs W) (hv : Limbs v) (hN : W.length = N) (hj : j + (k + 3) ≤ N) (hk : v.length = k + 2) (hb31 : v.length ≤ 1099511627776) (hh : 2147483648 ≤ v.getD (k + 1) 0) (hlt : lv (win W j (k + 3)) < lv v * 4294967296) :
    OkI Tryz.prog 130 [one (winV b j 1 (k + 3) cap), limT v] [sliO (some b) 110 .one N N (limF W)] (fun _ : DigS W v j k => one (.int .u32 ((lv (win W j (k + 3)) / lv v : Nat) : Int))) (fun s => [sliO (some b) 110 .one N N (limF s.1)]) := by
  unfold limT
  rw [hk]
  refine OkI.enter Tryz.func130 rfl Tryz.ntmps130 rfl (fun w O => ?_)
  have lw := win_len (W := W) (j := j) (m := k + 3) (by omega)
  have g := gss_of (hW.win j (k + 3)) hv lw hk (by omega) hlt
  rw [win_getD (by omega), win_getD (by omega), win_getD (by omega)] at g
  have x0 := getD_lt hW (j + k)
  have x1 := getD_lt hW (j + (k + 1))
  have x2 := getD_lt hW (j + (k + 2))
  have y1 := getD_lt hv (k + 1)
  have y0 := getD_lt hv k
  rw [hk] at hb31
  have y1' : v.getD (k + 2 - 1) 0 < 4294967296 := y1
  have y0' : v.getD (k + 2 - 2) 0 < 4294967296 := y0
  have yh' : 2147483648 ≤ v.getD (k + 2 - 1) 0 := hh
  have x1' : W.getD (j + (k + 2 - 1)) 0 < 4294967296 := x1
  have x0' : W.getD (j + (k + 2 - 2)) 0 < 4294967296 := x0
  refine J_seq (J_reg (st (s_assign rfl) rfl (Run.nil (pj_then (J_seq (J_reg (st (s_move rfl) rfl (st (s_len rfl) rfl (st (s_assign rfl) rfl ?_)))))))))
  refine Run.nil (pj_then (J_seq (J_reg (st (s_move rfl) rfl (st (s_move rfl) rfl (st (s_subN _ 1 rfl rfl (by omega) (by omega)) rfl (st (s_indexIN rfl rfl (by omega)) rfl (st (s_load rfl) rfl (st (s_toU64 rfl (by omega)) rfl ?_)))))))))
  refine st (s_assign rfl) rfl (Run.nil (pj_then (J_seq (J_regd 13 mixed (by kernel_rfl) (by decide) (st (s_move rfl) rfl (st (s_move rfl) rfl (st (s_indexW rfl rfl (by omega)) rfl (st (s_loadE 0 rfl rfl (by omega)) rfl (st (s_toU64 rfl (by omega)) rfl ?_)))))))))
  refine st (s_shlU (s := 32) rfl rfl (by omega) (by omega)) rfl (st (s_move rfl) rfl (st (s_move rfl) rfl (st (s_subN _ 1 rfl rfl (by omega) (by omega)) rfl (st (s_indexW rfl rfl (by omega)) rfl (st (s_loadE 0 rfl rfl (by omega)) rfl (st (s_toU64 rfl (by omega)) rfl (st (s_orHL rfl rfl (by omega) (by omega)) rfl (Run.nil (st (s_assign rfl) rfl ?_)))))))))
  refine Run.nil (pj_then (J_seq (J_regd 7 mixed (by kernel_rfl) (by decide) (st (s_move rfl) rfl (st (s_move rfl) rfl (st (s_quoU rfl rfl (by omega) (by omega)) rfl (st (s_move rfl) rfl (st (s_move rfl) rfl (st (s_remN _ rfl rfl rfl (by omega)) rfl ?_)))))))))
  refine st (s_assign rfl) rfl (Run.nil (st (s_assign rfl) rfl (Run.nil (pj_then (J_seq (J_block (J_sub (Γ' := [(0, _), (1, _), (4, _), (5, _), (6, _), (8, _), (9, _)]) (SubG.cons rfl (VT.le_refl _) (SubG.cons rfl (VT.le_refl _) (SubG.cons rfl (VT.le_refl _) (SubG.cons rfl (VT.le_refl _) (SubG.cons rfl (VT.le_refl _) (SubG.cons rfl (VT.le_refl _) (SubG.cons rfl (VT.le_refl _) (SubG.nil)))))))) (SubM.refl _) ?_)))))))
  refine J_joinB (σ := Nat) (Γk := [(0, _), (1, _), (4, _), (5, _)]) (SubG.cons rfl (VT.le_refl _) (SubG.cons rfl (VT.le_refl _) (SubG.cons rfl (VT.le_refl _) (SubG.cons rfl (VT.le_refl _) SubG.nil)))) (fun q => [(8, one (.int .u64 (q : Nat)))]) (fun _ M0 => M0) (fun q => q < 4294967296 ∧ lv (win W j (k + 3)) / lv v ≤ q ∧ q ≤ lv (win W j (k + 3)) / lv v + 1) ?_ (fun q hq => ?_)
  · refine J_sub (Γ' := [(0, _), (1, _), (4, _), (5, _), (6, _), (8, _), (9, _)]) (SubG.cons rfl (VT.le_refl _) (SubG.cons rfl (VT.le_refl _) (SubG.cons rfl (VT.le_refl _) (SubG.cons rfl (VT.le_refl _) (SubG.cons rfl (VT.le_refl _) (SubG.cons rfl (VT.le_refl _) (SubG.cons rfl (VT.le_refl _) (SubG.nil)))))))) (SubM.refl _) ?_
    refine J_loopA (σ := Nat × Nat) (Γk := [(0, _), (1, _), (4, _), (5, _), (6, _)]) (SubG.cons rfl (VT.le_refl _) (SubG.cons rfl (VT.le_refl _) (SubG.cons rfl (VT.le_refl _) (SubG.cons rfl (VT.le_refl _) (SubG.cons rfl (VT.le_refl _) (SubG.nil)))))) (fun p => [(8, one (.int .u64 (p.1 : Nat))), (9, one (.int .u64 (p.2 : Nat)))]) (fun p M0 => M0) (fun p => GuessR (v.getD (k + 1) 0) (W.getD (j + (k + 2)) 0 * 4294967296 + W.getD (j + (k + 1)) 0) (lv (win W j (k + 3)) / lv v) p) (fun p => p.1) (((W.getD (j + (k + 2)) 0 * 4294967296 + W.getD (j + (k + 1)) 0) / v.getD (k + 1) 0, (W.getD (j + (k + 2)) 0 * 4294967296 + W.getD (j + (k + 1)) 0) % v.getD (k + 1) 0)) (GuessR.start g hh y1) (by repeat (first | exact SubG.refl _ | exact SubG.nil | refine SubG.cons rfl (VT.le_refl _) ?_ | (refine SubG.cons rfl (one_le ?_) ?_; (congr 1; first | omega | (simp; omega) | simp)))) (.keep (Own.le_refl _) (.nil)) (fun p hp => ?_)
    refine J_norm (Γ' := [(8, _), (9, _), (0, _), (1, _), (4, _), (5, _), (6, _)]) (M' := [_]) rfl rfl ?_
    obtain ⟨q, r⟩ := p
    dsimp only at hp ⊢
    have hr : r < 4294967296 := hp.r
    have hqm : q ≤ 4294967297 := hp.m
    by_cases hA : 4294967295 < q
    · have hQ : lv (win W j (k + 3)) / lv v < q := Nat.lt_of_lt_of_le g.q_lt hA
      have hq1 : 1 ≤ q := Nat.lt_of_le_of_lt (Nat.zero_le _) hQ
      have hq2 : (q + 18446744073709551616 - 1) % 18446744073709551616 = q - 1 := by omega
      by_cases hC : 4294967296 ≤ r + v.getD (k + 2 - 1) 0
      · refine J_seq (J_seq (J_regd 22 mixed (by kernel_rfl) (by decide) (st (s_move rfl) rfl (st (sT (by omega) (s_gt rfl rfl)) rfl (st (s_move rfl) rfl (sg0 rfl rfl rfl rfl (sg0 rfl rfl rfl rfl (sg0 rfl rfl rfl rfl (sg0 rfl rfl rfl rfl ?_)))))))))
        refine sg0 rfl rfl rfl rfl (sg0 rfl rfl rfl rfl (sg0 rfl rfl rfl rfl (sg0 rfl rfl rfl rfl (sg0 rfl rfl rfl rfl (sg0 rfl rfl rfl rfl (sg0 rfl rfl rfl rfl (sg0 rfl rfl rfl rfl (sg0 rfl rfl rfl rfl (sg0 rfl rfl rfl rfl ?_)))))))))
        refine sg0 rfl rfl rfl rfl (sg0 rfl rfl rfl rfl (sg0 rfl rfl rfl rfl (sg0 rfl rfl rfl rfl (st (s_pickT rfl rfl) rfl (Run.nil (Run.nil (pj_then (J_cond1 rfl (J_skip ?_)))))))))
        refine pj_then (J_block (J_seq (J_reg (st (s_move rfl) rfl (st (s_subU rfl rfl (by omega) (by decide)) rfl (st (s_assign rfl) rfl (Run.nil (pj_then (J_seq ?_)))))))))
        refine J_reg (st (s_move rfl) rfl (st (s_move rfl) rfl (st (s_addU rfl rfl (by omega)) rfl (st (s_assign rfl) rfl (Run.nil (pj_then (J_seq (J_reg (st (s_move rfl) rfl ?_)))))))))
        refine st (sT (by omega) (s_gt rfl rfl)) rfl (Run.nil (pj_then (J_cond1 rfl (J_exit (px_block_ne rfl (px_then (px_block ?_)))))))
        rw [hq2]
        refine pj_cut (q - 1) (hp.last g hQ hC) (by repeat (first | exact SubG.refl _ | exact SubG.nil | refine SubG.cons rfl (VT.le_refl _) ?_ | (refine SubG.cons rfl (one_le ?_) ?_; (congr 1; first | omega | (simp; omega) | simp)))) (.keep (Own.le_refl _) (.nil))
      · refine J_seq (J_seq (J_regd 22 mixed (by kernel_rfl) (by decide) (st (s_move rfl) rfl (st (sT (by omega) (s_gt rfl rfl)) rfl (st (s_move rfl) rfl (sg0 rfl rfl rfl rfl (sg0 rfl rfl rfl rfl (sg0 rfl rfl rfl rfl (sg0 rfl rfl rfl rfl ?_)))))))))
        refine sg0 rfl rfl rfl rfl (sg0 rfl rfl rfl rfl (sg0 rfl rfl rfl rfl (sg0 rfl rfl rfl rfl (sg0 rfl rfl rfl rfl (sg0 rfl rfl rfl rfl (sg0 rfl rfl rfl rfl (sg0 rfl rfl rfl rfl (sg0 rfl rfl rfl rfl (sg0 rfl rfl rfl rfl ?_)))))))))
        refine sg0 rfl rfl rfl rfl (sg0 rfl rfl rfl rfl (sg0 rfl rfl rfl rfl (sg0 rfl rfl rfl rfl (st (s_pickT rfl rfl) rfl (Run.nil (Run.nil (pj_then (J_cond1 rfl (J_skip ?_)))))))))
        refine pj_then (J_block (J_seq (J_reg (st (s_move rfl) rfl (st (s_subU rfl rfl (by omega) (by decide)) rfl (st (s_assign rfl) rfl (Run.nil (pj_then (J_seq ?_)))))))))
        refine J_reg (st (s_move rfl) rfl (st (s_move rfl) rfl (st (s_addU rfl rfl (by omega)) rfl (st (s_assign rfl) rfl (Run.nil (pj_then (J_seq (J_reg (st (s_move rfl) rfl ?_)))))))))
        refine st (sF (by omega) (s_gt rfl rfl)) rfl (Run.nil (pj_then (J_cond0 rfl (J_skip (pn_block ?_)))))
        rw [hq2]
        refine pj_roundM ((q - 1, r + v.getD (k + 1) 0)) (hp.next hQ (Nat.lt_of_not_le hC)) (by omega) (by repeat (first | exact SubG.refl _ | exact SubG.nil | refine SubG.cons rfl (VT.le_refl _) ?_ | (refine SubG.cons rfl (one_le ?_) ?_; (congr 1; first | omega | (simp; omega) | simp)))) (.keep (Own.le_refl _) (.nil))
    · have hqv := sub_lim (q := q) (c := 0) (by omega) y0 (by decide)
      have hqv1 : q * v.getD (k + 2 - 2) 0 < 18446744073709551616 := hqv.1
      by_cases hB : r * 4294967296 + W.getD (j + (k + 2 - 2)) 0 < q * v.getD (k + 2 - 2) 0
      · have hQ : lv (win W j (k + 3)) / lv v < q := g.low hp.e hB
        have hq1 : 1 ≤ q := Nat.lt_of_le_of_lt (Nat.zero_le _) hQ
        have hq2 : (q + 18446744073709551616 - 1) % 18446744073709551616 = q - 1 := by omega
        by_cases hC : 4294967296 ≤ r + v.getD (k + 2 - 1) 0
        · refine J_seq (J_seq (J_regd 22 mixed (by kernel_rfl) (by decide) (st (s_move rfl) rfl (st (sF (by omega) (s_gt rfl rfl)) rfl (st (s_move rfl) rfl (sg1 rfl rfl (s_move rfl) rfl (sg1 rfl rfl (s_move rfl) rfl (sg1 rfl rfl (s_move rfl) rfl (sg1 rfl rfl (s_subN _ 2 rfl rfl (by omega) (by omega)) rfl ?_)))))))))
          refine sg1 rfl rfl (s_indexIN rfl rfl (by omega)) rfl (sg1 rfl rfl (s_load rfl) rfl (sg1 rfl rfl (s_toU64 rfl (by omega)) rfl (sg1 rfl rfl (s_mulU rfl rfl (by omega)) rfl (sg1 rfl rfl (s_move rfl) rfl (sg1 rfl rfl (s_shl32 rfl (by omega)) rfl (sg1 rfl rfl (s_move rfl) rfl (sg1 rfl rfl (s_move rfl) rfl (sg1 rfl rfl (s_subN _ 2 rfl rfl (by omega) (by omega)) rfl (sg1 rfl rfl (s_indexW rfl rfl (by omega)) rfl ?_)))))))))
          refine sg1 rfl rfl (s_loadE 0 rfl rfl (by omega)) rfl (sg1 rfl rfl (s_toU64 rfl (by omega)) rfl (sg1 rfl rfl (s_orHL rfl rfl (by omega) (by omega)) rfl (sg1 rfl rfl (sT (by omega) (s_gt rfl rfl)) rfl (st (s_pickF rfl rfl) rfl (Run.nil (Run.nil (pj_then (J_cond1 rfl (J_skip ?_)))))))))
          refine pj_then (J_block (J_seq (J_reg (st (s_move rfl) rfl (st (s_subU rfl rfl (by omega) (by decide)) rfl (st (s_assign rfl) rfl (Run.nil (pj_then (J_seq ?_)))))))))
          refine J_reg (st (s_move rfl) rfl (st (s_move rfl) rfl (st (s_addU rfl rfl (by omega)) rfl (st (s_assign rfl) rfl (Run.nil (pj_then (J_seq (J_reg (st (s_move rfl) rfl ?_)))))))))
          refine st (sT (by omega) (s_gt rfl rfl)) rfl (Run.nil (pj_then (J_cond1 rfl (J_exit (px_block_ne rfl (px_then (px_block ?_)))))))
          rw [hq2]
          refine pj_cut (q - 1) (hp.last g hQ hC) (by repeat (first | exact SubG.refl _ | exact SubG.nil | refine SubG.cons rfl (VT.le_refl _) ?_ | (refine SubG.cons rfl (one_le ?_) ?_; (congr 1; first | omega | (simp; omega) | simp)))) (.keep (Own.le_refl _) (.nil))
        · refine J_seq (J_seq (J_regd 22 mixed (by kernel_rfl) (by decide) (st (s_move rfl) rfl (st (sF (by omega) (s_gt rfl rfl)) rfl (st (s_move rfl) rfl (sg1 rfl rfl (s_move rfl) rfl (sg1 rfl rfl (s_move rfl) rfl (sg1 rfl rfl (s_move rfl) rfl (sg1 rfl rfl (s_subN _ 2 rfl rfl (by omega) (by omega)) rfl ?_)))))))))
          refine sg1 rfl rfl (s_indexIN rfl rfl (by omega)) rfl (sg1 rfl rfl (s_load rfl) rfl (sg1 rfl rfl (s_toU64 rfl (by omega)) rfl (sg1 rfl rfl (s_mulU rfl rfl (by omega)) rfl (sg1 rfl rfl (s_move rfl) rfl (sg1 rfl rfl (s_shl32 rfl (by omega)) rfl (sg1 rfl rfl (s_move rfl) rfl (sg1 rfl rfl (s_move rfl) rfl (sg1 rfl rfl (s_subN _ 2 rfl rfl (by omega) (by omega)) rfl (sg1 rfl rfl (s_indexW rfl rfl (by omega)) rfl ?_)))))))))
          refine sg1 rfl rfl (s_loadE 0 rfl rfl (by omega)) rfl (sg1 rfl rfl (s_toU64 rfl (by omega)) rfl (sg1 rfl rfl (s_orHL rfl rfl (by omega) (by omega)) rfl (sg1 rfl rfl (sT (by omega) (s_gt rfl rfl)) rfl (st (s_pickF rfl rfl) rfl (Run.nil (Run.nil (pj_then (J_cond1 rfl (J_skip ?_)))))))))
          refine pj_then (J_block (J_seq (J_reg (st (s_move rfl) rfl (st (s_subU rfl rfl (by omega) (by decide)) rfl (st (s_assign rfl) rfl (Run.nil (pj_then (J_seq ?_)))))))))
          refine J_reg (st (s_move rfl) rfl (st (s_move rfl) rfl (st (s_addU rfl rfl (by omega)) rfl (st (s_assign rfl) rfl (Run.nil (pj_then (J_seq (J_reg (st (s_move rfl) rfl ?_)))))))))
          refine st (sF (by omega) (s_gt rfl rfl)) rfl (Run.nil (pj_then (J_cond0 rfl (J_skip (pn_block ?_)))))
          rw [hq2]
          refine pj_roundM ((q - 1, r + v.getD (k + 1) 0)) (hp.next hQ (Nat.lt_of_not_le hC)) (by omega) (by repeat (first | exact SubG.refl _ | exact SubG.nil | refine SubG.cons rfl (VT.le_refl _) ?_ | (refine SubG.cons rfl (one_le ?_) ?_; (congr 1; first | omega | (simp; omega) | simp)))) (.keep (Own.le_refl _) (.nil))
      · refine J_seq (J_seq (J_regd 22 mixed (by kernel_rfl) (by decide) (st (s_move rfl) rfl (st (sF (by omega) (s_gt rfl rfl)) rfl (st (s_move rfl) rfl (sg1 rfl rfl (s_move rfl) rfl (sg1 rfl rfl (s_move rfl) rfl (sg1 rfl rfl (s_move rfl) rfl (sg1 rfl rfl (s_subN _ 2 rfl rfl (by omega) (by omega)) rfl ?_)))))))))
        refine sg1 rfl rfl (s_indexIN rfl rfl (by omega)) rfl (sg1 rfl rfl (s_load rfl) rfl (sg1 rfl rfl (s_toU64 rfl (by omega)) rfl (sg1 rfl rfl (s_mulU rfl rfl (by omega)) rfl (sg1 rfl rfl (s_move rfl) rfl (sg1 rfl rfl (s_shlU (s := 32) rfl rfl (by omega) (by omega)) rfl (sg1 rfl rfl (s_move rfl) rfl (sg1 rfl rfl (s_move rfl) rfl (sg1 rfl rfl (s_subN _ 2 rfl rfl (by omega) (by omega)) rfl (sg1 rfl rfl (s_indexW rfl rfl (by omega)) rfl ?_)))))))))
        refine sg1 rfl rfl (s_loadE 0 rfl rfl (by omega)) rfl (sg1 rfl rfl (s_toU64 rfl (by omega)) rfl (sg1 rfl rfl (s_orHL rfl rfl (by omega) (by omega)) rfl (sg1 rfl rfl (sF (by omega) (s_gt rfl rfl)) rfl (st (s_pickF rfl rfl) rfl (Run.nil (Run.nil (pj_then (J_cond0 rfl (J_exit ?_)))))))))
        refine px_then (px_then (px_block ?_))
        have hqB : q < 4294967296 := by omega
        refine pj_cut (q) (⟨hqB, hp.q, g.done hp.e hqB (.inl (Nat.le_of_not_lt hB))⟩) (by repeat (first | exact SubG.refl _ | exact SubG.nil | refine SubG.cons rfl (VT.le_refl _) ?_ | (refine SubG.cons rfl (one_le ?_) ?_; (congr 1; first | omega | (simp; omega) | simp)))) (.keep (Own.le_refl _) (.nil))
  · obtain ⟨hq1, hq2, hq3⟩ := hq
    have lu := lw
    refine pj_then (J_seq (J_reg (st (s_assign rfl) rfl (st (s_assign rfl) rfl (Run.nil (pj_then (J_seq (J_seq (J_reg ?_)))))))))
    refine st (s_move rfl) rfl (st (s_len rfl) rfl (st (s_move rfl) rfl (Run.nil (pj_then (J_block (J_sub (Γ' := [(0, _), (1, _), (4, _), (5, _), (8, _), (10, _), (11, _), (74, _), (75, _), (76, _)]) (SubG.cons rfl (VT.le_refl _) (SubG.cons rfl (VT.le_refl _) (SubG.cons rfl (VT.le_refl _) (SubG.cons rfl (VT.le_refl _) (SubG.cons rfl (VT.le_refl _) (SubG.cons rfl (VT.le_refl _) (SubG.cons rfl (VT.le_refl _) (SubG.cons rfl (VT.le_refl _) (SubG.cons rfl (VT.le_refl _) (SubG.cons rfl (VT.le_refl _) (SubG.nil))))))))))) (SubM.refl _) ?_))))))
    refine J_loopA (σ := List Nat × Nat × Nat × Nat) (Γk := [(0, _), (1, _), (4, _), (5, _), (8, _), (74, _), (75, _)]) (SubG.cons rfl (VT.le_refl _) (SubG.cons rfl (VT.le_refl _) (SubG.cons rfl (VT.le_refl _) (SubG.cons rfl (VT.le_refl _) (SubG.cons rfl (VT.le_refl _) (SubG.cons rfl (VT.le_refl _) (SubG.cons rfl (VT.le_refl _) (SubG.nil)))))))) (fun s => [(76, one (.int .i64 (s.2.1 : Nat))), (10, one (.int .u64 (s.2.2.1 : Nat))), (11, one (.int .u64 (s.2.2.2 : Nat)))]) (fun s M0 => (M0.set 0 (sliO (some b) 110 .one N N (limF s.1)))) (fun s => DgS W v j k q s) (fun s => k + 2 - s.2.1) ((W, 0, 0, 0)) (⟨Outside.refl _ _ _, hW, SubR.start (hW.win _ _)⟩) (by repeat (first | exact SubG.refl _ | exact SubG.nil | refine SubG.cons rfl (VT.le_refl _) ?_ | (refine SubG.cons rfl (one_le ?_) ?_; (congr 1; first | omega | (simp; omega) | simp)))) (.keep (Own.le_refl _) (.nil)) (fun s hs => ?_)
    refine J_norm (Γ' := [(76, _), (10, _), (11, _), (0, _), (1, _), (4, _), (5, _), (8, _), (74, _), (75, _)]) (M' := [_]) rfl rfl ?_
    obtain ⟨W1, i, br, c⟩ := s
    dsimp only at hs ⊢
    have h1o := hs.out
    have h1l := hs.lim
    have h1s := hs.sub
    dsimp only at h1o h1l h1s
    have hbr := h1s.hb
    have hcr := h1s.hc
    have hN1 : W1.length = N := h1o.1.trans hN
    refine J_seq (J_reg (st (s_lt rfl rfl) rfl (Run.nil (pj_then (J_seq ?_)))))
    refine J_if rfl (fun hc => ?_) (fun hc => ?_)
    · have hi : i < k + 2 := by omega
      have z1 := getD_lt h1l (j + i)
      have v1 := getD_lt hv i
      have sl := sub_lim hq1 v1 hcr
      have sl1 := sl.1
      have sl2 := sl.2.1
      have sl3 := sl.2.2
      obtain ⟨d, hd⟩ : ∃ d, d = ((W1.getD (j + i) 0 + 18446744073709551616 - (c + q * v.getD i 0) % 4294967296) % 18446744073709551616 + 18446744073709551616 - br) % 18446744073709551616 := ⟨_, rfl⟩
      have hst := h1s.step hv hq1 (by omega) (by rw [lu, hk]; omega) (d := d) (by rw [win_getD (by omega)]; exact hd)
      rw [← win_set (by omega)] at hst
      refine J_skip (pj_then (J_seq (J_block (J_seq (J_reg (st (s_move rfl) rfl (st (s_indexIN rfl rfl (by omega)) rfl (st (s_load rfl) rfl (st (s_assign rfl) rfl ?_)))))))))
      refine st (s_assign rfl) rfl (Run.nil (pj_then (J_seq (J_reg (st (s_move rfl) rfl (st (s_move rfl) rfl (st (s_move rfl) rfl (st (s_toU64 rfl (by omega)) rfl (st (s_mulU rfl rfl (by omega)) rfl ?_)))))))))
      refine st (s_addU rfl rfl (by omega)) rfl (st (s_assign rfl) rfl (Run.nil (pj_then (J_seq (J_reg (st (s_move rfl) rfl (st (s_move rfl) rfl (st (s_indexW rfl rfl (by omega)) rfl (st (s_loadE 0 rfl rfl (by omega)) rfl ?_)))))))))
      refine st (s_toU64 rfl (by omega)) rfl (st (s_move rfl) rfl (st (s_andM rfl (by omega)) rfl (st (s_subU rfl rfl (by omega) (by omega)) rfl (st (s_move rfl) rfl (st (s_subU rfl rfl (by omega) (by omega)) rfl (st (s_assign rfl) rfl (Run.nil (pj_then (J_seq ?_)))))))))
      refine J_reg (st (s_move rfl) rfl (st (s_move rfl) rfl (st (s_move rfl) rfl (st (s_toU32 rfl) rfl (st (s_indexW rfl rfl (by omega)) rfl ?_)))))
      (refine a_storeE 0 rfl rfl rfl ?_ rfl ?_; omega)
      refine Run.nil (pj_then (J_seq (J_reg (st (s_move rfl) rfl (st (s_shr63 rfl) rfl (st (s_assign rfl) rfl (Run.nil (pj_then (J_reg ?_)))))))))
      refine st (s_move rfl) rfl (st (s_shr32 rfl) rfl (st (s_assign rfl) rfl (Run.nil (pn_block (pj_then (J_reg (st (s_addN _ 1 rfl rfl (by omega)) rfl (st (s_move rfl) rfl (Run.nil ?_)))))))))
      rw [← hd]
      refine pj_roundM ((W1.set (j + i) (d % 4294967296), i + 1, d / 9223372036854775808, (c + q * v.getD i 0) / 4294967296)) (⟨h1o.set (by omega), h1l.set (Nat.mod_lt _ (by decide)), hst⟩) (by (simp only []; omega)) (by repeat (first | exact SubG.refl _ | exact SubG.nil | refine SubG.cons rfl (VT.le_refl _) ?_ | (refine SubG.cons rfl (one_le ?_) ?_; (congr 1; first | omega | (simp; omega) | simp)))) (.keep (lim_setF (by omega) rfl) (.nil))
    · have hi : i = k + 2 := by have := h1s.le; omega
      subst hi
      have z1 := getD_lt h1l (j + (k + 2))
      obtain ⟨d, hd⟩ : ∃ d, d = ((W1.getD (j + (k + 2)) 0 + 18446744073709551616 - c) % 18446744073709551616 + 18446744073709551616 - br) % 18446744073709551616 := ⟨_, rfl⟩
      have h1v : SubR (win W j (k + 3)) v q (win W1 j (k + 3)) v.length br c := by rw [hk]; exact h1s
      have hdw : d = (((win W1 j (k + 3)).getD v.length 0 + 18446744073709551616 - c) % 18446744073709551616 + 18446744073709551616 - br) % 18446744073709551616 := by rw [hk, win_getD (by omega)]; exact hd
      refine J_exit (px_then (px_then (px_block (pj_then (J_seq (J_reg (st (s_move rfl) rfl (st (s_move rfl) rfl (st (s_indexW rfl rfl (by omega)) rfl ?_)))))))))
      refine st (s_loadE 0 rfl rfl (by omega)) rfl (st (s_toU64 rfl (by omega)) rfl (st (s_move rfl) rfl (st (s_subU rfl rfl (by omega) (by omega)) rfl (st (s_move rfl) rfl (st (s_subU rfl rfl (by omega) (by omega)) rfl (st (s_assign rfl) rfl (Run.nil (pj_then (J_seq ?_)))))))))
      refine J_reg (st (s_move rfl) rfl (st (s_move rfl) rfl (st (s_move rfl) rfl (st (s_toU32 rfl) rfl (st (s_indexW rfl rfl (by omega)) rfl ?_)))))
      (refine a_storeE 0 rfl rfl rfl ?_ rfl ?_; omega)
      refine Run.nil (pj_then (J_seq (J_seq (J_reg (st (s_move rfl) rfl (st (s_shr63 rfl) rfl (st (s_eq rfl rfl) rfl (Run.nil (pj_then ?_)))))))))
      rw [← hd]
      refine J_if rfl (fun h0 => ?_) (fun h0 => ?_)
      · obtain ⟨f1, f2, f3⟩ := h1v.good (by rw [lu, hk]) g.V0 hq2 hdw (by omega)
        rw [hk, ← win_set (by omega)] at f3
        refine J_seq (J_reg (st (s_move rfl) rfl (st (s_toU32 rfl) rfl (st (s_assign rfl) rfl (Run.nil (pj_then (J_ret (pr_then ?_))))))))
        refine retI1 (⟨W1.set (j + (k + 2)) (d % 4294967296), h1o.set (by omega), h1l.set (Nat.mod_lt _ (by decide)), f3⟩ : DigS W v j k) Tryz.results130 (.tmp rfl (one_le (by rw [← f1, Nat.mod_eq_of_lt hq1]))) (.keep (lim_setF (by omega) rfl) .nil)
      · obtain ⟨f1, f2, f3⟩ := h1v.bad (by rw [lu, hk]) g.V0 hq2 hq3 hdw (by omega)
        rw [hk, ← win_set (by omega)] at f3
        obtain ⟨W2, hW2⟩ : ∃ W2, W2 = W1.set (j + (k + 2)) (d % 4294967296) := ⟨_, rfl⟩
        have h2o : Outside W W2 j (k + 3) := hW2 ▸ h1o.set (by omega)
        have h2l : Limbs W2 := hW2 ▸ h1l.set (Nat.mod_lt _ (by decide))
        have hN2 : W2.length = N := h2o.1.trans hN
        rw [← hW2] at f3
        refine J_skip (pj_then (J_seq (J_reg (st (s_assign rfl) rfl (Run.nil (pj_then (J_seq (J_seq (J_reg ?_)))))))))
        refine st (s_move rfl) rfl (st (s_len rfl) rfl (st (s_move rfl) rfl (Run.nil (pj_then (J_block (J_sub (Γ' := [(0, _), (4, _), (5, _), (8, _), (11, _), (126, _), (127, _), (128, _)]) (SubG.cons rfl (VT.le_refl _) (SubG.cons rfl (VT.le_refl _) (SubG.cons rfl (VT.le_refl _) (SubG.cons rfl (VT.le_refl _) (SubG.cons rfl (VT.le_refl _) (SubG.cons rfl (VT.le_refl _) (SubG.cons rfl (VT.le_refl _) (SubG.cons rfl (VT.le_refl _) (SubG.nil))))))))) (SubM.refl _) ?_))))))
        refine J_loopA (σ := List Nat × Nat × Nat) (Γk := [(0, _), (4, _), (5, _), (8, _), (126, _), (127, _)]) (SubG.cons rfl (VT.le_refl _) (SubG.cons rfl (VT.le_refl _) (SubG.cons rfl (VT.le_refl _) (SubG.cons rfl (VT.le_refl _) (SubG.cons rfl (VT.le_refl _) (SubG.cons rfl (VT.le_refl _) (SubG.nil))))))) (fun s => [(128, one (.int .i64 (s.2.1 : Nat))), (11, one (.int .u64 (s.2.2 : Nat)))]) (fun s M0 => (M0.set 0 (sliO (some b) 110 .one N N (limF s.1)))) (fun s => DgB W W2 v j k s) (fun s => k + 2 - s.2.1) ((W2, 0, 0)) (⟨h2o, h2l, BackR.start (h2l.win _ _)⟩) (by repeat (first | exact SubG.refl _ | exact SubG.nil | refine SubG.cons rfl (VT.le_refl _) ?_ | (refine SubG.cons rfl (one_le ?_) ?_; (congr 1; first | omega | (simp; omega) | simp)))) (.keep (by (subst hW2; exact lim_setF (by omega) rfl)) (.nil)) (fun s hs => ?_)
        refine J_norm (Γ' := [(128, _), (11, _), (0, _), (4, _), (5, _), (8, _), (126, _), (127, _)]) (M' := [_]) rfl rfl ?_
        obtain ⟨W3, i, c3⟩ := s
        dsimp only at hs ⊢
        have h3o := hs.out
        have h3l := hs.lim
        have h3s := hs.back
        dsimp only at h3o h3l h3s
        have hcr := h3s.hc
        have hN3 : W3.length = N := h3o.1.trans hN
        have lu2 : (win W2 j (k + 3)).length = k + 3 := win_len (by omega)
        refine J_seq (J_reg (st (s_lt rfl rfl) rfl (Run.nil (pj_then (J_seq ?_)))))
        refine J_if rfl (fun hc => ?_) (fun hc => ?_)
        · have hi : i < k + 2 := by omega
          have z1 := getD_lt h3l (j + i)
          have v1 := getD_lt hv i
          have hst := h3s.step hv (by omega) (by rw [lu2, hk]; omega)
          rw [win_getD (by omega), ← win_set (by omega)] at hst
          refine J_skip (pj_then (J_seq (J_block (J_seq (J_reg (st (s_move rfl) rfl (st (s_indexIN rfl rfl (by omega)) rfl (st (s_load rfl) rfl (st (s_assign rfl) rfl ?_)))))))))
          refine st (s_assign rfl) rfl (Run.nil (pj_then (J_seq (J_reg (st (s_move rfl) rfl (st (s_move rfl) rfl (st (s_move rfl) rfl (st (s_indexW rfl rfl (by omega)) rfl (st (s_loadE 0 rfl rfl (by omega)) rfl ?_)))))))))
          refine st (s_toU64 rfl (by omega)) rfl (st (s_move rfl) rfl (st (s_toU64 rfl (by omega)) rfl (st (s_addU rfl rfl (by omega)) rfl (st (s_addU rfl rfl (by omega)) rfl (st (s_assign rfl) rfl (Run.nil (pj_then (J_seq (J_reg ?_)))))))))
          refine st (s_move rfl) rfl (st (s_move rfl) rfl (st (s_move rfl) rfl (st (s_toU32 rfl) rfl (st (s_indexW rfl rfl (by omega)) rfl ?_))))
          (refine a_storeE 0 rfl rfl rfl ?_ rfl ?_; omega)
          refine Run.nil (pj_then (J_reg (st (s_move rfl) rfl (st (s_shr32 rfl) rfl (st (s_assign rfl) rfl (Run.nil (pn_block (pj_then (J_reg ?_)))))))))
          refine st (s_addN _ 1 rfl rfl (by omega)) rfl (st (s_move rfl) rfl (Run.nil ?_))
          refine pj_roundM ((W3.set (j + i) ((c3 + (W3.getD (j + i) 0 + v.getD i 0)) % 4294967296), i + 1, (c3 + (W3.getD (j + i) 0 + v.getD i 0)) / 4294967296)) (⟨h3o.set (by omega), h3l.set (Nat.mod_lt _ (by decide)), hst⟩) (by (simp only []; omega)) (by repeat (first | exact SubG.refl _ | exact SubG.nil | refine SubG.cons rfl (VT.le_refl _) ?_ | (refine SubG.cons rfl (one_le ?_) ?_; (congr 1; first | omega | (simp; omega) | simp)))) (.keep (lim_setF (by omega) rfl) (.nil))
        · have hi : i = k + 2 := by have := h3s.le; omega
          subst hi
          have z1 := getD_lt h3l (j + (k + 2))
          have h3v : BackR (win W2 j (k + 3)) v (win W3 j (k + 3)) v.length c3 := by rw [hk]; exact h3s
          obtain ⟨f4, f5⟩ := h3v.good (R := lv (win W j (k + 3)) % lv v) (x := (W3.getD (j + (k + 2)) 0 + c3) % 4294967296) (by rw [lu2, hk]) (Nat.mod_lt _ g.V0) hv (by rw [hk]; exact f3) (by rw [hk, win_getD (by omega)])
          rw [hk, ← win_set (by omega)] at f5
          refine J_exit (px_then (px_then (px_block (pj_then (J_seq (J_reg (st (s_move rfl) rfl (st (s_move rfl) rfl (st (s_indexW rfl rfl (by omega)) rfl ?_)))))))))
          refine st (s_loadE 0 rfl rfl (by omega)) rfl (st (s_move rfl) rfl (st (s_toU32 rfl) rfl (st (s_addW rfl rfl) rfl (st (s_indexW rfl rfl (by omega)) rfl ?_))))
          (refine a_storeE 0 rfl rfl rfl ?_ rfl ?_; omega)
          refine Run.nil (pj_then (J_seq (J_reg (st (s_move rfl) rfl (st (s_subU rfl rfl (by omega) (by decide)) rfl (st (s_toU32 rfl) rfl (st (s_assign rfl) rfl (Run.nil (pj_then ?_)))))))))
          refine J_ret ?_
          have e1 : (q + 18446744073709551616 - 1) % 18446744073709551616 % 4294967296 = lv (win W j (k + 3)) / lv v := q_sub f1 hq1
          refine retI1 (⟨W3.set (j + (k + 2)) ((W3.getD (j + (k + 2)) 0 + c3) % 4294967296), h3o.set (by omega), h3l.set (Nat.mod_lt _ (by decide)), f5⟩ : DigS W v j k) Tryz.results130 (.tmp rfl (one_le (by rw [e1]))) (.keep (lim_setF (by omega) (by rw [Nat.mod_eq_of_lt (show c3 < 4294967296 by omega)])) .nil)
end Tor
end
section
namespace Tor
open Go Go.RowKit Go.Proofs
theorem drop_win (U : List Nat) {j m : Nat} (h : j + m ≤ U.length) : lv (U.drop j) = lv (win U j m) + 4294967296 ^ m * lv (U.drop (j + m)) := by
  have h1 := lv_split (U.drop j) m (by simp; omega)
  rw [List.drop_drop] at h1
  exact h1
theorem lv_drop_succ {U : List Nat} {j : Nat} (h : j < U.length) : lv (U.drop j) = U.getD j 0 + 4294967296 * lv (U.drop (j + 1)) := by
  rw [drop_getD h]; rfl
structure DivR (V A n e : Nat) (p : List Nat × List Nat × Nat) : Prop where
  le : p.2.2 ≤ e + 1
  lu : p.1.length = n + e + 1
  lq : p.2.1.length = e + 1
  limU : Limbs p.1
  limQ : Limbs p.2.1
  zero : ∀ k, k < p.2.2 → p.2.1.getD k 0 = 0
  lt : lv (p.1.drop p.2.2) < V
  val : lv p.1 + lv p.2.1 * V = A
theorem DivR.pre {V A n e j : Nat} {U Q : List Nat} (h : DivR V A n e (U, Q, j + 1)) (hV : V < 4294967296 ^ n) : j + (n + 1) ≤ U.length ∧ lv (U.drop (j + (n + 1))) = 0 ∧ lv (U.drop j) = lv (win U j (n + 1)) ∧ lv (win U j (n + 1)) < V * 4294967296 := by
  have hle : j + 1 ≤ e + 1 := h.le
  have hlu : U.length = n + e + 1 := h.lu
  have hlt : lv (U.drop (j + 1)) < V := h.lt
  have h1 : j + (n + 1) ≤ U.length := by omega
  have h2 := lv_drop_succ (U := U) (j := j) (by omega)
  have h3 := drop_win U h1
  have hd := getD_lt (show Limbs U from h.limU) j
  have h4 : lv (U.drop j) < V * 4294967296 := by
    rw [h2]
    generalize lv (U.drop (j + 1)) = x at *
    generalize U.getD j 0 = y at *
    omega
  have h5 : lv (U.drop (j + (n + 1))) = 0 := by
    rcases Nat.eq_zero_or_pos (lv (U.drop (j + (n + 1)))) with h | h
    · exact h
    · exfalso
      have h6 : 4294967296 ^ (n + 1) ≤ 4294967296 ^ (n + 1) * lv (U.drop (j + (n + 1))) := Nat.le_mul_of_pos_right _ h
      have h7 : V * 4294967296 < 4294967296 ^ (n + 1) := by rw [Nat.pow_succ]; exact Nat.mul_lt_mul_of_pos_right hV (by decide)
      omega
  rw [h5, Nat.mul_zero, Nat.add_zero] at h3
  exact ⟨h1, h5, h3, h3 ▸ h4⟩
theorem DivR.step {V A n e j q : Nat} {U Q U' : List Nat} (h : DivR V A n e (U, Q, j + 1)) (hV0 : 0 < V) (hV : V < 4294967296 ^ n) (ho : Outside U U' j (n + 1)) (hl : Limbs U') (hr : lv (win U' j (n + 1)) = lv (win U j (n + 1)) % V) (hq : q = lv (win U j (n + 1)) / V) :
    DivR V A n e (U', Q.set j q, j) := by
  obtain ⟨p1, p2, p3, p4⟩ := h.pre hV
  obtain ⟨o1, o2, o3⟩ := ho
  have hle : j + 1 ≤ e + 1 := h.le
  have hlq : Q.length = e + 1 := h.lq
  have hqB : q < 4294967296 := by rw [hq]; exact Nat.div_lt_of_lt_mul p4
  have h0 : Q.getD j 0 = 0 := h.zero j (Nat.lt_succ_self j)
  have hs := lv_set (l := Q) (k := j) (v := q) (by omega)
  rw [h0, Nat.mul_zero, Nat.add_zero] at hs
  have d1 := lv_split U j (by omega)
  have d2 := lv_split U' j (by omega)
  have e1 := drop_win U' (j := j) (m := n + 1) (by omega)
  rw [o3, p2, Nat.mul_zero, Nat.add_zero] at e1
  have hm := Nat.div_add_mod (lv (win U j (n + 1))) V
  have hv : lv U + lv Q * V = A := h.val
  refine ⟨Nat.le_of_succ_le hle, o1.trans h.lu, by rw [List.length_set]; exact h.lq, hl, Limbs.set h.limQ hqB, fun k hk => ?_, ?_, ?_⟩
  · simp only at hk ⊢
    rw [getD_setL (by omega), if_neg (by omega)]; exact h.zero k (Nat.lt_succ_of_lt hk)
  · show lv (U'.drop j) < V
    rw [e1, hr]; exact Nat.mod_lt _ hV0
  · show lv U' + lv (Q.set j q) * V = A
    rw [hs, ← hv, d1, d2, o2, e1, p3, hr, hq]
    generalize lv (win U j (n + 1)) = w at *
    have e2 : (lv Q + 4294967296 ^ j * (w / V)) * V = lv Q * V + 4294967296 ^ j * (V * (w / V)) := by rw [Nat.add_mul, Nat.mul_assoc, Nat.mul_comm (w / V)]
    have e3 : 4294967296 ^ j * w = 4294967296 ^ j * (V * (w / V)) + 4294967296 ^ j * (w % V) := by rw [← Nat.mul_add, hm]
    rw [e2, e3]; omega
theorem DivR.start {V A n e : Nat} {U : List Nat} (hU : Limbs U) (hlu : U.length = n + e + 1) (hA : lv U = A) (hlt : A < V * 4294967296 ^ (e + 1)) : DivR V A n e (U, List.replicate (e + 1) 0, e + 1) := by
  refine ⟨Nat.le_refl _, hlu, by simp, hU, Limbs.replicate _, fun k _ => getD_replicate0 _ _, ?_, by simp [lv_replicate, hA]⟩
  show lv (U.drop (e + 1)) < V
  have h1 := lv_split U (e + 1) (by omega)
  have h2 : lv (U.drop (e + 1)) * 4294967296 ^ (e + 1) < V * 4294967296 ^ (e + 1) := by
    rw [Nat.mul_comm]; omega
  exact Nat.lt_of_mul_lt_mul_right h2
theorem DivR.finish {a b s n e : Nat} {U Q : List Nat} (h : DivR (b * 2 ^ s) (a * 2 ^ s) n e (U, Q, 0)) (hb : 0 < b) : lv Q = a / b ∧ lv U = (a % b) * 2 ^ s := by
  have hp := Nat.two_pow_pos s
  have hlt : lv U < b * 2 ^ s := h.lt
  have hv : lv U + lv Q * (b * 2 ^ s) = a * 2 ^ s := h.val
  have hq : lv Q = a / b := by
    have h1 : lv Q * b ≤ a := by
      refine Nat.le_of_mul_le_mul_right (c := 2 ^ s) ?_ hp
      rw [Nat.mul_assoc]; omega
    have h2 : a < (lv Q + 1) * b := by
      refine Nat.lt_of_mul_lt_mul_right (a := 2 ^ s) ?_
      rw [Nat.mul_assoc, Nat.add_mul]; omega
    have h3 : lv Q ≤ a / b := (Nat.le_div_iff_mul_le hb).2 h1
    have h4 : a / b < lv Q + 1 := Nat.div_lt_of_lt_mul (by rw [Nat.mul_comm]; exact h2)
    omega
  refine ⟨hq, ?_⟩
  have hm := Nat.div_add_mod a b
  rw [hq] at hv
  have e1 : a * 2 ^ s = (b * (a / b)) * 2 ^ s + (a % b) * 2 ^ s := by rw [← Nat.add_mul, hm]
  have e2 : a / b * (b * 2 ^ s) = (b * (a / b)) * 2 ^ s := by rw [← Nat.mul_assoc, Nat.mul_comm (a / b)]
  omega
def shrL (U : List Nat) (s i : Nat) : Nat := (U.getD (i + 1) 0 * 4294967296 + U.getD i 0) / 2 ^ s % 4294967296
theorem lv_map_range (F : Nat → Nat) : ∀ (n i : Nat) (S : Nat → Nat), (∀ k, i ≤ k → k < i + n → S k = F k + 4294967296 * S (k + 1)) → S (i + n) = 0 → lv ((List.range' i n).map F) = S i
  | 0, i, S, _, h0 => by simpa [lv] using h0.symm
  | n + 1, i, S, h, h0 => by
    rw [List.range'_succ, List.map_cons, lv, lv_map_range F n (i + 1) S (fun k h1 h2 => h k (by omega) (by omega)) (by rw [← h0]; congr 1; omega), h i (Nat.le_refl _) (by omega)]
theorem shr_step {U : List Nat} (hU : Limbs U) {s i : Nat} (hs : s < 32) (hi : i + 1 < U.length) : lv (U.drop i) / 2 ^ s = shrL U s i + 4294967296 * (lv (U.drop (i + 1)) / 2 ^ s) := by
  have h1 := lv_drop_succ (U := U) (j := i) (by omega)
  have h2 := lv_drop_succ (U := U) (j := i + 1) hi
  have hp := Nat.two_pow_pos s
  obtain ⟨t, ht⟩ : ∃ t, 4294967296 = 2 ^ s * t := ⟨2 ^ (32 - s), by rw [← Nat.pow_add, show s + (32 - s) = 32 by omega]⟩
  have hd := getD_lt hU i
  have e1 : lv (U.drop i) / 2 ^ s % 4294967296 = shrL U s i := by
    unfold shrL
    rw [h1, h2]
    generalize lv (U.drop (i + 1 + 1)) = W
    generalize U.getD (i + 1) 0 = x
    generalize U.getD i 0 = y
    have : y + 4294967296 * (x + 4294967296 * W) = (x * 4294967296 + y) + 2 ^ s * (t * (4294967296 * W)) := by
      rw [← Nat.mul_assoc (2 ^ s), ← ht]; omega
    rw [this, Nat.add_mul_div_left _ _ hp]
    rw [show t * (4294967296 * W) = 4294967296 * (t * W) by rw [Nat.mul_left_comm], Nat.add_mul_mod_self_left]
  have e2 : lv (U.drop i) / 2 ^ s / 4294967296 = lv (U.drop (i + 1)) / 2 ^ s := by
    rw [Nat.div_div_eq_div_mul, Nat.mul_comm, ← Nat.div_div_eq_div_mul]
    congr 1
    rw [h1]; omega
  have := Nat.div_add_mod (lv (U.drop i) / 2 ^ s) 4294967296
  rw [e1, e2] at this
  omega
def shrList (U : List Nat) (s n : Nat) : List Nat := (List.range' 0 n).map (shrL U s)
theorem shr_val {U : List Nat} (hU : Limbs U) {s n : Nat} (hs : s < 32) (hn : n < U.length) (h0 : lv U < 4294967296 ^ n) : lv (shrList U s n) = lv U / 2 ^ s := by
  have h1 : lv (U.drop n) = 0 := by
    have h2 := lv_split U n (by omega)
    rcases Nat.eq_zero_or_pos (lv (U.drop n)) with h | h
    · exact h
    · have := Nat.le_mul_of_pos_right (4294967296 ^ n) h; omega
  have := lv_map_range (shrL U s) n 0 (fun k => lv (U.drop k) / 2 ^ s) (fun k _ hk => shr_step hU hs (by omega)) (by rw [Nat.zero_add, h1]; exact Nat.zero_div _)
  unfold shrList
  rw [this]; rfl
theorem shr_lim (U : List Nat) (s n : Nat) : Limbs (shrList U s n) := fun d hd => by
  obtain ⟨i, _, rfl⟩ := List.mem_map.1 hd
  exact Nat.mod_lt _ (by decide)
theorem map_range_get (F : Nat → Nat) {n i : Nat} (h : i < n) : ((List.range' 0 n).map F).getD i 0 = F i := by
  simp [List.getD, h]
theorem shr_get (U : List Nat) (s : Nat) {n i : Nat} (h : i < n) : (shrList U s n).getD i 0 = shrL U s i := map_range_get _ h
theorem shr_len (U : List Nat) (s n : Nat) : (shrList U s n).length = n := by unfold shrList; simp
theorem top_pos {l : List Nat} (h : Trimmed l) : ∀ {k : Nat}, l.length = k + 1 → l.getD k 0 ≠ 0 := by
  induction l with
  | nil => intro k h; simp at h
  | cons d l ih =>
    intro k hk
    cases l with
    | nil => simp at hk; subst hk; simpa using (show d ≠ 0 from h)
    | cons e l =>
      obtain ⟨j, rfl⟩ : ∃ j, k = j + 1 := ⟨k - 1, by simp at hk; omega⟩
      have := ih h.tail (k := j) (by simpa using hk)
      simpa using this
structure Shf (b : Nat) (l : List Nat) (s k : Nat) : Prop where
  s32 : s < 32
  lim : Limbs l
  lo : 2147483648 * 4294967296 ^ (k + 1) ≤ b * 2 ^ s
  hi : b * 2 ^ s < 4294967296 ^ (k + 2)
theorem shf_of {b k : Nat} (hk : (digs b).length = k + 2) : Shf b (digs b) (32 - blen ((digs b).getD (k + 1) 0)) k := by
  have hl := limbs_digs b
  have ht := top_pos (trimmed_digs b) (k := k + 1) hk
  have hd := getD_lt hl (k + 1)
  generalize hx : (digs b).getD (k + 1) 0 = x at *
  obtain ⟨j1, j2⟩ := blen_ge (x := x) (by omega) ht
  have j3 := blen_lt (x := x) (by omega)
  have j4 := blen_le (x := x) (n := 32) (by omega) (by decide)
  have hb : b = lv ((digs b).take (k + 1)) + 4294967296 ^ (k + 1) * x := by
    have e : digs b = (digs b).take (k + 2) := by rw [List.take_of_length_le (by omega)]
    have h1 := lv_take_succ (l := digs b) (k := k + 1) (by omega)
    rw [← e, lv_digs, hx] at h1; exact h1
  have hlo := lv_lt (hl.take (k + 1))
  rw [List.length_take_of_le (by omega)] at hlo
  generalize lv ((digs b).take (k + 1)) = y at *
  obtain ⟨t, ht2⟩ : ∃ t, blen x = t + 1 := ⟨blen x - 1, by omega⟩
  rw [ht2] at j2 j3 j4 ⊢
  rw [Nat.add_sub_cancel] at j2
  have p1 : 2 ^ t * 2 ^ (32 - (t + 1)) = 2147483648 := by rw [← Nat.pow_add, show t + (32 - (t + 1)) = 31 by omega]
  have p2 : 2 ^ (t + 1) * 2 ^ (32 - (t + 1)) = 4294967296 := by rw [← Nat.pow_add, show t + 1 + (32 - (t + 1)) = 32 by omega]
  have hp := Nat.two_pow_pos (32 - (t + 1))
  refine ⟨by omega, hl, ?_, ?_⟩
  · rw [← p1, hb]
    calc 2 ^ t * 2 ^ (32 - (t + 1)) * 4294967296 ^ (k + 1) ≤ x * 2 ^ (32 - (t + 1)) * 4294967296 ^ (k + 1) := Nat.mul_le_mul_right _ (Nat.mul_le_mul_right _ j2)
      _ = 4294967296 ^ (k + 1) * x * 2 ^ (32 - (t + 1)) := by rw [Nat.mul_comm, Nat.mul_assoc]
      _ ≤ _ := Nat.mul_le_mul_right _ (Nat.le_add_left _ _)
  · have h1 : b < 4294967296 ^ (k + 1) * (x + 1) := by rw [Nat.mul_add, Nat.mul_one]; omega
    calc b * 2 ^ (32 - (t + 1)) < 4294967296 ^ (k + 1) * (x + 1) * 2 ^ (32 - (t + 1)) := Nat.mul_lt_mul_of_pos_right h1 hp
      _ ≤ 4294967296 ^ (k + 1) * 2 ^ (t + 1) * 2 ^ (32 - (t + 1)) := Nat.mul_le_mul_right _ (Nat.mul_le_mul_left _ j3)
      _ = 4294967296 ^ (k + 2) := by rw [Nat.mul_assoc, p2, ← Nat.pow_succ]
theorem Shf.v {b s k : Nat} {l z : List Nat} (h : Shf b l s k) (hz : Limbs z) (hl : z.length = k + 3) (hv : lv z = b * 2 ^ s) :
    Limbs (z.take (k + 2)) ∧ (z.take (k + 2)).length = k + 2 ∧ lv (z.take (k + 2)) = b * 2 ^ s ∧ 2147483648 ≤ (z.take (k + 2)).getD (k + 1) 0 := by
  have h1 := lv_split z (k + 2) (by omega)
  have h0 : lv (z.drop (k + 2)) = 0 := by
    rcases Nat.eq_zero_or_pos (lv (z.drop (k + 2))) with h' | h'
    · exact h'
    · have := Nat.le_mul_of_pos_right (4294967296 ^ (k + 2)) h'; have := h.hi; omega
  rw [h0, Nat.mul_zero, Nat.add_zero, hv] at h1
  have hlen : (z.take (k + 2)).length = k + 2 := by rw [List.length_take_of_le (by omega)]
  have hL := hz.take (k + 2)
  refine ⟨hL, hlen, h1.symm, ?_⟩
  generalize z.take (k + 2) = v at *
  have h2 := lv_take_succ (l := v) (k := k + 1) (by omega)
  rw [List.take_of_length_le (by omega)] at h2
  have h3 := lv_lt (hL.take (k + 1))
  rw [List.length_take_of_le (by omega)] at h3
  have h4 := h.lo
  rw [h1, h2] at h4
  generalize lv (v.take (k + 1)) = y at *
  generalize v.getD (k + 1) 0 = x at *
  generalize 4294967296 ^ (k + 1) = B at *
  rcases Nat.lt_or_ge x 2147483648 with h5 | h5
  · have h6 : B * x + B ≤ B * 2147483648 := by rw [← Nat.mul_succ]; exact Nat.mul_le_mul_left _ h5
    rw [Nat.mul_comm 2147483648] at h4; omega
  · exact h5
theorem Shf.u {a b s k e : Nat} {l : List Nat} (h : Shf b l s k) (ha : (digs a).length = k + 2 + e) : a * 2 ^ s < b * 2 ^ s * 4294967296 ^ (e + 1) := by
  have h1 := lt_of_digs_len a
  rw [ha] at h1
  have h2 : 2 ^ s ≤ 2147483648 := Nat.pow_le_pow_right (n := 2) (by decide) (show s ≤ 31 by have := h.s32; omega)
  calc a * 2 ^ s < 4294967296 ^ (k + 2 + e) * 2 ^ s := Nat.mul_lt_mul_of_pos_right h1 (Nat.two_pow_pos s)
    _ ≤ 4294967296 ^ (k + 2 + e) * 2147483648 := Nat.mul_le_mul_left _ h2
    _ = 2147483648 * 4294967296 ^ (k + 1) * 4294967296 ^ (e + 1) := by rw [Nat.mul_assoc, ← Nat.pow_add, Nat.mul_comm, show k + 1 + (e + 1) = k + 2 + e by omega]
    _ ≤ b * 2 ^ s * 4294967296 ^ (e + 1) := Nat.mul_le_mul_right _ h.lo
end Tor
end
section
namespace Tor
open Go Go.RowKit Go.Proofs
theorem nil_nat : VT.le (one (.slice none 0 0)) (natT 0) := VT.le_trans nil_slT (natT_of (l := []) (fun _ h => by cases h) rfl)
theorem cmpN_lt {a b : Nat} : (cmpN a b < 0) = (a < b) := by unfold cmpN; split <;> simp_all <;> (try split) <;> omega
theorem one_limb {b : Nat} (h : (digs b).length = 1) : (digs b).getD 0 0 = b := by
  have h1 := lv_take_succ (l := digs b) (k := 0) (by omega)
  rw [List.take_of_length_le (by omega), lv_digs] at h1
  simpa [lv] using h1.symm
theorem one_nat {v : Nat} (h : v < 4294967296) : VT.le (slT .one 1 fun _ => one (.int .u32 (v : Nat))) (natT v) :=
  VT.le_trans (slT_le' (m := [v].length) (ψ := fun i => one (.int .u32 ([v].getD i 0 : Nat))) rfl (fun q hq => by
    have hq : q < 1 := hq
    have : q = 0 := by omega
    subst this; rfl)) (natT_of (l := [v]) (fun d hd => by simp at hd; omega) (by simp [lv]))
def padL : Nat → Nat → List Nat
  | 0, _ => []
  | n + 1, v => v % 4294967296 :: padL n (v / 4294967296)
theorem padL_len : ∀ n v, (padL n v).length = n
  | 0, _ => rfl
  | n + 1, v => by rw [padL, List.length_cons, padL_len n]
theorem padL_lim : ∀ n v, Limbs (padL n v)
  | 0, _ => fun d hd => by cases hd
  | n + 1, v => fun d hd => by
    rw [padL] at hd
    rcases List.mem_cons.1 hd with rfl | hd
    · exact Nat.mod_lt _ (by decide)
    · exact padL_lim n _ d hd
theorem padL_val : ∀ n v, v < 4294967296 ^ n → lv (padL n v) = v
  | 0, v, h => by simp at h; subst h; rfl
  | n + 1, v, h => by
    have : v / 4294967296 < 4294967296 ^ n := Nat.div_lt_of_lt_mul (by rw [Nat.mul_comm, ← Nat.pow_succ]; exact h)
    rw [padL, lv, padL_val n _ this]; omega
theorem pad_uniq : ∀ {z : List Nat}, Limbs z → z = padL z.length (lv z)
  | [], _ => rfl
  | d :: z, h => by
    have hd := h.head
    have ih := pad_uniq h.tail
    rw [List.length_cons, padL, lv]
    rw [show (d + 4294967296 * lv z) % 4294967296 = d by omega, show (d + 4294967296 * lv z) / 4294967296 = lv z by omega, ← ih]
theorem shift_lt {l : List Nat} {s : Nat} (hl : Limbs l) (hs : s < 32) : lv l * 2 ^ s < 4294967296 ^ (l.length + 1) := by
  rw [Nat.pow_succ]
  have h1 : 2 ^ s ≤ 4294967296 := Nat.pow_le_pow_right (n := 2) (by decide) (show s ≤ 32 by omega)
  exact Nat.lt_of_lt_of_le (Nat.mul_lt_mul_of_pos_right (lv_lt hl) (Nat.two_pow_pos s)) (Nat.mul_le_mul_left _ h1)
def shift0 (l : List Nat) (s : Nat) (hl : Limbs l) (hs : s < 32) : ShiftS l s := ⟨(0, padL (l.length + 1) (lv l * 2 ^ s)), padL_len _ _, padL_lim _ _, padL_val _ _ (shift_lt hl hs)⟩
theorem shiftV_ok (l : List Nat) (s : Nat) (hl : Limbs l) (h1 : l.length ≤ 1099511627776) (hs : s < 32) : Ok Tryz.prog 129 [limT l, one (.int .i64 (s : Nat))] (slT .one (l.length + 1) (limF (padL (l.length + 1) (lv l * 2 ^ s)))) :=
  (shift_ok l s hl h1 hs).ok fun p => by
    have h := pad_uniq p.2.2.1
    rw [p.2.1, p.2.2.2] at h
    rw [← h]
    exact Ent.sl List.mem_cons_self
theorem take_limF {z : List Nat} {q m : Nat} (h : q < m) : limF z (Int.toNat 0 + q) = limF (z.take m) q := by
  have e : Int.toNat 0 + q = q := Nat.zero_add q
  rw [e]
  unfold limF
  rw [show (z.take m).getD q 0 = z.getD q 0 by simp [List.getD, List.getElem?_take, h]]
theorem shr_upd {br : Option Nat} {T : TypeId} {n i s : Nat} {U : List Nat} (hi : i < n) : Own.le (sliO br T .one n n (upd (fun q => one (.int .u32 ((if q < i then (shrList U s n).getD q 0 else 0 : Nat) : Int))) i (one (.int .u32 (((U.getD (i + 1) 0 * 4294967296 + U.getD i 0) / 2 ^ s % 4294967296 : Nat) : Int)))))
    (sliO br T .one n n (fun q => one (.int .u32 ((if q < i + 1 then (shrList U s n).getD q 0 else 0 : Nat) : Int)))) := sliO_eq (fun q hq => by
  unfold upd
  by_cases h : q = i
  · subst h; rw [if_pos rfl, if_pos (Nat.lt_succ_self q), shr_get U s hi]; rfl
  · rw [if_neg h]
    dsimp only
    by_cases h2 : q < i
    · rw [if_pos h2, if_pos (Nat.lt_succ_of_lt h2)]
    · rw [if_neg h2, if_neg (by omega)])
attribute [local irreducible] Tor.J Tor.PJ Tor.StepO Tor.one Tor.slT Tor.ptrT Tor.aggT Tor.tupT Tor.exT Tor.andT Tor.eP Tor.boxO Tor.sliO Tor.slV Tor.VT.le Tor.Ret Tor.anyT
set_option maxHeartbeats 4000000 in
set_option maxRecDepth 20000 in
theorem divide_ok (a b : Nat) (hb : b ≠ 0) (ha : (digs a).length ≤ 1099511627776) : Ok Tryz.prog 120 [limT (digs a), limT (digs b)] (tupT [natT (a / b), natT (a % b)]) := by
  have hcl := Clone_ok (digs a) ha
  have hcm := compare_ok a b
  refine Ok.enter Tryz.func120 rfl Tryz.ntmps120 rfl (fun w O => ?_)
  by_cases h1 : a < b
  · rw [Nat.div_eq_of_lt h1, Nat.mod_eq_of_lt h1]
    have hlt : cmpN a b < 0 := by rw [cmpN_lt]; exact h1
    refine J_seq (J_reg (st (s_assign rfl) rfl (st (s_assign rfl) rfl (Run.nil (pj_then (J_seq (J_block (J_seq (J_reg ?_)))))))))
    refine st (s_move rfl) rfl (st (s_move rfl) rfl ?_)
    refine st (s_callk (hcm ) rfl ⟨VT.le_refl _, VT.le_refl _, trivial⟩) rfl ?_
    refine st (sT (by assumption) (s_lt rfl rfl)) rfl (st (s_assign rfl) rfl (Run.nil (pj_then (J_cond1 rfl (J_seq (J_reg (st (s_move rfl) rfl ?_)))))))
    refine st (s_callk (hcl ) rfl ⟨VT.le_refl _, trivial⟩) rfl ?_
    refine st (s_assign rfl) rfl (st (s_assign rfl) rfl (Run.nil (pj_then (J_ret (pr_block (pr_then ?_))))))
    refine retc2 Tryz.results120 (.tmp rfl (nil_nat)) (.tmp rfl (natT_digs _))
  · have hlt : ¬ cmpN a b < 0 := by rw [cmpN_lt]; exact h1
    have hlen := digs_len_le' (Nat.le_of_not_lt h1)
    by_cases h2 : (digs a).length ≤ 2
    · have hw1 := word_ok (digs a) (limbs_digs a) h2
      have hw2 := word_ok (digs b) (limbs_digs b) (by omega)
      rw [lv_digs] at hw1 hw2
      have a64 : a < 18446744073709551616 := Nat.lt_of_lt_of_le (lt_of_digs_len a) (Nat.pow_le_pow_right (n := 4294967296) (by decide) h2)
      have b64 : b < 18446744073709551616 := by omega
      have q64 : a / b < 18446744073709551616 := Nat.lt_of_le_of_lt (Nat.div_le_self _ _) a64
      have r64 : a % b < 18446744073709551616 := Nat.lt_of_le_of_lt (Nat.mod_le _ _) a64
      have hk1 := limbs_ok (a / b) q64
      have hk2 := limbs_ok (a % b) r64
      refine J_seq (J_reg (st (s_assign rfl) rfl (st (s_assign rfl) rfl (Run.nil (pj_then (J_seq (J_block (J_seq (J_reg ?_)))))))))
      refine st (s_move rfl) rfl (st (s_move rfl) rfl ?_)
      refine st (s_callk (hcm ) rfl ⟨VT.le_refl _, VT.le_refl _, trivial⟩) rfl ?_
      refine st (sF (by assumption) (s_lt rfl rfl)) rfl (st (s_assign rfl) rfl (Run.nil (pj_then (J_cond0 rfl (J_seq (J_reg (st (s_move rfl) rfl (st (s_len rfl) rfl (st (sT (by omega) (s_le rfl rfl)) rfl ?_)))))))))
      refine st (s_assign rfl) rfl (Run.nil (pj_then (J_cond1 rfl (J_seq (J_reg (st (s_move rfl) rfl ?_))))))
      refine st (s_callk (hw1 ) rfl ⟨VT.le_refl _, trivial⟩) rfl ?_
      refine st (s_move rfl) rfl ?_
      refine st (s_callk (hw2 ) rfl ⟨VT.le_refl _, trivial⟩) rfl ?_
      refine st (s_assign rfl) rfl (st (s_assign rfl) rfl (Run.nil (pj_then (J_seq (J_regd 9 mixed (by kernel_rfl) (by decide) (st (s_move rfl) rfl (st (s_move rfl) rfl (st (s_quoU rfl rfl (by omega) (by omega)) rfl ?_))))))))
      refine st (s_callk (hk1 ) rfl ⟨VT.le_refl _, trivial⟩) rfl ?_
      refine st (s_move rfl) rfl (st (s_move rfl) rfl (st (s_remN _ rfl rfl rfl (by omega)) rfl ?_))
      refine st (s_callk (hk2 ) rfl ⟨VT.le_refl _, trivial⟩) rfl ?_
      refine st (s_assign rfl) rfl (Run.nil (st (s_assign rfl) rfl (Run.nil (pj_then (J_ret (pr_block (pr_then ?_)))))))
      refine retc2 Tryz.results120 (.tmp rfl (VT.le_refl _)) (.tmp rfl (VT.le_refl _))
    · by_cases h3 : (digs b).length = 1
      · have hb1 := one_limb h3
        have hd := getD_lt (limbs_digs b) 0
        have hsh := short_ok (digs a) b (limbs_digs a) ha (by omega) (by omega)
        rw [lv_digs] at hsh
        have hr := Nat.mod_lt a (show 0 < b by omega)
        refine J_seq (J_reg (st (s_assign rfl) rfl (st (s_assign rfl) rfl (Run.nil (pj_then (J_seq (J_block (J_seq (J_reg ?_)))))))))
        refine st (s_move rfl) rfl (st (s_move rfl) rfl ?_)
        refine st (s_callk (hcm ) rfl ⟨VT.le_refl _, VT.le_refl _, trivial⟩) rfl ?_
        refine st (sF (by assumption) (s_lt rfl rfl)) rfl (st (s_assign rfl) rfl (Run.nil (pj_then (J_cond0 rfl (J_seq (J_reg (st (s_move rfl) rfl (st (s_len rfl) rfl (st (sF (by omega) (s_le rfl rfl)) rfl ?_)))))))))
        refine st (s_assign rfl) rfl (Run.nil (pj_then (J_cond0 rfl (J_seq (J_reg (st (s_move rfl) rfl (st (s_len rfl) rfl (st (sT (by omega) (s_eq rfl rfl)) rfl (st (s_assign rfl) rfl ?_)))))))))
        refine Run.nil (pj_then (J_cond1 rfl (J_seq (J_reg (st (s_move rfl) rfl (st (s_move rfl) rfl (st (s_indexI rfl rfl (by omega) (by omega)) rfl (st (s_load rfl) rfl ?_))))))))
        refine st (s_callk (hsh ) rfl ⟨VT.le_refl _, (one_le (by rw [show (digs b).getD (Int.toNat 0) 0 = b from hb1])), trivial⟩) rfl ?_
        refine st (s_move rfl) rfl (st (s_extract rfl rfl) rfl (st (s_extract rfl rfl) rfl (st (s_assign rfl) rfl (st (s_assign rfl) rfl (Run.nil (pj_then (J_seq (J_reg (st (s_move rfl) rfl ?_)))))))))
        refine st (s_move rfl) rfl (stS1 rfl rfl rfl rfl (st (s_assign rfl) rfl (st (s_assign rfl) rfl (Run.nil (pj_then (J_ret (pr_block (pr_then ?_))))))))
        refine retc2 Tryz.results120 (.tmp rfl (VT.le_refl _)) (.tmp rfl (one_nat (by omega)))
      · have hdb : digs b ≠ [] := fun h => hb (by rw [← lv_digs b, h]; rfl)
        obtain ⟨k, hk⟩ : ∃ k, (digs b).length = k + 2 := ⟨(digs b).length - 2, by have := List.length_pos_iff.2 hdb; omega⟩
        obtain ⟨e, he⟩ : ∃ e, (digs a).length = k + 2 + e := ⟨(digs a).length - (k + 2), by omega⟩
        have hx := getD_lt (limbs_digs b) ((digs b).length - 1)
        have S0 := shf_of hk
        rw [show k + 1 = (digs b).length - 1 by omega] at S0
        have hlz := LZ32_ok ((digs b).getD ((digs b).length - 1) 0) hx
        generalize 32 - blen ((digs b).getD ((digs b).length - 1) 0) = s at S0 hlz
        have s32 := S0.s32
        have hsv := shiftV_ok (digs b) s (limbs_digs b) (by omega) s32
        have hsu := shift_ok (digs a) s (limbs_digs a) ha s32
        refine J_seq (J_reg (st (s_assign rfl) rfl (st (s_assign rfl) rfl (Run.nil (pj_then (J_seq (J_block (J_seq (J_reg ?_)))))))))
        refine st (s_move rfl) rfl (st (s_move rfl) rfl ?_)
        refine st (s_callk (hcm ) rfl ⟨VT.le_refl _, VT.le_refl _, trivial⟩) rfl ?_
        refine st (sF (by assumption) (s_lt rfl rfl)) rfl (st (s_assign rfl) rfl (Run.nil (pj_then (J_cond0 rfl (J_seq (J_reg (st (s_move rfl) rfl (st (s_len rfl) rfl (st (sF (by omega) (s_le rfl rfl)) rfl ?_)))))))))
        refine st (s_assign rfl) rfl (Run.nil (pj_then (J_cond0 rfl (J_seq (J_reg (st (s_move rfl) rfl (st (s_len rfl) rfl (st (sF (by omega) (s_eq rfl rfl)) rfl (st (s_assign rfl) rfl ?_)))))))))
        refine Run.nil (pj_then (J_cond0 rfl (J_skip (pn_block (pj_then (J_seq (J_reg (st (s_move rfl) rfl (st (s_move rfl) rfl ?_)))))))))
        refine st (s_len rfl) rfl (st (s_subN _ 1 rfl rfl (by omega) (by omega)) rfl (st (s_indexIN rfl rfl (by omega)) rfl (st (s_load rfl) rfl ?_)))
        refine st (s_callk (hlz ) rfl ⟨VT.le_refl _, trivial⟩) rfl ?_
        refine st (s_move rfl) rfl (st (s_len rfl) rfl (st (s_assign rfl) rfl (st (s_assign rfl) rfl (Run.nil (pj_then (J_seq (J_sub (Γ' := [(0, _), (1, _), (4, _), (5, _), (10, _), (11, _)]) (SubG.cons rfl (VT.le_refl _) (SubG.cons rfl (VT.le_refl _) (SubG.cons rfl (VT.le_refl _) (SubG.cons rfl (VT.le_refl _) (SubG.cons rfl (VT.le_refl _) (SubG.cons rfl (VT.le_refl _) (SubG.nil))))))) (SubM.refl _) ?_)))))))
        refine J_regM (σ := ShiftS (digs a) s) 2 (shift0 (digs a) s (limbs_digs a) s32) (fun p => one (slV (some p.1.1) ((digs a).length + 1) ((digs a).length + 1))) (fun p => [sliO (some p.1.1) 110 .one ((digs a).length + 1) ((digs a).length + 1) (limF p.1.2)]) mixed (by kernel_rfl) (by decide) ?_
        refine vx rfl (fun s B => s_move rfl) rfl ?_
        refine vx rfl (fun s B => s_move rfl) rfl ?_
        refine vc rfl hsu (fun s => rfl) ⟨VT.le_refl _, VT.le_refl _, trivial⟩ rfl ?_
        refine vx rfl (fun s B => s_move rfl) rfl ?_
        refine vx rfl (fun s B => s_move rfl) rfl ?_
        refine vx rfl (fun s B => s_callk hsv rfl ⟨VT.le_refl _, VT.le_refl _, trivial⟩) rfl ?_
        refine vx rfl (fun s B => s_move rfl) rfl ?_
        refine vx rfl (fun s B => s_move rfl) rfl ?_
        refine vx rfl (fun s B => s_slice rfl rfl rfl rfl (fun _ => rfl) (by omega) (by omega) (by omega) (by omega)) rfl ?_
        refine vd rfl (by kernel_rfl) (fun s B => s_assign rfl) rfl ?_
        refine vx rfl (fun s B => s_assign rfl) rfl ?_
        refine .nil (fun p => ?_)
        obtain ⟨⟨bu, U⟩, hu1, hu2, hu3⟩ := p
        dsimp only at hu1 hu2 hu3 ⊢
        rw [lv_digs] at hu3
        rw [he] at hu1
        rw [lv_digs, hk, he]
        obtain ⟨z, hz⟩ : ∃ z, z = padL (k + 2 + 1) (b * 2 ^ s) := ⟨_, rfl⟩
        have z1 := padL_len (k + 2 + 1) (b * 2 ^ s)
        have z2 := padL_lim (k + 2 + 1) (b * 2 ^ s)
        have z3 := padL_val (k + 2 + 1) (b * 2 ^ s) (Nat.lt_of_lt_of_le S0.hi (Nat.pow_le_pow_right (by decide) (by omega)))
        rw [← hz] at z1 z2 z3 ⊢
        obtain ⟨v1, v2, v3, v4⟩ := S0.v z2 z1 z3
        refine PJ_sub (Γ' := [(0, slT .one (k + 2 + e) (limF (digs a))), (4, _), (5, _), (10, _), (11, one (.int .i64 ((k + 2 : Nat) : Int))), (12, one (slV (some bu) (k + 2 + e + 1) (k + 2 + e + 1))), (13, limT (z.take (k + 2)))]) (.cons rfl (slT_le' he (fun _ _ => rfl)) (.cons rfl (VT.le_refl _) (.cons rfl (VT.le_refl _) (.cons rfl (VT.le_refl _) (.cons rfl (VT.le_refl _) (.cons rfl (VT.le_refl _) (.cons rfl ?_ .nil))))))) (SubM.refl _) ?_
        · exact slT_le' (by rw [v2]; omega) (fun q hq => take_limF (by omega))
        generalize z.take (k + 2) = v at *
        have hV0 : 0 < b * 2 ^ s := Nat.mul_pos (by omega) (Nat.two_pow_pos s)
        have hVn := S0.hi
        have hA := S0.u he
        refine pj_then (J_seq (J_reg (st (s_move rfl) rfl (st (s_len rfl) rfl (st (s_move rfl) rfl (st (s_subN _ _ rfl rfl (by omega) (by omega)) rfl (st (s_addN _ 1 rfl rfl (by omega)) rfl ?_)))))))
        refine a_makeSlice (e + 1) (e + 1) rfl rfl (by omega) (by omega) (Nat.le_refl _) rfl rfl (by omega) rfl rfl (fun bz => ?_)
        refine st (s_assign rfl) rfl (Run.nil (pj_then (J_seq (J_seq (J_reg (st (s_move rfl) rfl (st (s_len rfl) rfl (st (s_move rfl) rfl (st (s_subN _ _ rfl rfl (by omega) (by omega)) rfl ?_)))))))))
        refine st (s_assign rfl) rfl (Run.nil (pj_then (J_block (J_sub (Γ' := [(4, _), (5, _), (10, _), (11, _), (12, _), (13, _), (14, _), (15, _)]) (SubG.cons rfl (VT.le_refl _) (SubG.cons rfl (VT.le_refl _) (SubG.cons rfl (VT.le_refl _) (SubG.cons rfl (VT.le_refl _) (SubG.cons rfl (VT.le_refl _) (SubG.cons rfl (VT.le_refl _) (SubG.cons rfl (VT.le_refl _) (SubG.cons rfl (VT.le_refl _) (SubG.nil))))))))) (SubM.refl _) ?_))))
        refine J_loopA (σ := List Nat × List Nat × Nat) (Γk := [(4, _), (5, _), (10, _), (11, _), (12, _), (13, _), (14, _)]) (SubG.cons rfl (VT.le_refl _) (SubG.cons rfl (VT.le_refl _) (SubG.cons rfl (VT.le_refl _) (SubG.cons rfl (VT.le_refl _) (SubG.cons rfl (VT.le_refl _) (SubG.cons rfl (VT.le_refl _) (SubG.cons rfl (VT.le_refl _) (SubG.nil)))))))) (fun p => [(15, one (.int .i64 ((p.2.2 : Nat) - 1 : Int)))]) (fun p M0 => ((M0.set 0 (sliO (some bz) 110 .one (e + 1) (e + 1) (limF p.2.1))).set 1 (sliO (some bu) 110 .one (k + 2 + e + 1) (k + 2 + e + 1) (limF p.1)))) (fun p => DivR (b * 2 ^ s) (a * 2 ^ s) (k + 2) e p) (fun p => p.2.2) ((U, List.replicate (e + 1) 0, e + 1)) (DivR.start hu2 hu1 hu3 hA) (by repeat (first | exact SubG.refl _ | exact SubG.nil | refine SubG.cons rfl (VT.le_refl _) ?_ | (refine SubG.cons rfl (one_le ?_) ?_; (congr 1; first | omega | (simp; omega) | simp)))) (.keep (sliO_eq (fun q _ => by unfold limF; rw [getD_replicate0]; rfl)) (.keep (Own.le_refl _) (.nil))) (fun p hp => ?_)
        refine J_norm (Γ' := [(15, _), (4, _), (5, _), (10, _), (11, _), (12, _), (13, _), (14, _)]) (M' := [_, _]) rfl rfl ?_
        obtain ⟨U1, Q, c⟩ := p
        dsimp only at hp ⊢
        have hu1 : U1.length = k + 2 + e + 1 := hp.lu
        have hq1 : Q.length = e + 1 := hp.lq
        have hcl : c ≤ e + 1 := hp.le
        refine J_seq (J_seq (J_reg (st (s_move rfl) rfl (st (s_ge rfl rfl) rfl (Run.nil (pj_then ?_))))))
        cases c with
        | zero =>
          refine J_condF rfl (by omega) (J_exit (px_then (px_then (px_block (pj_then (J_seq (J_reg (st (s_move rfl) rfl ?_))))))))
          obtain ⟨f1, f2⟩ := hp.finish (by omega)
          refine a_makeSlice (k + 2) (k + 2) rfl rfl rfl rfl (Nat.le_refl _) rfl rfl (by omega) rfl rfl (fun br => ?_)
          refine st (s_assign rfl) rfl (Run.nil (pj_then (J_seq (J_seq (J_reg (st (s_move rfl) rfl (st (s_move rfl) rfl (Run.nil (pj_then ?_)))))))))
          refine J_block (J_sub (Γ' := [(4, _), (5, _), (10, _), (12, _), (14, _), (16, _), (102, _), (103, _)]) (SubG.cons rfl (VT.le_refl _) (SubG.cons rfl (VT.le_refl _) (SubG.cons rfl (VT.le_refl _) (SubG.cons rfl (VT.le_refl _) (SubG.cons rfl (VT.le_refl _) (SubG.cons rfl (VT.le_refl _) (SubG.cons rfl (VT.le_refl _) (SubG.cons rfl (VT.le_refl _) (SubG.nil))))))))) (SubM.refl _) ?_)
          refine J_loopA (σ := Nat) (Γk := [(4, _), (5, _), (10, _), (12, _), (14, _), (16, _), (102, _)]) (SubG.cons rfl (VT.le_refl _) (SubG.cons rfl (VT.le_refl _) (SubG.cons rfl (VT.le_refl _) (SubG.cons rfl (VT.le_refl _) (SubG.cons rfl (VT.le_refl _) (SubG.cons rfl (VT.le_refl _) (SubG.cons rfl (VT.le_refl _) (SubG.nil)))))))) (fun i => [(103, one (.int .i64 (i : Nat)))]) (fun i M0 => (M0.set 0 (sliO (some br) 110 .one (k + 2) (k + 2) (fun q => one (.int .u32 ((if q < i then (shrList U1 s (k + 2)).getD q 0 else 0 : Nat) : Int)))))) (fun i => i ≤ k + 2) (fun i => k + 2 - i) (0) (Nat.zero_le _) (by repeat (first | exact SubG.refl _ | exact SubG.nil | refine SubG.cons rfl (VT.le_refl _) ?_ | (refine SubG.cons rfl (one_le ?_) ?_; (congr 1; first | omega | (simp; omega) | simp)))) (.keep (Own.le_refl _) (.keep (Own.le_refl _) (.keep (Own.le_refl _) (.nil)))) (fun i hi => ?_)
          refine J_norm (Γ' := [(103, _), (4, _), (5, _), (10, _), (12, _), (14, _), (16, _), (102, _)]) (M' := [_, _, _]) rfl rfl (J_seq (J_reg (st (s_lt rfl rfl) rfl (Run.nil (pj_then (J_seq ?_))))))
          refine J_if rfl (fun hc => ?_) (fun hc => ?_)
          · have hik : i < k + 2 := by omega
            have g0 := getD_lt (show Limbs U1 from hp.limU) i
            have g1 := getD_lt (show Limbs U1 from hp.limU) (i + 1)
            refine J_skip (pj_then (J_seq (J_block (J_seq (J_reg (st (s_move rfl) rfl (st (s_assign rfl) rfl (Run.nil (pj_then ?_)))))))))
            refine J_regd 18 mixed (by kernel_rfl) (by decide) (st (s_move rfl) rfl (st (s_move rfl) rfl (st (s_move rfl) rfl (st (s_move rfl) rfl (st (s_addN _ 1 rfl rfl (by omega)) rfl (st (s_indexON rfl rfl (by omega)) rfl (st (s_loadE 2 rfl rfl (by omega)) rfl (st (s_toU64 rfl (by omega)) rfl (st (s_shlU (s := 32) rfl rfl (by omega) (by omega)) rfl ?_)))))))))
            refine st (s_move rfl) rfl (st (s_move rfl) rfl (st (s_indexON rfl rfl (by omega)) rfl (st (s_loadE 2 rfl rfl (by omega)) rfl (st (s_toU64 rfl (by omega)) rfl (st (s_orHL rfl rfl (by omega) (by omega)) rfl (st (s_move rfl) rfl ?_))))))
            refine st (s_shrU rfl rfl (by (show _ < 64; omega))) rfl ?_
            refine st (s_toU32 rfl) rfl (Run.nil (st (s_indexON rfl rfl (by omega)) rfl ?_))
            (refine a_storeE 0 rfl rfl rfl ?_ rfl ?_; omega)
            refine Run.nil (pn_block (pj_then (J_reg (st (s_addN _ 1 rfl rfl (by omega)) rfl (st (s_move rfl) rfl (Run.nil ?_))))))
            refine pj_roundM (i + 1) (by assumption) (by omega) (by repeat (first | exact SubG.refl _ | exact SubG.nil | refine SubG.cons rfl (VT.le_refl _) ?_ | (refine SubG.cons rfl (one_le ?_) ?_; (congr 1; first | omega | (simp; omega) | simp)))) (.keep (shr_upd hik) (.keep (Own.le_refl _) (.keep (Own.le_refl _) (.nil))))
          · have hik : i = k + 2 := by omega
            subst hik
            refine J_exit (px_then (px_then (px_block (pj_then (J_seq (J_reg (st (s_move rfl) rfl (st (s_move rfl) rfl (st (s_assign rfl) rfl ?_)))))))))
            refine st (s_assign rfl) rfl (Run.nil (pj_then (J_ret ?_)))
            have hlU : lv U1 < 4294967296 ^ (k + 2) := Nat.lt_trans (show lv (U1.drop 0) < _ from hp.lt) hVn
            have hrv : lv (shrList U1 s (k + 2)) = a % b := by rw [shr_val hp.limU s32 (by dsimp only; omega) hlU, f2, Nat.mul_div_cancel _ (Nat.two_pow_pos s)]
            refine PJ_freeze (t := 5) (i := 0) rfl rfl (PJ_freeze (t := 4) (i := 0) rfl rfl ?_)
            refine retc2 Tryz.results120 (.tmp rfl (VT.le_trans (slT_le' (m := Q.length) (ψ := limF Q) hq1.symm (fun _ _ => rfl)) (natT_of hp.limQ f1))) (.tmp rfl (VT.le_trans (slT_le' (m := (shrList U1 s (k + 2)).length) (ψ := limF (shrList U1 s (k + 2))) (shr_len _ _ _).symm (fun q hq => by rw [if_pos hq])) (natT_of (shr_lim _ _ _) hrv)))
        | succ j =>
          obtain ⟨p1, p2, p3, p4⟩ := hp.pre hVn
          have en : ((j + 1 : Nat) : Int) - 1 = (j : Nat) := by omega
          rw [en]
          refine J_condT rfl (by omega) (J_skip (pj_then (J_seq (J_block (J_reg (st (s_move rfl) rfl (st (s_move rfl) rfl (st (s_move rfl) rfl (st (s_move rfl) rfl ?_)))))))))
          refine st (s_move rfl) rfl (st (s_move rfl) rfl (st (s_addN _ _ rfl rfl (by omega)) rfl (st (s_addN _ 1 rfl rfl (by omega)) rfl (st (s_sliceW rfl rfl rfl (by omega) (by omega) (by omega)) rfl (st (s_move rfl) rfl ?_)))))
          refine a_callI (Min := [sliO (some bu) 110 .one (k + 2 + e + 1) (k + 2 + e + 1) (limF U1)]) (Kp := [sliO (some bz) 110 .one (e + 1) (e + 1) (limF Q)]) (digit_ok bu (k + 2 + e + 1) j (k + 2 + e + 1 - j) k U1 v hp.limU v1 hu1 (by omega) v2 (by omega) v4 (by rw [v3]; exact p4)) rfl ⟨one_le (by rw [show j + (k + 2) + 1 - j = k + 3 by omega]; rfl), VT.le_refl _, trivial⟩ (List.Perm.swap _ _ _) rfl rfl (fun r => ?_)
          obtain ⟨U2, o1, o2, o3⟩ := r
          dsimp only
          refine Run_perm (List.Perm.swap _ _ _) (st (s_indexON rfl rfl (by omega)) rfl ?_)
          (refine a_storeE 0 rfl rfl rfl ?_ rfl ?_; omega)
          refine Run.nil (pn_block (pj_then (J_reg (st (s_move rfl) rfl (st (s_sub rfl rfl (wrap_i64 (by omega) (by omega))) rfl (st (s_assign rfl) rfl (Run.nil ?_)))))))
          refine pj_roundM ((U2, Q.set j (lv (win U1 j (k + 3)) / lv v), j)) (hp.step hV0 hVn o1 o2 (by rw [o3, v3]) (by rw [v3])) (by (simp only []; omega)) (by repeat (first | exact SubG.refl _ | exact SubG.nil | refine SubG.cons rfl (VT.le_refl _) ?_ | (refine SubG.cons rfl (one_le ?_) ?_; (congr 1; first | omega | (simp; omega) | simp)))) (.keep (lim_setF (by omega) rfl) (.keep (Own.le_refl _) (.nil)))
end Tor
end
