/-
  Proofs that laws of this seat return true for every input, and that their arguments read afterwards as before.
  No condition.
-/
import Derived.Test.YtmpnikllhpagcaaZU4
import Derived.Test.YtmpnikllhpagcaaRows
section
set_option linter.unusedVariables false
set_option linter.unusedSimpArgs false
namespace Tor
open Go Go.RowKit Go.Proofs
/-- The sizes of a matrix, as a pair. -/
def pairT (r c : Int) : VT := aggT 2 [(0, .one, one (.int .i64 r)), (1, .one, one (.int .i64 c))]
instance {r c : Int} : Flat (pairT r c) (.agg 2) := by unfold pairT; infer_instance
attribute [local irreducible] Tor.J Tor.PJ Tor.StepO Tor.one Tor.slT Tor.ptrT Tor.aggT Tor.tupT Tor.exT Tor.andT Tor.gT Tor.eP Tor.boxO Tor.sliO Tor.slV Tor.VT.le Tor.Ret Tor.anyT
attribute [local irreducible] bigT Tor.rowsO
set_option maxHeartbeats 4000000 in
theorem sizes_ok (r c : Nat) (F : Nat → Nat → Int) : Ok Try.prog 81 [slT (.agg 3) 1 (fun _ => matF r c F)] (slT (.agg 2) 1 (fun _ => pairT r c)) := by
  unfold matF pairT
  refine Ok.enter Try.func81 rfl Try.ntmps81 rfl (fun w O => ?_)
  refine J_seq ?_
  refine J_reg ?_
  refine st (s_assign rfl) rfl ?_
  refine Run.nil ?_
  refine pj_then ?_
  refine J_seq ?_
  refine J_reg ?_
  refine st (s_assign rfl) rfl ?_
  refine Run.nil ?_
  refine pj_then ?_
  refine J_seq ?_
  refine J_seq ?_
  refine J_reg ?_
  refine st (s_move rfl) rfl ?_
  refine st (s_len rfl) rfl ?_
  refine st (s_move rfl) rfl ?_
  refine Run.nil ?_
  refine pj_then ?_
  refine J_block ?_
  refine J_rounds 2 ?_
  refine J_seq ?_
  refine J_reg ?_
  refine st (sT (by omega) (s_lt rfl rfl)) rfl ?_
  refine Run.nil ?_
  refine pj_then ?_
  refine J_seq ?_
  refine J_cond1 rfl ?_
  refine J_skip ?_
  refine pj_then ?_
  refine J_seq ?_
  refine J_block ?_
  refine J_seq ?_
  refine J_reg ?_
  (refine st (s_indexI rfl rfl ?_ ?_) rfl ?_; omega; omega)
  refine st (s_load rfl) rfl ?_
  refine a_allocS (T := 33) rfl rfl rfl (fun b5 => ?_)
  refine a_storeW 0 rfl rfl rfl rfl ?_
  refine Run.nil ?_
  refine pj_then ?_
  refine J_reg ?_
  refine st (s_move rfl) rfl ?_
  refine st (s_fieldAddr rfl) rfl ?_
  refine st (s_loadB 0 rfl rfl rfl) rfl ?_
  refine st (s_fieldAddr rfl) rfl ?_
  refine st (s_loadB 0 rfl rfl rfl) rfl ?_
  refine stB rfl rfl rfl ?_
  refine BuildK.cons rfl rfl rfl ?_
  refine BuildK.cons rfl rfl rfl ?_
  refine BuildK.nil ?_
  refine stS1 rfl rfl rfl rfl ?_
  (refine a_appendN rfl rfl (leN rfl) ?_ ?_ rfl (ltN rfl) (fun sv19 cap19 => ?_); omega; omega)
  refine st (s_assign rfl) rfl ?_
  refine Run.nil ?_
  refine pn_block ?_
  refine pj_then ?_
  refine J_reg ?_
  (refine st (s_add rfl rfl (wrap_i64 ?_ ?_)) rfl ?_; omega; omega)
  refine st (s_move rfl) rfl ?_
  refine Run.nil ?_
  refine pj_rounds ?_
  refine J_seq ?_
  refine J_reg ?_
  refine st (sF (by omega) (s_lt rfl rfl)) rfl ?_
  refine Run.nil ?_
  refine pj_then ?_
  refine J_seq ?_
  refine J_cond0 rfl ?_
  refine J_exit ?_
  refine px_then ?_
  refine px_then ?_
  refine px_block ?_
  refine pj_then ?_
  refine J_seq ?_
  refine J_reg ?_
  refine st (s_move rfl) rfl ?_
  refine st (s_assign rfl) rfl ?_
  refine Run.nil ?_
  refine pj_then ?_
  refine J_ret ?_
  refine PJ_freeze (t := 2) (i := 0) rfl rfl ?_
  refine retc1 Try.results81 (.tmp rfl (slT_le fun i hi => VT.le_refl _))
set_option maxHeartbeats 4000000 in
theorem sEq1_ok (r c r' c' : Nat) : Ok Try.prog 80 [slT (.agg 2) 1 (fun _ => pairT r c), slT (.agg 2) 1 (fun _ => pairT r' c')] (one (.bool (decide (r = r' ∧ c = c')))) := by
  unfold pairT
  refine Ok.enter Try.func80 rfl Try.ntmps80 rfl (fun w O => ?_)
  refine J_seq ?_
  refine J_reg ?_
  refine st (s_assign rfl) rfl ?_
  refine Run.nil ?_
  refine pj_then ?_
  refine J_seq ?_
  refine J_seq ?_
  refine J_reg ?_
  refine st (s_move rfl) rfl ?_
  refine st (s_len rfl) rfl ?_
  refine st (s_move rfl) rfl ?_
  refine st (s_len rfl) rfl ?_
  refine st (sF (by omega) (s_ne rfl rfl)) rfl ?_
  refine Run.nil ?_
  refine pj_then ?_
  refine J_cond0 rfl ?_
  refine J_skip ?_
  refine pj_then ?_
  refine J_seq ?_
  refine J_seq ?_
  refine J_reg ?_
  refine st (s_move rfl) rfl ?_
  refine st (s_len rfl) rfl ?_
  refine st (s_move rfl) rfl ?_
  refine Run.nil ?_
  refine pj_then ?_
  refine J_block ?_
  refine J_rounds 2 ?_
  by_cases h : r = r' ∧ c = c'
  · obtain ⟨rfl, rfl⟩ := h
    refine J_seq ?_
    refine J_reg ?_
    refine st (sT (by omega) (s_lt rfl rfl)) rfl ?_
    refine Run.nil ?_
    refine pj_then ?_
    refine J_seq ?_
    refine J_cond1 rfl ?_
    refine J_skip ?_
    refine pj_then ?_
    refine J_seq ?_
    refine J_block ?_
    refine J_seq ?_
    refine J_reg ?_
    refine st (s_move rfl) rfl ?_
    refine st (s_assign rfl) rfl ?_
    refine Run.nil ?_
    refine pj_then ?_
    refine J_seq ?_
    refine J_regd 9 mixed (by kernel_rfl) (by decide) ?_
    refine st (s_move rfl) rfl ?_
    refine st (s_move rfl) rfl ?_
    (refine st (s_indexI rfl rfl ?_ ?_) rfl ?_; omega; omega)
    refine st (s_load rfl) rfl ?_
    refine st (s_move rfl) rfl ?_
    refine st (s_move rfl) rfl ?_
    (refine st (s_indexI rfl rfl ?_ ?_) rfl ?_; omega; omega)
    refine st (s_load rfl) rfl ?_
    refine st (sF (fun h => h ⟨rfl, rfl⟩) (s_neP (by kernel_rfl) rfl rfl)) rfl ?_
    refine Run.nil ?_
    refine Run.nil ?_
    refine pj_then ?_
    refine J_cond0 rfl ?_
    refine J_skip ?_
    refine pn_block ?_
    refine pj_then ?_
    refine J_reg ?_
    (refine st (s_add rfl rfl (wrap_i64 ?_ ?_)) rfl ?_; omega; omega)
    refine st (s_move rfl) rfl ?_
    refine Run.nil ?_
    refine pj_rounds ?_
    refine J_seq ?_
    refine J_reg ?_
    refine st (sF (by omega) (s_lt rfl rfl)) rfl ?_
    refine Run.nil ?_
    refine pj_then ?_
    refine J_seq ?_
    refine J_cond0 rfl ?_
    refine J_exit ?_
    refine px_then ?_
    refine px_then ?_
    refine px_block ?_
    refine pj_then ?_
    refine J_seq ?_
    refine J_reg ?_
    refine st (s_assign rfl) rfl ?_
    refine Run.nil ?_
    refine pj_then ?_
    refine J_ret ?_
    refine retc1 Try.results80 (.tmp rfl (one_le (by simp)))
  · have h2 : ¬ ((r : Int) = r' ∧ (c : Int) = c') := fun hh => h ⟨by omega, by omega⟩
    refine J_seq ?_
    refine J_reg ?_
    refine st (sT (by omega) (s_lt rfl rfl)) rfl ?_
    refine Run.nil ?_
    refine pj_then ?_
    refine J_seq ?_
    refine J_cond1 rfl ?_
    refine J_skip ?_
    refine pj_then ?_
    refine J_seq ?_
    refine J_block ?_
    refine J_seq ?_
    refine J_reg ?_
    refine st (s_move rfl) rfl ?_
    refine st (s_assign rfl) rfl ?_
    refine Run.nil ?_
    refine pj_then ?_
    refine J_seq ?_
    refine J_regd 9 mixed (by kernel_rfl) (by decide) ?_
    refine st (s_move rfl) rfl ?_
    refine st (s_move rfl) rfl ?_
    (refine st (s_indexI rfl rfl ?_ ?_) rfl ?_; omega; omega)
    refine st (s_load rfl) rfl ?_
    refine st (s_move rfl) rfl ?_
    refine st (s_move rfl) rfl ?_
    (refine st (s_indexI rfl rfl ?_ ?_) rfl ?_; omega; omega)
    refine st (s_load rfl) rfl ?_
    refine st (sT (by assumption) (s_neP (by kernel_rfl) rfl rfl)) rfl ?_
    refine Run.nil ?_
    refine Run.nil ?_
    refine pj_then ?_
    refine J_cond1 rfl ?_
    refine J_seq ?_
    refine J_reg ?_
    refine st (s_assign rfl) rfl ?_
    refine Run.nil ?_
    refine pj_then ?_
    refine J_ret ?_
    refine pr_block ?_
    refine pr_then ?_
    refine pr_then ?_
    refine pr_block ?_
    refine pr_then ?_
    refine retc1 Try.results80 (.tmp rfl (one_le (by simp [h])))
set_option maxHeartbeats 4000000 in
theorem idxB_ok (n : Nat) (b : Nat → Bool) (hn : n ≤ 1048576) : Ok Try.prog 100 [slT .one n (fun i => one (.bool (b i))), one (.bool false)] (exT fun k : Int => andT ((0 ≤ k ↔ ¬ ∀ i, i < n → b i = true)) (one (.int .i64 k))) := by
  refine Ok.enter Try.func100 rfl Try.ntmps100 rfl (fun w O => ?_)
  refine J_seq ?_
  refine J_reg ?_
  refine st (s_assign rfl) rfl ?_
  refine Run.nil ?_
  refine pj_then ?_
  refine J_seq ?_
  refine J_seq ?_
  refine J_reg ?_
  refine st (s_move rfl) rfl ?_
  refine st (s_len rfl) rfl ?_
  refine st (s_move rfl) rfl ?_
  refine Run.nil ?_
  refine pj_then ?_
  refine J_block ?_
  refine J_sub (Γ' := [(0, _), (1, _), (4, _), (7, _), (8, _)]) (SubG.cons rfl (VT.le_refl _) (SubG.cons rfl (VT.le_refl _) (SubG.cons rfl (VT.le_refl _) (SubG.cons rfl (VT.le_refl _) (SubG.cons rfl (VT.le_refl _) (SubG.nil)))))) (SubM.refl _) ?_
  refine J_loopA (σ := Nat) (Γk := [(0, _), (1, _), (7, _)]) (SubG.cons rfl (VT.le_refl _) (SubG.cons rfl (VT.le_refl _) (SubG.cons rfl (VT.le_refl _) (SubG.nil)))) (fun i => [(8, one (.int .i64 (i : Nat)))]) (fun i M0 => M0) (fun i => i ≤ n ∧ ∀ j, j < i → b j = true) (fun i => n - i) (0) (⟨Nat.zero_le _, fun j hj => absurd hj (Nat.not_lt_zero _)⟩) (by repeat (first | exact SubG.refl _ | exact SubG.nil | refine SubG.cons rfl (VT.le_refl _) ?_ | (refine SubG.cons rfl (one_le ?_) ?_; (congr 1; first | omega | (simp; omega) | simp)))) (.nil) (fun i hi => ?_)
  refine J_norm (Γ' := [(8, _), (0, _), (1, _), (7, _)]) (M' := []) rfl rfl ?_
  refine J_seq ?_
  refine J_reg ?_
  refine st (s_lt rfl rfl) rfl ?_
  refine Run.nil ?_
  refine pj_then ?_
  refine J_seq ?_
  refine J_if rfl (fun hc => ?_) (fun hc => ?_)
  · have hin : i < n := by omega
    refine J_skip ?_
    refine pj_then ?_
    refine J_seq ?_
    refine J_block ?_
    refine J_seq ?_
    refine J_reg ?_
    refine st (s_move rfl) rfl ?_
    refine st (s_assign rfl) rfl ?_
    refine Run.nil ?_
    refine pj_then ?_
    refine J_seq ?_
    refine J_reg ?_
    refine st (s_move rfl) rfl ?_
    refine st (s_move rfl) rfl ?_
    refine st (s_move rfl) rfl ?_
    (refine st (s_indexIN rfl rfl ?_) rfl ?_; omega)
    refine st (s_load rfl) rfl ?_
    refine st (s_eqB rfl rfl) rfl ?_
    refine Run.nil ?_
    refine pj_then ?_
    refine J_ifB rfl (fun hb => ?_) (fun hb => ?_)
    · have hb : b i = false := by simpa using hb
      refine J_seq ?_
      refine J_reg ?_
      refine st (s_move rfl) rfl ?_
      refine st (s_assign rfl) rfl ?_
      refine Run.nil ?_
      refine pj_then ?_
      refine J_ret ?_
      refine pr_block ?_
      refine pr_then ?_
      refine pr_then ?_
      refine pr_block ?_
      refine pr_then ?_
      refine retc1 Try.results100 (.tmp rfl (le_exT (i : Int) (le_andT ⟨fun _ hall => absurd (hall i hin) (by simp [hb]), fun _ => by omega⟩ (VT.le_refl _))))
    · have hb : b i = true := by simpa using hb
      refine J_skip ?_
      refine pn_block ?_
      refine pj_then ?_
      refine J_reg ?_
      refine st (s_addN _ 1 rfl rfl (by omega)) rfl ?_
      refine st (s_move rfl) rfl ?_
      refine Run.nil ?_
      refine pj_roundM (i + 1) (⟨by omega, fun j hj => (Nat.lt_succ_iff_lt_or_eq.1 hj).elim (hi.2 j) (fun e => by subst e; exact hb)⟩) (by omega) (by repeat (first | exact SubG.refl _ | exact SubG.nil | refine SubG.cons rfl (VT.le_refl _) ?_ | (refine SubG.cons rfl (one_le ?_) ?_; (congr 1; first | omega | (simp; omega) | simp)))) (.nil)
  · refine J_exit ?_
    refine px_then ?_
    refine px_then ?_
    refine px_block ?_
    refine pj_then ?_
    refine J_seq ?_
    refine J_reg ?_
    refine st (s_assign rfl) rfl ?_
    refine Run.nil ?_
    refine pj_then ?_
    refine J_ret ?_
    refine retc1 Try.results100 (.tmp rfl (le_exT (-1 : Int) (le_andT ⟨fun h => by omega, fun h => absurd (fun j hj => hi.2 j (by omega)) h⟩ (VT.le_refl _))))
set_option maxHeartbeats 4000000 in
theorem contB_ok (n : Nat) (b : Nat → Bool) (hn : n ≤ 1048576) : Ok Try.prog 84 [slT .one n (fun i => one (.bool (b i))), one (.bool false)] (exT fun t : Bool => andT ((t = true ↔ ¬ ∀ i, i < n → b i = true)) (one (.bool t))) := by
  refine Ok.enter Try.func84 rfl Try.ntmps84 rfl (fun w O => ?_)
  refine J_seq ?_
  refine J_reg ?_
  refine st (s_assign rfl) rfl ?_
  refine Run.nil ?_
  refine pj_then ?_
  refine J_seq ?_
  refine J_reg ?_
  refine st (s_move rfl) rfl ?_
  refine st (s_move rfl) rfl ?_
  have hI := (idxB_ok n b hn).toM
  refine a_callM hI rfl ⟨VT.le_refl _, VT.le_refl _, trivial⟩ rfl rfl (fun s => ?_)
  obtain ⟨k, hk⟩ := s
  refine st (s_ge rfl rfl) rfl ?_
  refine st (s_assign rfl) rfl ?_
  refine Run.nil ?_
  refine pj_then ?_
  refine J_ret ?_
  refine retc1 Try.results84 (.tmp rfl (le_exT _ (le_andT (by simpa using hk) (VT.le_refl _))))
set_option maxHeartbeats 4000000 in
theorem eq1_ok (x y : Int) : Ok Try.prog 82 [bigT x, bigT y] (one (.bool (decide (x = y)))) := by
  refine Ok.enter Try.func82 rfl Try.ntmps82 rfl (fun w O => ?_)
  refine J_seq ?_
  refine J_reg ?_
  refine a_box rfl rfl (ltN rfl) (fun b2 => ?_)
  refine a_box rfl rfl (ltN rfl) (fun b3 => ?_)
  refine st (s_assign rfl) rfl ?_
  refine Run.nil ?_
  refine pj_then ?_
  refine J_seq ?_
  refine J_reg ?_
  refine st (s_loadB 1 rfl rfl rfl) rfl ?_
  refine st (s_loadB 0 rfl rfl rfl) rfl ?_
  refine st (s_callk (CmpI_ok _ _) rfl ⟨VT.le_refl _, VT.le_refl _, trivial⟩) rfl ?_
  refine st (s_eq rfl rfl) rfl ?_
  refine st (s_assign rfl) rfl ?_
  refine Run.nil ?_
  refine pj_then ?_
  refine J_ret ?_
  refine retc1 Try.results82 (.tmp rfl (one_le (by congr 1; unfold cmpI; simp; split <;> (try split) <;> simp <;> omega)))
set_option maxHeartbeats 4000000 in
theorem scale1_ok (k x y : Int) (hk : small k) (hx : small x) : Ok Try.prog 79 [bigT x, bigT y, ptrT (.agg 2) (bigT k)] (bigT (k * x)) := by
  refine Ok.enter Try.func79 rfl Try.ntmps79 rfl (fun w O => ?_)
  refine J_seq ?_
  refine J_reg ?_
  refine a_box rfl rfl (ltN rfl) (fun b3 => ?_)
  refine a_box rfl rfl (ltN rfl) (fun b4 => ?_)
  refine a_alloc (T := 29) rfl (ltN rfl) (fun b5 => ?_)
  refine Run.nil ?_
  refine pj_then ?_
  refine J_seq ?_
  refine J_reg ?_
  refine st (s_load rfl) rfl ?_
  refine st (s_loadB 2 rfl rfl rfl) rfl ?_
  refine st (s_callk (MulI_ok _ _ (by assumption) (by assumption)) rfl ⟨VT.le_refl _, VT.le_refl _, trivial⟩) rfl ?_
  refine a_storeB 0 rfl rfl rfl rfl rfl (leN rfl) rfl ?_
  refine Run.nil ?_
  refine pj_then ?_
  refine J_ret ?_
  refine retc1 Try.results79 (.cellB 0 rfl rfl rfl (VT.le_refl _))
set_option maxHeartbeats 4000000 in
theorem each1_ok (n : Nat) (φ ψ χ : Nat → VT) [hF : ∀ i, Flat (χ i) (.agg 2)] (cl : VT) (hn : n ≤ 1048576) (hC : ∀ i, i < n → Callable Try.prog cl [φ i, ψ i] (χ i)) :
    Ok Try.prog 97 [slT (.agg 2) n φ, slT (.agg 2) n ψ, ptrT .one cl] (slT (.agg 2) n χ) := by
  refine Ok.enter Try.func97 rfl Try.ntmps97 rfl (fun w O => ?_)
  refine J_seq ?_
  refine J_reg ?_
  refine st (s_assign rfl) rfl ?_
  refine Run.nil ?_
  refine pj_then ?_
  refine J_seq ?_
  refine J_reg ?_
  refine st (s_move rfl) rfl ?_
  refine st (s_move rfl) rfl ?_
  refine st (s_load rfl) rfl ?_
  refine st (s_callk (combI_ok n φ ψ χ cl hn hC) rfl ⟨VT.le_refl _, VT.le_refl _, VT.le_refl _, trivial⟩) rfl ?_
  refine st (s_assign rfl) rfl ?_
  refine Run.nil ?_
  refine pj_then ?_
  refine J_ret ?_
  refine retc1 Try.results97 (.tmp rfl (VT.le_refl _))
theorem lit1_le {L : Lay} {φ : VT} : VT.le (slT L 1 (fun q => [φ].reverse.getD q anyT)) (slT L 1 (fun _ => φ)) := slT_le fun i hi => by
  have : i = 0 := by omega
  subst this; exact VT.le_refl _
/-- Element by element. -/
def eachF (f : Int → Int → Int) (F G : Nat → Nat → Int) : Nat → Nat → Int := fun i j => f (F i j) (G i j)
set_option maxHeartbeats 4000000 in
theorem each_ok (f : Int → Int → Int) (ra ca : Nat) (F : Nat → Nat → Int) (rb cb : Nat) (G : Nat → Nat → Int) (cl : VT) [hFl : Flat cl .one] (h1 : ra ≤ 1048576) (h2 : ca ≤ 1048576) (hC : ∀ i j, Callable Try.prog cl [bigT (F i j), bigT (G i j)] (bigT (f (F i j) (G i j)))) :
    Ok Try.prog 74 [matF ra ca F, matF rb cb G, cl] (resT (decide (ra = rb ∧ ca = cb)) 50 ra ca (eachF f F G)) := by
  have hv := valid2_ok ra ca F rb cb G
  have hs1 := sizes_ok ra ca F
  have hs2 := sizes_ok rb cb G
  have hq := sEq1_ok ra ca rb cb
  unfold resT
  refine Ok.enter Try.func74 rfl Try.ntmps74 rfl (fun w O => ?_)
  by_cases hne : ra = rb ∧ ca = cb
  · obtain ⟨rfl, rfl⟩ := hne
    rw [decide_eq_true ⟨rfl, rfl⟩] at hq ⊢
    unfold matF at *
    refine J_seq ?_
    refine J_reg ?_
    refine a_boxS rfl rfl (ltN rfl) (fun b3 => ?_)
    refine a_boxS rfl rfl (ltN rfl) (fun b4 => ?_)
    refine a_box rfl rfl (ltN rfl) (fun b5 => ?_)
    refine a_allocS (T := 33) rfl rfl rfl (fun b6 => ?_)
    refine st (s_assign rfl) rfl ?_
    refine Run.nil ?_
    refine pj_then ?_
    refine J_seq ?_
    refine J_seq ?_
    refine J_regd 15 mixed (by kernel_rfl) (by decide) ?_
    refine st (s_loadW 3 rfl rfl) rfl ?_
    refine st (s_loadW 2 rfl rfl) rfl ?_
    refine stS rfl rfl rfl rfl ?_
    refine PartsK.cons rfl ?_
    refine PartsK.cons rfl ?_
    refine PartsK.nil ?_
    refine st (s_callk (hv ) rfl ⟨(two_mat2), trivial⟩) rfl ?_
    refine st (s_not rfl) rfl ?_
    refine st (s_move rfl) rfl ?_
    refine sg1 rfl rfl (s_loadW 3 rfl rfl) rfl ?_
    refine stSg rfl rfl rfl rfl rfl rfl ?_
    refine PartsK.cons rfl ?_
    refine PartsK.nil ?_
    refine sg1 rfl rfl (s_callk (hs1 ) rfl ⟨(lit1_le), trivial⟩) rfl ?_
    refine sg1 rfl rfl (s_loadW 2 rfl rfl) rfl ?_
    refine stSg rfl rfl rfl rfl rfl rfl ?_
    refine PartsK.cons rfl ?_
    refine PartsK.nil ?_
    refine sg1 rfl rfl (s_callk (hs2 ) rfl ⟨(lit1_le), trivial⟩) rfl ?_
    refine sg1 rfl rfl (s_callk (hq ) rfl ⟨VT.le_refl _, VT.le_refl _, trivial⟩) rfl ?_
    refine sg1 rfl rfl (s_not rfl) rfl ?_
    refine st (s_pickF rfl rfl) rfl ?_
    refine Run.nil ?_
    refine Run.nil ?_
    refine pj_then ?_
    refine J_cond0 rfl ?_
    refine J_skip ?_
    refine pj_then ?_
    refine J_seq ?_
    refine J_reg ?_
    refine st (s_fieldAddr rfl) rfl ?_
    refine st (s_loadB 3 rfl rfl rfl) rfl ?_
    refine st (s_fieldAddr rfl) rfl ?_
    refine st (s_loadB 2 rfl rfl rfl) rfl ?_
    refine st (s_makeFunc rfl) rfl ?_
    refine Run_open [boxO b5 _ _ [(0, .one, cl)]] (permPick 1 rfl) (.keep (EntO.refl _) (.keep (EntO.refl _) (.keep (EntO.refl _) .nil))) (EntG.set (t := 29) rfl (Ent.clo1 (Ent.ptr List.mem_cons_self List.mem_cons_self))) ?_
    have hcomb := combR_ok ra (fun i => rowF ca (F i)) (fun i => rowF ca (G i)) (fun i => rowF ca (eachF f F G i)) (cloT 97 [ptrT .one cl]) h1 (fun i hi => Callable.clo (each1_ok ca _ _ _ cl h2 (fun j hj => hC i j)))
    refine st (s_callk (hcomb ) rfl ⟨VT.le_refl _, VT.le_refl _, VT.le_refl _, trivial⟩) rfl ?_
    refine st (s_assign rfl) rfl ?_
    refine Run.nil ?_
    refine pj_then ?_
    refine J_seq ?_
    refine J_reg ?_
    refine st (s_fieldAddr rfl) rfl ?_
    refine st (s_loadB 2 rfl rfl rfl) rfl ?_
    refine st (s_fieldAddr rfl) rfl ?_
    refine st (s_loadB 2 rfl rfl rfl) rfl ?_
    refine st (s_move rfl) rfl ?_
    refine stB rfl rfl rfl ?_
    refine BuildK.cons rfl rfl rfl ?_
    refine BuildK.cons rfl rfl rfl ?_
    refine BuildK.cons rfl rfl rfl ?_
    refine BuildK.nil ?_
    refine a_storeW 0 rfl rfl rfl rfl ?_
    refine st (s_assign rfl) rfl ?_
    refine Run.nil ?_
    refine pj_then ?_
    refine J_ret ?_
    refine retc2 Try.results74 (.cellW 0 rfl rfl (VT.le_refl _)) (.tmp rfl (VT.le_refl _))
  · rw [decide_eq_false hne] at hq ⊢
    unfold matF at *
    refine J_seq ?_
    refine J_reg ?_
    refine a_boxS rfl rfl (ltN rfl) (fun b3 => ?_)
    refine a_boxS rfl rfl (ltN rfl) (fun b4 => ?_)
    refine a_box rfl rfl (ltN rfl) (fun b5 => ?_)
    refine a_allocS (T := 33) rfl rfl rfl (fun b6 => ?_)
    refine st (s_assign rfl) rfl ?_
    refine Run.nil ?_
    refine pj_then ?_
    refine J_seq ?_
    refine J_seq ?_
    refine J_regd 15 mixed (by kernel_rfl) (by decide) ?_
    refine st (s_loadW 3 rfl rfl) rfl ?_
    refine st (s_loadW 2 rfl rfl) rfl ?_
    refine stS rfl rfl rfl rfl ?_
    refine PartsK.cons rfl ?_
    refine PartsK.cons rfl ?_
    refine PartsK.nil ?_
    refine st (s_callk (hv ) rfl ⟨(two_mat2), trivial⟩) rfl ?_
    refine st (s_not rfl) rfl ?_
    refine st (s_move rfl) rfl ?_
    refine sg1 rfl rfl (s_loadW 3 rfl rfl) rfl ?_
    refine stSg rfl rfl rfl rfl rfl rfl ?_
    refine PartsK.cons rfl ?_
    refine PartsK.nil ?_
    refine sg1 rfl rfl (s_callk (hs1 ) rfl ⟨(lit1_le), trivial⟩) rfl ?_
    refine sg1 rfl rfl (s_loadW 2 rfl rfl) rfl ?_
    refine stSg rfl rfl rfl rfl rfl rfl ?_
    refine PartsK.cons rfl ?_
    refine PartsK.nil ?_
    refine sg1 rfl rfl (s_callk (hs2 ) rfl ⟨(lit1_le), trivial⟩) rfl ?_
    refine sg1 rfl rfl (s_callk (hq ) rfl ⟨VT.le_refl _, VT.le_refl _, trivial⟩) rfl ?_
    refine sg1 rfl rfl (s_not rfl) rfl ?_
    refine st (s_pickF rfl rfl) rfl ?_
    refine Run.nil ?_
    refine Run.nil ?_
    refine pj_then ?_
    refine J_cond1 rfl ?_
    refine J_seq ?_
    refine J_reg ?_
    refine stB rfl rfl rfl ?_
    refine BuildK.nil ?_
    refine a_storeW 0 rfl rfl rfl rfl ?_
    refine st (s_assign rfl) rfl ?_
    refine Run.nil ?_
    refine pj_then ?_
    refine J_ret ?_
    refine pr_then ?_
    refine retc2 Try.results74 (.cellW 0 rfl rfl (zero_mat _)) (.tmp rfl (VT.le_refl _))
set_option maxHeartbeats 4000000 in
theorem MAdd_ok (ra ca : Nat) (F : Nat → Nat → Int) (rb cb : Nat) (G : Nat → Nat → Int) (h1 : ra ≤ 1048576) (h2 : ca ≤ 1048576) (hF : ∀ i j, small (F i j)) (hG : ∀ i j, small (G i j)) :
    Ok Try.prog 39 [matF ra ca F, matF rb cb G] (resT (decide (ra = rb ∧ ca = cb)) 50 ra ca (eachF (· + ·) F G)) := by
  have he := each_ok (· + ·) ra ca F rb cb G (one (.func (.func 70) #[] #[])) h1 h2 (fun i j => Callable.fn (AddI_ok _ _ (hF i j) (hG i j)))
  unfold matF resT at *
  refine Ok.enter Try.func39 rfl Try.ntmps39 rfl (fun w O => ?_)
  refine J_seq ?_
  refine J_reg ?_
  refine a_boxS rfl rfl (ltN rfl) (fun b2 => ?_)
  refine a_boxS rfl rfl (ltN rfl) (fun b3 => ?_)
  refine a_allocS (T := 33) rfl rfl rfl (fun b4 => ?_)
  refine st (s_assign rfl) rfl ?_
  refine Run.nil ?_
  refine pj_then ?_
  refine J_seq ?_
  refine J_reg ?_
  refine st (s_loadW 2 rfl rfl) rfl ?_
  refine st (s_loadW 1 rfl rfl) rfl ?_
  refine st (s_callk (he ) rfl ⟨VT.le_refl _, VT.le_refl _, VT.le_refl _, trivial⟩) rfl ?_
  refine st (s_extract rfl rfl) rfl ?_
  refine st (s_extract rfl rfl) rfl ?_
  refine a_storeW 0 rfl rfl rfl rfl ?_
  refine st (s_assign rfl) rfl ?_
  refine Run.nil ?_
  refine pj_then ?_
  refine J_ret ?_
  refine retc2 Try.results39 (.cellW 0 rfl rfl (VT.le_refl _)) (.tmp rfl (VT.le_refl _))
set_option maxHeartbeats 4000000 in
theorem MSub_ok (ra ca : Nat) (F : Nat → Nat → Int) (rb cb : Nat) (G : Nat → Nat → Int) (h1 : ra ≤ 1048576) (h2 : ca ≤ 1048576) (hF : ∀ i j, small (F i j)) (hG : ∀ i j, small (G i j)) :
    Ok Try.prog 41 [matF ra ca F, matF rb cb G] (resT (decide (ra = rb ∧ ca = cb)) 50 ra ca (eachF (· - ·) F G)) := by
  have he := each_ok (· - ·) ra ca F rb cb G (one (.func (.func 76) #[] #[])) h1 h2 (fun i j => Callable.fn (SubI_ok _ _ (hF i j) (hG i j)))
  unfold matF resT at *
  refine Ok.enter Try.func41 rfl Try.ntmps41 rfl (fun w O => ?_)
  refine J_seq ?_
  refine J_reg ?_
  refine a_boxS rfl rfl (ltN rfl) (fun b2 => ?_)
  refine a_boxS rfl rfl (ltN rfl) (fun b3 => ?_)
  refine a_allocS (T := 33) rfl rfl rfl (fun b4 => ?_)
  refine st (s_assign rfl) rfl ?_
  refine Run.nil ?_
  refine pj_then ?_
  refine J_seq ?_
  refine J_reg ?_
  refine st (s_loadW 2 rfl rfl) rfl ?_
  refine st (s_loadW 1 rfl rfl) rfl ?_
  refine st (s_callk (he ) rfl ⟨VT.le_refl _, VT.le_refl _, VT.le_refl _, trivial⟩) rfl ?_
  refine st (s_extract rfl rfl) rfl ?_
  refine st (s_extract rfl rfl) rfl ?_
  refine a_storeW 0 rfl rfl rfl rfl ?_
  refine st (s_assign rfl) rfl ?_
  refine Run.nil ?_
  refine pj_then ?_
  refine J_ret ?_
  refine retc2 Try.results41 (.cellW 0 rfl rfl (VT.le_refl _)) (.tmp rfl (VT.le_refl _))
set_option maxHeartbeats 4000000 in
theorem MScale_ok (r c : Nat) (F : Nat → Nat → Int) (k : Int) (h1 : r ≤ 1048576) (h2 : c ≤ 1048576) (hF : ∀ i j, small (F i j)) (hk : small k) : Ok Try.prog 48 [matF r c F, bigT k] (matF r c (fun i j => k * F i j)) := by
  have he := each_ok (fun x _ => k * x) r c F r c F (cloT 79 [ptrT (.agg 2) (bigT k)]) h1 h2 (fun i j => Callable.clo (scale1_ok k _ _ hk (hF i j)))
  rw [decide_eq_true ⟨rfl, rfl⟩] at he
  unfold matF resT at *
  refine Ok.enter Try.func48 rfl Try.ntmps48 rfl (fun w O => ?_)
  refine J_seq ?_
  refine J_reg ?_
  refine a_boxS rfl rfl (ltN rfl) (fun b2 => ?_)
  refine a_box rfl rfl (ltN rfl) (fun b3 => ?_)
  refine a_allocS (T := 33) rfl rfl rfl (fun b4 => ?_)
  refine Run.nil ?_
  refine pj_then ?_
  refine J_seq ?_
  refine J_reg ?_
  refine st (s_loadW 2 rfl rfl) rfl ?_
  refine st (s_loadW 2 rfl rfl) rfl ?_
  refine st (s_makeFunc rfl) rfl ?_
  refine Run_open [boxO b3 _ _ [(0, .agg 2, bigT k)]] (permPick 1 rfl) (.keep (EntO.refl _) (.keep (EntO.refl _) .nil)) (EntG.set (t := 10) rfl (Ent.clo1 (Ent.ptr List.mem_cons_self List.mem_cons_self))) ?_
  refine st (s_callk (he ) rfl ⟨VT.le_refl _, VT.le_refl _, VT.le_refl _, trivial⟩) rfl ?_
  refine st (s_move rfl) rfl ?_
  refine st (s_extract rfl rfl) rfl ?_
  refine st (s_extract rfl rfl) rfl ?_
  refine a_allocS (T := 33) rfl rfl rfl (fun b5 => ?_)
  refine a_storeW 0 rfl rfl rfl rfl ?_
  refine st (s_assign rfl) rfl ?_
  refine Run.nil ?_
  refine pj_then ?_
  refine J_seq ?_
  refine J_reg ?_
  refine st (s_loadW 0 rfl rfl) rfl ?_
  refine a_storeW 1 rfl rfl rfl rfl ?_
  refine Run.nil ?_
  refine pj_then ?_
  refine J_ret ?_
  refine retc1 Try.results48 (.cellW 1 rfl rfl (VT.le_refl _))
set_option maxHeartbeats 4000000 in
theorem MEqual_ok (ra ca : Nat) (F : Nat → Nat → Int) (rb cb : Nat) (G : Nat → Nat → Int) (h1 : ra ≤ 1048576) (h2 : ca ≤ 1048576) :
    Ok Try.prog 50 [matF ra ca F, matF rb cb G] (one (.bool (decide (ra = rb ∧ ca = cb ∧ tab ra ca F = tab rb cb G)))) := by
  have hv := valid2_ok ra ca F rb cb G
  have hs1 := sizes_ok ra ca F
  have hs2 := sizes_ok rb cb G
  have hq := sEq1_ok ra ca rb cb
  refine Ok.enter Try.func50 rfl Try.ntmps50 rfl (fun w O => ?_)
  by_cases hne : ra = rb ∧ ca = cb
  · obtain ⟨rfl, rfl⟩ := hne
    rw [decide_eq_true ⟨rfl, rfl⟩] at hq
    unfold matF at *
    refine J_seq ?_
    refine J_reg ?_
    refine a_boxS rfl rfl (ltN rfl) (fun b2 => ?_)
    refine a_boxS rfl rfl (ltN rfl) (fun b3 => ?_)
    refine st (s_assign rfl) rfl ?_
    refine Run.nil ?_
    refine pj_then ?_
    refine J_seq ?_
    refine J_seq ?_
    refine J_regd 15 mixed (by kernel_rfl) (by decide) ?_
    refine st (s_loadW 1 rfl rfl) rfl ?_
    refine st (s_loadW 0 rfl rfl) rfl ?_
    refine stS rfl rfl rfl rfl ?_
    refine PartsK.cons rfl ?_
    refine PartsK.cons rfl ?_
    refine PartsK.nil ?_
    refine st (s_callk (hv ) rfl ⟨(two_mat2), trivial⟩) rfl ?_
    refine st (s_not rfl) rfl ?_
    refine st (s_move rfl) rfl ?_
    refine sg1 rfl rfl (s_loadW 1 rfl rfl) rfl ?_
    refine stSg rfl rfl rfl rfl rfl rfl ?_
    refine PartsK.cons rfl ?_
    refine PartsK.nil ?_
    refine sg1 rfl rfl (s_callk (hs1 ) rfl ⟨(lit1_le), trivial⟩) rfl ?_
    refine sg1 rfl rfl (s_loadW 0 rfl rfl) rfl ?_
    refine stSg rfl rfl rfl rfl rfl rfl ?_
    refine PartsK.cons rfl ?_
    refine PartsK.nil ?_
    refine sg1 rfl rfl (s_callk (hs2 ) rfl ⟨(lit1_le), trivial⟩) rfl ?_
    refine sg1 rfl rfl (s_callk (hq ) rfl ⟨VT.le_refl _, VT.le_refl _, trivial⟩) rfl ?_
    refine sg1 rfl rfl (s_not rfl) rfl ?_
    refine st (s_pickF rfl rfl) rfl ?_
    refine Run.nil ?_
    refine Run.nil ?_
    refine pj_then ?_
    refine J_cond0 rfl ?_
    refine J_skip ?_
    refine pj_then ?_
    refine J_seq ?_
    refine J_reg ?_
    refine st (s_assign rfl) rfl ?_
    refine Run.nil ?_
    refine pj_then ?_
    refine J_seq ?_
    refine J_seq ?_
    refine J_reg ?_
    refine st (s_fieldAddr rfl) rfl ?_
    refine st (s_loadB 1 rfl rfl rfl) rfl ?_
    refine st (s_len rfl) rfl ?_
    refine st (s_move rfl) rfl ?_
    refine Run.nil ?_
    refine pj_then ?_
    refine J_block ?_
    refine J_sub (Γ' := [(3, _), (4, _), (5, _), (24, _), (25, _), (26, _)]) (SubG.cons rfl (VT.le_refl _) (SubG.cons rfl (VT.le_refl _) (SubG.cons rfl (VT.le_refl _) (SubG.cons rfl (VT.le_refl _) (SubG.cons rfl (VT.le_refl _) (SubG.cons rfl (VT.le_refl _) (SubG.nil))))))) (SubM.refl _) ?_
    refine J_loopA (σ := Nat) (Γk := [(3, _), (5, _), (24, _), (25, _)]) (SubG.cons rfl (VT.le_refl _) (SubG.cons rfl (VT.le_refl _) (SubG.cons rfl (VT.le_refl _) (SubG.cons rfl (VT.le_refl _) (SubG.nil))))) (fun i => [(26, one (.int .i64 (i : Nat)))]) (fun i M0 => M0) (fun i => i ≤ ra ∧ ∀ j, j < i → ∀ k, k < ca → F j k = G j k) (fun i => ra - i) (0) (⟨Nat.zero_le _, fun j hj => absurd hj (Nat.not_lt_zero _)⟩) (by repeat (first | exact SubG.refl _ | exact SubG.nil | refine SubG.cons rfl (VT.le_refl _) ?_ | (refine SubG.cons rfl (one_le ?_) ?_; (congr 1; first | omega | (simp; omega) | simp)))) (.keep (Own.le_refl _) (.keep (Own.le_refl _) (.nil))) (fun i hi => ?_)
    refine J_norm (Γ' := [(26, _), (3, _), (5, _), (24, _), (25, _)]) (M' := [_, _]) rfl rfl ?_
    have hcb := combB_ok ca (fun k => bigT (F i k)) (fun k => bigT (G i k)) (fun k => one (.bool (decide (F i k = G i k)))) (one (.func (.func 82) #[] #[])) h2 (fun k hk => Callable.fn (eq1_ok _ _))
    have hct := (contB_ok ca (fun k => decide (F i k = G i k)) h2).toM
    refine J_seq ?_
    refine J_reg ?_
    refine st (s_lt rfl rfl) rfl ?_
    refine Run.nil ?_
    refine pj_then ?_
    refine J_seq ?_
    refine J_if rfl (fun hc => ?_) (fun hc => ?_)
    · refine J_skip ?_
      refine pj_then ?_
      refine J_seq ?_
      refine J_block ?_
      refine J_seq ?_
      refine J_reg ?_
      refine st (s_move rfl) rfl ?_
      (refine st (s_indexIN rfl rfl ?_) rfl ?_; omega)
      refine st (s_load rfl) rfl ?_
      refine st (s_assign rfl) rfl ?_
      refine st (s_assign rfl) rfl ?_
      refine Run.nil ?_
      refine pj_then ?_
      refine J_seq ?_
      refine J_reg ?_
      refine st (s_move rfl) rfl ?_
      refine st (s_fieldAddr rfl) rfl ?_
      refine st (s_loadB 0 rfl rfl rfl) rfl ?_
      refine st (s_move rfl) rfl ?_
      (refine st (s_indexIN rfl rfl ?_) rfl ?_; omega)
      refine st (s_load rfl) rfl ?_
      refine st (s_move rfl) rfl ?_
      refine st (s_callk (hcb ) rfl ⟨VT.le_refl _, VT.le_refl _, VT.le_refl _, trivial⟩) rfl ?_
      refine a_callM (hct ) rfl ⟨VT.le_refl _, VT.le_refl _, trivial⟩ rfl rfl (fun s39 => ?_)
      refine Run.nil ?_
      refine pj_then ?_
      obtain ⟨t, ht⟩ := s39
      refine J_ifB rfl (fun hb => ?_) (fun hb => ?_)
      · have hb : t = true := hb
        subst hb
        refine J_seq ?_
        refine J_reg ?_
        refine st (s_assign rfl) rfl ?_
        refine Run.nil ?_
        refine pj_then ?_
        refine J_ret ?_
        refine pr_block ?_
        refine pr_then ?_
        refine pr_then ?_
        refine pr_block ?_
        refine pr_then ?_
        refine retc1 Try.results50 (.tmp rfl (one_le (by congr 1; rw [decide_eq_false]; intro h; exact (ht.1 rfl) (fun k hk => decide_eq_true (tab_inj h.2.2 (by omega) hk)))))
      · have hb : t = false := hb
        subst hb
        refine J_skip ?_
        refine pn_block ?_
        refine pj_then ?_
        refine J_reg ?_
        refine st (s_addN _ 1 rfl rfl (by omega)) rfl ?_
        refine st (s_move rfl) rfl ?_
        refine Run.nil ?_
        have hall : ∀ k, k < ca → F i k = G i k := fun k hk => by
          have h3 : ¬ ¬ ∀ k, k < ca → decide (F i k = G i k) = true := fun h4 => by have := ht.2 h4; cases this
          exact of_decide_eq_true (Classical.not_not.1 h3 k hk)
        refine pj_roundM (i + 1) (⟨by omega, fun j hj => (Nat.lt_succ_iff_lt_or_eq.1 hj).elim (hi.2 j) (fun e => by subst e; exact hall)⟩) (by omega) (by repeat (first | exact SubG.refl _ | exact SubG.nil | refine SubG.cons rfl (VT.le_refl _) ?_ | (refine SubG.cons rfl (one_le ?_) ?_; (congr 1; first | omega | (simp; omega) | simp)))) (.keep (Own.le_refl _) (.keep (Own.le_refl _) (.nil)))
    · refine J_exit ?_
      refine px_then ?_
      refine px_then ?_
      refine px_block ?_
      refine pj_then ?_
      refine J_seq ?_
      refine J_reg ?_
      refine st (s_assign rfl) rfl ?_
      refine Run.nil ?_
      refine pj_then ?_
      refine J_ret ?_
      refine retc1 Try.results50 (.tmp rfl (one_le (by congr 1; rw [decide_eq_true]; exact ⟨rfl, rfl, tab_congr fun a b ha hb => hi.2 a (by omega) b hb⟩)))
  · rw [decide_eq_false hne] at hq
    unfold matF at *
    refine J_seq ?_
    refine J_reg ?_
    refine a_boxS rfl rfl (ltN rfl) (fun b2 => ?_)
    refine a_boxS rfl rfl (ltN rfl) (fun b3 => ?_)
    refine st (s_assign rfl) rfl ?_
    refine Run.nil ?_
    refine pj_then ?_
    refine J_seq ?_
    refine J_seq ?_
    refine J_regd 15 mixed (by kernel_rfl) (by decide) ?_
    refine st (s_loadW 1 rfl rfl) rfl ?_
    refine st (s_loadW 0 rfl rfl) rfl ?_
    refine stS rfl rfl rfl rfl ?_
    refine PartsK.cons rfl ?_
    refine PartsK.cons rfl ?_
    refine PartsK.nil ?_
    refine st (s_callk (hv ) rfl ⟨(two_mat2), trivial⟩) rfl ?_
    refine st (s_not rfl) rfl ?_
    refine st (s_move rfl) rfl ?_
    refine sg1 rfl rfl (s_loadW 1 rfl rfl) rfl ?_
    refine stSg rfl rfl rfl rfl rfl rfl ?_
    refine PartsK.cons rfl ?_
    refine PartsK.nil ?_
    refine sg1 rfl rfl (s_callk (hs1 ) rfl ⟨(lit1_le), trivial⟩) rfl ?_
    refine sg1 rfl rfl (s_loadW 0 rfl rfl) rfl ?_
    refine stSg rfl rfl rfl rfl rfl rfl ?_
    refine PartsK.cons rfl ?_
    refine PartsK.nil ?_
    refine sg1 rfl rfl (s_callk (hs2 ) rfl ⟨(lit1_le), trivial⟩) rfl ?_
    refine sg1 rfl rfl (s_callk (hq ) rfl ⟨VT.le_refl _, VT.le_refl _, trivial⟩) rfl ?_
    refine sg1 rfl rfl (s_not rfl) rfl ?_
    refine st (s_pickF rfl rfl) rfl ?_
    refine Run.nil ?_
    refine Run.nil ?_
    refine pj_then ?_
    refine J_cond1 rfl ?_
    refine J_seq ?_
    refine J_reg ?_
    refine st (s_assign rfl) rfl ?_
    refine Run.nil ?_
    refine pj_then ?_
    refine J_ret ?_
    refine pr_then ?_
    refine retc1 Try.results50 (.tmp rfl (one_le (by congr 1; rw [decide_eq_false (fun h => hne ⟨h.1, h.2.1⟩)])))
end Tor
end

section
set_option linter.unusedVariables false
set_option linter.unusedSimpArgs false
namespace Tor
open Go Go.RowKit Go.Proofs
/-- Four sizes and three lists of digits. -/
def threeT (n0 n1 n2 n3 : Nat) (a b c : List Int) : VT := aggT 7 [(0, .one, one (.int .u8 n0)), (1, .one, one (.int .u8 n1)), (2, .one, one (.int .u8 n2)), (3, .one, one (.int .u8 n3)), (4, .one, numT .i8 a), (5, .one, numT .i8 b), (6, .one, numT .i8 c)]
attribute [local irreducible] Tor.J Tor.PJ Tor.StepO Tor.one Tor.slT Tor.ptrT Tor.aggT Tor.tupT Tor.exT Tor.andT Tor.gT Tor.eP Tor.boxO Tor.sliO Tor.slV Tor.VT.le Tor.Ret Tor.anyT
attribute [local irreducible] bigT Tor.rowsO
set_option maxHeartbeats 8000000 in
theorem chain_ok (n0 n1 n2 n3 : Nat) (a b c : List Int) : Ok Try.prog 15 [threeT n0 n1 n2 n3 a b c]
    (tupT [matF (n0 % 5) (n1 % 5) (fun i j => dig a (i * (n1 % 5) + j)), matF (n1 % 5) (n2 % 5) (fun i j => dig b (i * (n2 % 5) + j)), matF (n2 % 5) (n3 % 5) (fun i j => dig c (i * (n3 % 5) + j))]) := by
  unfold threeT
  refine Ok.enter Try.func15 rfl Try.ntmps15 rfl (fun w O => ?_)
  refine J_seq ?_
  refine J_reg ?_
  refine a_boxS rfl rfl (ltN rfl) (fun b1 => ?_)
  refine a_allocS (T := 33) rfl rfl rfl (fun b2 => ?_)
  refine a_allocS (T := 33) rfl rfl rfl (fun b3 => ?_)
  refine a_allocS (T := 33) rfl rfl rfl (fun b4 => ?_)
  refine Run.nil ?_
  refine pj_then ?_
  refine J_seq ?_
  refine J_reg ?_
  refine stB rfl rfl rfl ?_
  refine BuildK.nil ?_
  refine a_allocS (T := 82) rfl rfl rfl (fun b5 => ?_)
  refine a_storeW 0 rfl rfl rfl rfl ?_
  refine Run.nil ?_
  refine pj_then ?_
  refine J_seq ?_
  refine J_seq ?_
  refine J_reg ?_
  refine st (s_assign rfl) rfl ?_
  refine Run.nil ?_
  refine pj_then ?_
  refine J_block ?_
  refine J_rounds 5 ?_
  refine J_seq ?_
  refine J_seq ?_
  refine J_reg ?_
  refine st (s_move rfl) rfl ?_
  refine st (s_lt rfl rfl) rfl ?_
  refine Run.nil ?_
  refine pj_then ?_
  refine J_condT rfl (by omega) ?_
  refine J_skip ?_
  refine pj_then ?_
  refine J_seq ?_
  refine J_block ?_
  refine J_reg ?_
  refine st (s_move rfl) rfl ?_
  refine st (s_move rfl) rfl ?_
  refine st (s_fieldAddr rfl) rfl ?_
  refine st (s_indexBV 0 rfl rfl rfl (ltN rfl)) rfl ?_
  refine st (s_loadB 4 rfl rfl rfl) rfl ?_
  refine st (s_remN 5 rfl rfl rfl (by decide)) rfl ?_
  (refine st (s_toI64 rfl ?_ ?_) rfl ?_; omega; omega)
  refine st (s_indexBV 0 rfl rfl rfl (ltN rfl)) rfl ?_
  refine a_storeB 0 rfl rfl rfl rfl rfl (leN rfl) rfl ?_
  refine Run.nil ?_
  refine pn_block ?_
  refine pj_then ?_
  refine J_reg ?_
  refine st (s_move rfl) rfl ?_
  (refine st (s_add rfl rfl (wrap_i64 ?_ ?_)) rfl ?_; omega; omega)
  refine st (s_assign rfl) rfl ?_
  refine Run.nil ?_
  refine pj_rounds ?_
  refine J_seq ?_
  refine J_seq ?_
  refine J_reg ?_
  refine st (s_move rfl) rfl ?_
  refine st (s_lt rfl rfl) rfl ?_
  refine Run.nil ?_
  refine pj_then ?_
  refine J_condT rfl (by omega) ?_
  refine J_skip ?_
  refine pj_then ?_
  refine J_seq ?_
  refine J_block ?_
  refine J_reg ?_
  refine st (s_move rfl) rfl ?_
  refine st (s_move rfl) rfl ?_
  refine st (s_fieldAddr rfl) rfl ?_
  refine st (s_indexBV 1 rfl rfl rfl (ltN rfl)) rfl ?_
  refine st (s_loadB 4 rfl rfl rfl) rfl ?_
  refine st (s_remN 5 rfl rfl rfl (by decide)) rfl ?_
  (refine st (s_toI64 rfl ?_ ?_) rfl ?_; omega; omega)
  refine st (s_indexBV 1 rfl rfl rfl (ltN rfl)) rfl ?_
  refine a_storeB 0 rfl rfl rfl rfl rfl (leN rfl) rfl ?_
  refine Run.nil ?_
  refine pn_block ?_
  refine pj_then ?_
  refine J_reg ?_
  refine st (s_move rfl) rfl ?_
  (refine st (s_add rfl rfl (wrap_i64 ?_ ?_)) rfl ?_; omega; omega)
  refine st (s_assign rfl) rfl ?_
  refine Run.nil ?_
  refine pj_rounds ?_
  refine J_seq ?_
  refine J_seq ?_
  refine J_reg ?_
  refine st (s_move rfl) rfl ?_
  refine st (s_lt rfl rfl) rfl ?_
  refine Run.nil ?_
  refine pj_then ?_
  refine J_condT rfl (by omega) ?_
  refine J_skip ?_
  refine pj_then ?_
  refine J_seq ?_
  refine J_block ?_
  refine J_reg ?_
  refine st (s_move rfl) rfl ?_
  refine st (s_move rfl) rfl ?_
  refine st (s_fieldAddr rfl) rfl ?_
  refine st (s_indexBV 2 rfl rfl rfl (ltN rfl)) rfl ?_
  refine st (s_loadB 4 rfl rfl rfl) rfl ?_
  refine st (s_remN 5 rfl rfl rfl (by decide)) rfl ?_
  (refine st (s_toI64 rfl ?_ ?_) rfl ?_; omega; omega)
  refine st (s_indexBV 2 rfl rfl rfl (ltN rfl)) rfl ?_
  refine a_storeB 0 rfl rfl rfl rfl rfl (leN rfl) rfl ?_
  refine Run.nil ?_
  refine pn_block ?_
  refine pj_then ?_
  refine J_reg ?_
  refine st (s_move rfl) rfl ?_
  (refine st (s_add rfl rfl (wrap_i64 ?_ ?_)) rfl ?_; omega; omega)
  refine st (s_assign rfl) rfl ?_
  refine Run.nil ?_
  refine pj_rounds ?_
  refine J_seq ?_
  refine J_seq ?_
  refine J_reg ?_
  refine st (s_move rfl) rfl ?_
  refine st (s_lt rfl rfl) rfl ?_
  refine Run.nil ?_
  refine pj_then ?_
  refine J_condT rfl (by omega) ?_
  refine J_skip ?_
  refine pj_then ?_
  refine J_seq ?_
  refine J_block ?_
  refine J_reg ?_
  refine st (s_move rfl) rfl ?_
  refine st (s_move rfl) rfl ?_
  refine st (s_fieldAddr rfl) rfl ?_
  refine st (s_indexBV 3 rfl rfl rfl (ltN rfl)) rfl ?_
  refine st (s_loadB 4 rfl rfl rfl) rfl ?_
  refine st (s_remN 5 rfl rfl rfl (by decide)) rfl ?_
  (refine st (s_toI64 rfl ?_ ?_) rfl ?_; omega; omega)
  refine st (s_indexBV 3 rfl rfl rfl (ltN rfl)) rfl ?_
  refine a_storeB 0 rfl rfl rfl rfl rfl (leN rfl) rfl ?_
  refine Run.nil ?_
  refine pn_block ?_
  refine pj_then ?_
  refine J_reg ?_
  refine st (s_move rfl) rfl ?_
  (refine st (s_add rfl rfl (wrap_i64 ?_ ?_)) rfl ?_; omega; omega)
  refine st (s_assign rfl) rfl ?_
  refine Run.nil ?_
  refine pj_rounds ?_
  refine J_seq ?_
  refine J_seq ?_
  refine J_reg ?_
  refine st (s_move rfl) rfl ?_
  refine st (s_lt rfl rfl) rfl ?_
  refine Run.nil ?_
  refine pj_then ?_
  refine J_condF rfl (by omega) ?_
  refine J_exit ?_
  refine px_then ?_
  refine px_then ?_
  refine px_block ?_
  refine pj_then ?_
  refine J_seq ?_
  refine J_regdT 20 mixed (by kernel_rfl) (by decide) ?_
  refine st (s_indexBC 0 _ rfl rfl (ltN rfl)) rfl ?_
  refine st (s_loadB 0 rfl rfl rfl) rfl ?_
  refine st (s_indexBC 1 _ rfl rfl (ltN rfl)) rfl ?_
  refine st (s_loadB 0 rfl rfl rfl) rfl ?_
  refine st (s_fieldAddr rfl) rfl ?_
  refine st (s_loadB 4 rfl rfl rfl) rfl ?_
  refine st (s_callk (rFilled_ok _ _ _ (by omega) (by omega)) rfl ⟨VT.le_refl _, VT.le_refl _, VT.le_refl _, trivial⟩) rfl ?_
  refine st (s_indexBC 1 _ rfl rfl (ltN rfl)) rfl ?_
  refine st (s_loadB 0 rfl rfl rfl) rfl ?_
  refine st (s_indexBC 2 _ rfl rfl (ltN rfl)) rfl ?_
  refine st (s_loadB 0 rfl rfl rfl) rfl ?_
  refine st (s_fieldAddr rfl) rfl ?_
  refine st (s_loadB 4 rfl rfl rfl) rfl ?_
  refine st (s_callk (rFilled_ok _ _ _ (by omega) (by omega)) rfl ⟨VT.le_refl _, VT.le_refl _, VT.le_refl _, trivial⟩) rfl ?_
  refine st (s_indexBC 2 _ rfl rfl (ltN rfl)) rfl ?_
  refine st (s_loadB 0 rfl rfl rfl) rfl ?_
  refine st (s_indexBC 3 _ rfl rfl (ltN rfl)) rfl ?_
  refine st (s_loadB 0 rfl rfl rfl) rfl ?_
  refine st (s_fieldAddr rfl) rfl ?_
  refine st (s_loadB 4 rfl rfl rfl) rfl ?_
  refine Run.nil ?_
  refine st (s_callk (rFilled_ok _ _ _ (by omega) (by omega)) rfl ⟨VT.le_refl _, VT.le_refl _, VT.le_refl _, trivial⟩) rfl ?_
  refine a_storeW 3 rfl rfl rfl rfl ?_
  refine a_storeW 2 rfl rfl rfl rfl ?_
  refine a_storeW 1 rfl rfl rfl rfl ?_
  refine Run.nil ?_
  refine pj_then ?_
  refine J_ret ?_
  refine retc3 Try.results15 (.cellW 3 rfl rfl (VT.le_refl _)) (.cellW 2 rfl rfl (VT.le_refl _)) (.cellW 1 rfl rfl (VT.le_refl _))
end Tor
end

section
set_option linter.unusedVariables false
set_option linter.unusedSimpArgs false
namespace Tor
open Go Go.RowKit Go.Proofs
/-- A matrix that is given row by row. -/
def intsF (c : Nat) (l : List Int) : Nat → Nat → Int := fun i j => l.getD (i * c + j) 0
def IN (r c : Nat) (l : List Int) : VT := matF r c (intsF c l)
def eqOn (r c : Nat) (F G : Nat → Nat → Int) : Bool := (List.range r).all fun i => (List.range c).all fun j => F i j == G i j
theorem eqOn_le {r c : Nat} {F G : Nat → Nat → Int} (h : eqOn r c F G = true) : VT.le (matF r c F) (matF r c G) :=
  matF_le fun i j hi hj => by
    simp only [eqOn, List.all_eq_true, List.mem_range, beq_iff_eq] at h
    exact h i hi j hj
theorem num_le (k : IntKind) (l : List Int) : VT.le (slT .one l.length (fun q => (l.map fun x => one (.int k x)).getD q anyT)) (numT k l) := by
  unfold numT
  refine slT_le fun i hi => ?_
  simp only [List.getD, List.getElem?_map, List.getElem?_eq_getElem hi, Option.map_some, Option.getD_some]
  exact VT.le_refl _
theorem vec_le (l : List Int) : VT.le (slT (.agg 2) l.length (fun q => (l.map bigT).getD q anyT)) (rowF l.length (fun j => l.getD j 0)) := by
  unfold rowF
  refine slT_le fun i hi => ?_
  simp only [List.getD, List.getElem?_map, List.getElem?_eq_getElem hi, Option.map_some, Option.getD_some]
  exact VT.le_refl _
theorem rowF_vec' (l : List Int) : VT.le (rowF l.length (fun j => l.getD j 0)) (vecT l) := VT.le_refl _
theorem rowF_le {n : Nat} {f g : Nat → Int} (h : ((List.range n).all fun j => f j == g j) = true) : VT.le (rowF n f) (rowF n g) := by
  unfold rowF
  refine slT_le fun j hj => ?_
  simp only [List.all_eq_true, List.mem_range, beq_iff_eq] at h
  exact le_eq (by rw [h j hj])
instance (x : Int) : Decidable (mod4 x) := inferInstanceAs (Decidable (_ ≤ _))
theorem mod4_ints {c : Nat} {l : List Int} (h : ∀ x ∈ l, mod4 x) : ∀ i j, mod4 (intsF c l i j) := fun i j => getD_mem h (Nat.zero_le _)
theorem mod4_list {l : List Int} (h : ∀ x ∈ l, mod4 x) : ∀ j, mod4 (l.getD j 0) := fun j => getD_mem h (Nat.zero_le _)
theorem mod4_zero : ∀ i j : Nat, mod4 ((fun _ _ => 0 : Nat → Nat → Int) i j) := fun i j => Nat.zero_le _
theorem small_ints {c : Nat} {l : List Int} (h : ∀ x ∈ l, mod4 x) : ∀ i j, small (intsF c l i j) := fun i j => mod4_small (mod4_ints h i j)
theorem i64_ints {l : List Int} (h : (l.all fun x => decide (-9223372036854775808 ≤ x) && decide (x ≤ 9223372036854775807)) = true) : ∀ x ∈ l, -9223372036854775808 ≤ x ∧ x ≤ 9223372036854775807 := fun x hx => by
  have := List.all_eq_true.1 h x hx
  simpa using this
theorem rSameF_ok (r c r' c' : Nat) (F G : Nat → Nat → Int) (hr : r ≤ 1048576) : Ok Try.prog 23 [matF r c F, matF r' c' G] (one (.bool (decide ((r : Int) = r' ∧ (c : Int) = c' ∧ tab r c F = tab r' c' G)))) :=
  (rSameMat_ok r c r' c' (tab r c F) (tab r' c' G) (by simp; omega)).le ⟨matF_mat _ _ _, matF_mat _ _ _, trivial⟩ (VT.le_refl _)
theorem same_self (r c : Nat) (F : Nat → Nat → Int) (hr : r ≤ 1048576) : Ok Try.prog 23 [matF r c F, matF r c F] (one (.bool true)) := by
  have h := rSameF_ok r c r c F F hr
  simpa using h
theorem sameVec_self (l : List Int) : Ok Try.prog 32 [vecT l, vecT l] (one (.bool true)) := by
  have h := rSameVec_ok l l
  simpa using h
theorem ints_ok (r c : Nat) (l : List Int) (hr : r ≤ 1048576) (hc : c ≤ 1048576) (h : (l.all fun x => decide (-9223372036854775808 ≤ x) && decide (x ≤ 9223372036854775807)) = true) : Ok Try.prog 52 [one (.int .i64 r), one (.int .i64 c), numT .i64 l] (IN r c l) := rInts_ok r c l hr hc (i64_ints h)
theorem new_mat (r c : Nat) (hr : r ≤ 1048576) (hc : c ≤ 1048576) : Ok Try.prog 28 [one (.int .i64 r), one (.int .i64 c)] (matF r c (fun _ _ => 0)) := (rNew_ok r c hr hc).ok fun s => newT_mat _ s
theorem resT_le {ok : Bool} {e : Int} {r c : Nat} {F G : Nat → Nat → Int} (h : ok = true) (hF : VT.le (matF r c F) (matF r c G)) : VT.le (resT ok e r c F) (tupT [matF r c G, one (.int .i64 0)]) := by
  subst h
  unfold resT
  rintro v g ⟨vs, h1, h2⟩
  refine ⟨vs, h1, ?_⟩
  match vs, h2 with
  | [a, b], ⟨p, q, _⟩ => exact ⟨hF _ _ p, q, trivial⟩
theorem resT_bad {ok : Bool} {e : Int} {r c : Nat} {F : Nat → Nat → Int} (h : ok = false) : VT.le (resT ok e r c F) (tupT [matF 0 0 F, one (.int .i64 e)]) := by
  subst h; exact VT.le_refl _
theorem resV_le {ok : Bool} {e : Int} {n : Nat} {f g : Nat → Int} (h : ok = true) (hf : VT.le (rowF n f) (rowF n g)) : VT.le (resV ok e n f) (tupT [rowF n g, one (.int .i64 0)]) := by
  subst h
  unfold resV
  rintro v k ⟨vs, h1, h2⟩
  refine ⟨vs, h1, ?_⟩
  match vs, h2 with
  | [a, b], ⟨p, q, _⟩ => exact ⟨hf _ _ p, q, trivial⟩
def row (l : List Int) : VT := rowF l.length (fun j => l.getD j 0)
theorem ex_a : Ok Try.prog 20 [IN 2 2 [1, 2, 3, 4], IN 2 2 [0, 1, 1, 0]] (tupT [IN 2 2 [2, 1, 4, 3], one (.int .i64 0)]) :=
  (MMul_ok 2 2 _ 2 2 _ (by decide) (by decide) (by decide) (mod4_ints (by decide +kernel)) (mod4_ints (by decide +kernel))).le (leAll_refl _) (resT_le (by decide) (eqOn_le (by decide +kernel)))
theorem ex_b : Ok Try.prog 30 [row [1, -1], IN 2 2 [1, 2, 3, 4]] (tupT [row [-2, -2], one (.int .i64 0)]) :=
  (Times_ok 2 (fun j => [1, -1].getD j 0) 2 2 _ (by decide) (by decide) (mod4_list (by decide +kernel)) (mod4_ints (by decide +kernel))).le (leAll_refl _) (resV_le (by decide) (rowF_le (by decide +kernel)))
theorem ex_c : Ok Try.prog 17 [IN 1 2 [1, 2], IN 1 2 [3, 4]] (tupT [IN 2 2 [1, 2, 3, 4], one (.int .i64 0)]) :=
  (Stack_ok 1 2 _ 1 2 _ (by decide) (by decide) (by decide) (small_ints (by decide +kernel)) (small_ints (by decide +kernel))).le (leAll_refl _) (resT_le (by decide) (eqOn_le (by decide +kernel)))
theorem ex_d : Ok Try.prog 18 [IN 2 1 [1, 2], IN 2 1 [3, 4]] (tupT [IN 2 2 [1, 3, 2, 4], one (.int .i64 0)]) :=
  (Beside_ok 2 1 _ 2 1 _ (by decide) (by decide) (by decide) (small_ints (by decide +kernel)) (small_ints (by decide +kernel))).le (leAll_refl _) (resT_le (by decide) (eqOn_le (by decide +kernel)))
theorem ex_p : Ok Try.prog 25 [IN 2 3 [1, 2, 3, 4, 5, 6], numT .i64 [1, 1], numT .i64 [2, 0]] (tupT [IN 2 2 [6, 4, 6, 4], one (.int .i64 0)]) :=
  (Pick_ok 2 3 _ [1, 1] [2, 0] (by decide) (by decide) (small_ints (by decide +kernel))).le (leAll_refl _) (resT_le (by decide) (eqOn_le (by decide +kernel)))
theorem ex_z : Ok Try.prog 20 [matF 2 0 (fun _ _ => 0), matF 0 3 (fun _ _ => 0)] (tupT [matF 2 3 (fun _ _ => 0), one (.int .i64 0)]) :=
  (MMul_ok 2 0 _ 0 3 _ (by decide) (by decide) (by decide) mod4_zero mod4_zero).le (leAll_refl _) (resT_le (by decide) (eqOn_le (by decide +kernel)))
theorem ex_k : Ok Try.prog 20 [IN 1 2 [1, 2], IN 1 2 [1, 2]] (tupT [matF 0 0 (mulF 2 (intsF 2 [1, 2]) (intsF 2 [1, 2])), one (.int .i64 50)]) :=
  (MMul_ok 1 2 _ 1 2 _ (by decide) (by decide) (by decide) (mod4_ints (by decide +kernel)) (mod4_ints (by decide +kernel))).le (leAll_refl _) (resT_bad (by decide))
theorem ex_l : Ok Try.prog 25 [IN 2 2 [1, 2, 3, 4], numT .i64 [2], numT .i64 []] (tupT [matF 0 0 (pickF [2] [] (intsF 2 [1, 2, 3, 4])), one (.int .i64 1)]) :=
  (Pick_ok 2 2 _ [2] [] (by decide) (by decide) (small_ints (by decide +kernel))).le (leAll_refl _) (resT_bad (by decide))
theorem ex_n : Ok Try.prog 33 [row [1], row []] (tupT [bigT 0, one (.int .i64 50)]) :=
  (Dot_ok 1 0 (fun j => [1].getD j 0) (fun j => [].getD j 0) (by decide) (by decide) (mod4_list (by decide +kernel)) (mod4_list (by decide +kernel))).le (leAll_refl _) (VT.le_refl _)
theorem ex_v1 : Ok Try.prog 13 [rawMatT 1 0 []] (one (.bool false)) := by
  have h := matValid_ok 1 0 []
  have e : validM 1 0 [] = false := by decide
  rwa [e] at h
theorem ex_z1 : Ok Try.prog 36 [vecT []] (one (.bool true)) := Zero_ok []
theorem ex_z2 : Ok Try.prog 36 [vecT [1, 2]] (one (.bool false)) := by
  have h := Zero_ok [1, 2]
  have e : ([1, 2].all fun x : Int => decide (x = 0)) = false := by decide
  rwa [e] at h
end Tor
end

section
set_option linter.unusedVariables false
set_option linter.unusedSimpArgs false
namespace Tor
open Go Go.RowKit Go.Proofs
section
variable {P : Program} {E : Env} {D : List Deferred} {Γ : Ctx} {M : Mem} {ops : Array Oper} {i : Nat} {os : List Oper} {ty : TypeId} {pos : String} {af : Array Edge}
theorem stBg {dr : Bool} {K' : List Deferred → Ctx → Mem → Prop} {j : Nat} {want : Bool} {t : Nat} {T : TypeId} {m d : Nat} {z : Array Value} {pl : List (Nat × Lay)} [hB : BuildOf P T m z pl] {parts : Array (Nat × Operand)}
    (hg : guardT ops ⟨some d, .build T parts, ty, pos, af, some (j, want)⟩ = some (some t, want)) (hb : look Γ t = some (one (.bool want)))
    (hz : (pl.all fun q => (valAt q.2 z q.1).isSome && decide (q.1 + q.2.sz ≤ m)) = true) (hap : apartC (zeroC z pl) = true) (hd : Nat.ble (d + 1) E.N = true)
    (h : BuildK Γ pl (fun C => Run P E ops dr (i + 1) D ((d, aggT m C) :: Γ) M os K') (zeroC z pl) parts.toList) : Run P E ops dr i D Γ M (⟨some d, .build T parts, ty, pos, af, some (j, want)⟩ :: os) K' :=
  let ⟨_, h1, h2⟩ := h.ok; sg1 hg hb (s_build h1 hz hap) hd h2
end
instance {r c : Nat} {l : List Int} : Flat (IN r c l) (.agg 3) := by unfold IN matF; infer_instance
theorem raw10 : VT.le (aggT 3 (setC (zeroC #[Value.int IntKind.i64 0, Value.int IntKind.i64 0, Value.slice none 0 0] [(0, Lay.one), (1, Lay.one), (2, Lay.one)]) 0 (one (.int .i64 1)))) (rawMatT 1 0 []) := by
  unfold rawMatT
  refine aggT_le (fun q hq => ?_)
  rcases List.mem_cons.1 hq with rfl | hq
  · exact ⟨_, List.mem_cons_self, VT.le_refl _⟩
  rcases List.mem_cons.1 hq with rfl | hq
  · exact ⟨_, List.mem_cons_of_mem _ List.mem_cons_self, VT.le_refl _⟩
  rcases List.mem_cons.1 hq with rfl | hq
  · exact ⟨_, List.mem_cons_of_mem _ (List.mem_cons_of_mem _ List.mem_cons_self), nil_slT⟩
  · cases hq
theorem row12 : VT.le (rowF 2 (intsF 2 [1, 2] (0 : Int).toNat)) (vecT [1, 2]) := VT.le_trans (rowF_vec 2 (intsF 2 [1, 2] (0 : Int).toNat)) (le_eq (congrArg vecT (by decide)))
theorem slT1_num (x : Int) : VT.le (slT .one 1 (fun _ => one (.int .i64 x))) (numT .i64 [x]) := by
  unfold numT
  exact slT_le' rfl fun i hi => by
    have : i = 0 := by omega
    subst this; rfl
theorem slT1_row (x : Int) : VT.le (slT (.agg 2) 1 (fun _ => bigT x)) (row [x]) := by
  unfold row rowF
  exact slT_le' rfl fun i hi => by
    have : i = 0 := by omega
    subst this; rfl
attribute [local irreducible] Tor.J Tor.PJ Tor.StepO Tor.one Tor.slT Tor.ptrT Tor.aggT Tor.tupT Tor.exT Tor.andT Tor.gT Tor.eP Tor.boxO Tor.sliO Tor.slV Tor.VT.le Tor.Ret Tor.anyT
attribute [local irreducible] bigT Tor.rowsO
set_option maxRecDepth 4000 in
set_option maxHeartbeats 20000000 in
theorem sanity_ok : Ok Try.prog 10 [] (one (.bool true)) := by
  refine Ok.enter Try.func10 rfl Try.ntmps10 rfl (fun w O => ?_)
  refine J_seq ?_
  refine J_reg ?_
  refine st (s_assign rfl) rfl ?_
  refine Run.nil ?_
  refine pj_then ?_
  refine J_seq ?_
  refine J_reg ?_
  refine stS rfl rfl rfl rfl ?_
  refine PartsK.cons rfl ?_
  refine PartsK.cons rfl ?_
  refine PartsK.cons rfl ?_
  refine PartsK.cons rfl ?_
  refine PartsK.nil ?_
  refine st (s_callk (ints_ok 2 2 [1, 2, 3, 4] (by decide) (by decide) (by decide)) rfl ⟨one_le rfl, one_le rfl, num_le .i64 [1, 2, 3, 4], trivial⟩) rfl ?_
  refine a_allocS (T := 33) rfl rfl rfl (fun b => ?_)
  refine a_storeW 0 rfl rfl rfl rfl ?_
  refine Run.nil ?_
  refine pj_then ?_
  refine J_seq ?_
  refine J_reg ?_
  refine stS rfl rfl rfl rfl ?_
  refine PartsK.cons rfl ?_
  refine PartsK.cons rfl ?_
  refine PartsK.nil ?_
  refine st (s_callk (ints_ok 1 2 [1, 2] (by decide) (by decide) (by decide)) rfl ⟨one_le rfl, one_le rfl, num_le .i64 [1, 2], trivial⟩) rfl ?_
  refine a_allocS (T := 33) rfl rfl rfl (fun b => ?_)
  refine a_storeW 0 rfl rfl rfl rfl ?_
  refine Run.nil ?_
  refine pj_then ?_
  refine J_seq ?_
  refine J_regU mixed (by kernel_rfl) (by kernel_rfl) ?_
  refine ux (fun B => s_loadW 1 rfl rfl) rfl rfl ?_
  refine uS rfl rfl rfl rfl ?_
  refine PartsK.cons rfl ?_
  refine PartsK.cons rfl ?_
  refine PartsK.cons rfl ?_
  refine PartsK.cons rfl ?_
  refine PartsK.nil ?_
  refine ux (fun B => s_callk (ints_ok 2 2 [0, 1, 1, 0] (by decide) (by decide) (by decide)) rfl ⟨one_le rfl, one_le rfl, num_le .i64 [0, 1, 1, 0], trivial⟩) rfl rfl ?_
  refine ux (fun B => s_callk (ex_a) rfl ⟨VT.le_refl _, VT.le_refl _, trivial⟩) rfl rfl ?_
  refine ux (fun B => s_move rfl) rfl rfl ?_
  refine ux (fun B => s_extract rfl rfl) rfl rfl ?_
  refine ux (fun B => s_extract rfl rfl) rfl rfl ?_
  refine ua rfl ?_
  refine us rfl ?_
  refine ux (fun B => s_assign rfl) rfl rfl ?_
  refine RunU.nil (fun γ => ?_); simp only [ptrG, boxM, List.map_cons, List.map_nil, List.cons_append, List.nil_append]
  refine PJ_sub (Γ' := [(1, _), (2, _), (3, _), (4, _)]) (SubG.cons rfl (VT.le_refl _) (SubG.cons rfl (VT.le_refl _) (SubG.cons rfl (VT.le_refl _) (SubG.cons rfl (VT.le_refl _) (SubG.nil))))) (SubM.refl _) ?_
  refine pj_then ?_
  refine J_seq ?_
  refine J_regU mixed (by kernel_rfl) (by kernel_rfl) ?_
  skip
  refine ux (fun B => s_callk (rOf_ok 1 (by decide) (by decide)) rfl ⟨VT.le_refl _, trivial⟩) rfl rfl ?_
  refine ux (fun B => s_callk (rOf_ok (-1) (by decide) (by decide)) rfl ⟨VT.le_refl _, trivial⟩) rfl rfl ?_
  refine uS rfl rfl rfl rfl ?_
  refine PartsK.cons rfl ?_
  refine PartsK.cons rfl ?_
  refine PartsK.nil ?_
  refine ux (fun B => s_loadW 2 rfl rfl) rfl rfl ?_
  refine ux (fun B => s_callk (ex_b) rfl ⟨vec_le [1, -1], VT.le_refl _, trivial⟩) rfl rfl ?_
  refine ux (fun B => s_move rfl) rfl rfl ?_
  refine ux (fun B => s_extract rfl rfl) rfl rfl ?_
  refine ux (fun B => s_extract rfl rfl) rfl rfl ?_
  refine ux (fun B => s_assign rfl) rfl rfl ?_
  refine ux (fun B => s_assign rfl) rfl rfl ?_
  refine RunU.nil (fun γ => ?_); simp only [ptrG, boxM, List.map_cons, List.map_nil, List.cons_append, List.nil_append]
  refine PJ_sub (Γ' := [(1, _), (2, _), (3, _), (4, _), (5, _), (6, _)]) (SubG.cons rfl (VT.le_refl _) (SubG.cons rfl (VT.le_refl _) (SubG.cons rfl (VT.le_refl _) (SubG.cons rfl (VT.le_refl _) (SubG.cons rfl (VT.le_refl _) (SubG.cons rfl (VT.le_refl _) (SubG.nil))))))) (SubM.refl _) ?_
  refine pj_then ?_
  refine J_seq ?_
  refine J_regU mixed (by kernel_rfl) (by kernel_rfl) ?_
  refine ux (fun B => s_loadW 1 rfl rfl) rfl rfl ?_
  refine uS rfl rfl rfl rfl ?_
  refine PartsK.cons rfl ?_
  refine PartsK.cons rfl ?_
  refine PartsK.nil ?_
  refine ux (fun B => s_callk (ints_ok 1 2 [3, 4] (by decide) (by decide) (by decide)) rfl ⟨one_le rfl, one_le rfl, num_le .i64 [3, 4], trivial⟩) rfl rfl ?_
  refine ux (fun B => s_callk (ex_c) rfl ⟨VT.le_refl _, VT.le_refl _, trivial⟩) rfl rfl ?_
  refine ux (fun B => s_move rfl) rfl rfl ?_
  refine ux (fun B => s_extract rfl rfl) rfl rfl ?_
  refine ux (fun B => s_extract rfl rfl) rfl rfl ?_
  refine ua rfl ?_
  refine us rfl ?_
  refine ux (fun B => s_assign rfl) rfl rfl ?_
  refine RunU.nil (fun γ => ?_); simp only [ptrG, boxM, List.map_cons, List.map_nil, List.cons_append, List.nil_append]
  refine PJ_sub (Γ' := [(1, _), (2, _), (3, _), (4, _), (5, _), (6, _), (7, _), (8, _)]) (SubG.cons rfl (VT.le_refl _) (SubG.cons rfl (VT.le_refl _) (SubG.cons rfl (VT.le_refl _) (SubG.cons rfl (VT.le_refl _) (SubG.cons rfl (VT.le_refl _) (SubG.cons rfl (VT.le_refl _) (SubG.cons rfl (VT.le_refl _) (SubG.cons rfl (VT.le_refl _) (SubG.nil))))))))) (SubM.refl _) ?_
  refine pj_then ?_
  refine J_seq ?_
  refine J_reg ?_
  refine stS rfl rfl rfl rfl ?_
  refine PartsK.cons rfl ?_
  refine PartsK.cons rfl ?_
  refine PartsK.nil ?_
  refine st (s_callk (ints_ok 2 1 [1, 2] (by decide) (by decide) (by decide)) rfl ⟨one_le rfl, one_le rfl, num_le .i64 [1, 2], trivial⟩) rfl ?_
  refine stS rfl rfl rfl rfl ?_
  refine PartsK.cons rfl ?_
  refine PartsK.cons rfl ?_
  refine PartsK.nil ?_
  refine st (s_callk (ints_ok 2 1 [3, 4] (by decide) (by decide) (by decide)) rfl ⟨one_le rfl, one_le rfl, num_le .i64 [3, 4], trivial⟩) rfl ?_
  skip
  refine st (s_callk (ex_d) rfl ⟨VT.le_refl _, VT.le_refl _, trivial⟩) rfl ?_
  refine st (s_move rfl) rfl ?_
  refine st (s_extract rfl rfl) rfl ?_
  refine st (s_extract rfl rfl) rfl ?_
  refine a_allocS (T := 33) rfl rfl rfl (fun b => ?_)
  refine a_storeW 0 rfl rfl rfl rfl ?_
  refine st (s_assign rfl) rfl ?_
  refine Run.nil ?_
  refine pj_then ?_
  refine J_seq ?_
  refine J_reg ?_
  refine stS rfl rfl rfl rfl ?_
  refine PartsK.cons rfl ?_
  refine PartsK.cons rfl ?_
  refine PartsK.cons rfl ?_
  refine PartsK.cons rfl ?_
  refine PartsK.cons rfl ?_
  refine PartsK.cons rfl ?_
  refine PartsK.nil ?_
  refine st (s_callk (ints_ok 2 3 [1, 2, 3, 4, 5, 6] (by decide) (by decide) (by decide)) rfl ⟨one_le rfl, one_le rfl, num_le .i64 [1, 2, 3, 4, 5, 6], trivial⟩) rfl ?_
  refine stS rfl rfl rfl rfl ?_
  refine PartsK.cons rfl ?_
  refine PartsK.cons rfl ?_
  refine PartsK.nil ?_
  refine stS rfl rfl rfl rfl ?_
  refine PartsK.cons rfl ?_
  refine PartsK.cons rfl ?_
  refine PartsK.nil ?_
  refine st (s_callk (ex_p) rfl ⟨VT.le_refl _, num_le .i64 [1, 1], num_le .i64 [2, 0], trivial⟩) rfl ?_
  refine st (s_move rfl) rfl ?_
  refine st (s_extract rfl rfl) rfl ?_
  refine st (s_extract rfl rfl) rfl ?_
  refine a_allocS (T := 33) rfl rfl rfl (fun b => ?_)
  refine a_storeW 0 rfl rfl rfl rfl ?_
  refine st (s_assign rfl) rfl ?_
  refine Run.nil ?_
  refine pj_then ?_
  refine J_seq ?_
  refine J_reg ?_
  refine st (s_callk (new_mat 2 0 (by decide) (by decide)) rfl ⟨one_le rfl, one_le rfl, trivial⟩) rfl ?_
  refine st (s_callk (new_mat 0 3 (by decide) (by decide)) rfl ⟨one_le rfl, one_le rfl, trivial⟩) rfl ?_
  refine st (s_callk (ex_z) rfl ⟨VT.le_refl _, VT.le_refl _, trivial⟩) rfl ?_
  refine st (s_move rfl) rfl ?_
  refine st (s_extract rfl rfl) rfl ?_
  refine st (s_extract rfl rfl) rfl ?_
  refine a_allocS (T := 33) rfl rfl rfl (fun b => ?_)
  refine a_storeW 0 rfl rfl rfl rfl ?_
  refine st (s_assign rfl) rfl ?_
  refine Run.nil ?_
  refine pj_then ?_
  refine J_seq ?_
  refine J_reg ?_
  refine st (s_loadW 5 rfl rfl) rfl ?_
  refine st (s_loadW 5 rfl rfl) rfl ?_
  refine st (s_callk (ex_k) rfl ⟨VT.le_refl _, VT.le_refl _, trivial⟩) rfl ?_
  refine st (s_move rfl) rfl ?_
  refine st (s_extract rfl rfl) rfl ?_
  refine st (s_extract rfl rfl) rfl ?_
  refine a_allocS (T := 33) rfl rfl rfl (fun b => ?_)
  refine a_storeW 0 rfl rfl rfl rfl ?_
  refine st (s_assign rfl) rfl ?_
  refine Run.nil ?_
  refine pj_then ?_
  refine J_seq ?_
  refine J_reg ?_
  refine st (s_loadW 7 rfl rfl) rfl ?_
  refine stS1 rfl rfl rfl rfl ?_
  refine st (s_callk (ex_l) rfl ⟨VT.le_refl _, slT1_num 2, nil_slT, trivial⟩) rfl ?_
  refine st (s_move rfl) rfl ?_
  refine st (s_extract rfl rfl) rfl ?_
  refine st (s_extract rfl rfl) rfl ?_
  refine a_allocS (T := 33) rfl rfl rfl (fun b => ?_)
  refine a_storeW 0 rfl rfl rfl rfl ?_
  refine st (s_assign rfl) rfl ?_
  refine Run.nil ?_
  refine pj_then ?_
  refine J_seq ?_
  refine J_reg ?_
  refine st (s_callk (rOf_ok 1 (by decide) (by decide)) rfl ⟨VT.le_refl _, trivial⟩) rfl ?_
  refine stS1 rfl rfl rfl rfl ?_
  refine st (s_callk (ex_n) rfl ⟨slT1_row 1, nil_slT, trivial⟩) rfl ?_
  refine st (s_move rfl) rfl ?_
  refine st (s_extract rfl rfl) rfl ?_
  refine st (s_extract rfl rfl) rfl ?_
  refine a_alloc (T := 29) rfl (ltN rfl) (fun b => ?_)
  refine a_storeB 0 rfl rfl rfl rfl rfl (leN rfl) rfl ?_
  refine st (s_assign rfl) rfl ?_
  refine Run.nil ?_
  refine pj_then ?_
  refine J_seq ?_
  refine J_sub (Γ' := [(1, _), (2, _), (3, _), (4, _), (5, _), (6, _), (7, _), (8, _), (9, _), (10, _), (11, _), (12, _), (13, _), (14, _), (16, _), (18, _), (20, _)]) (SubG.cons rfl (VT.le_refl _) (SubG.cons rfl (VT.le_refl _) (SubG.cons rfl (VT.le_refl _) (SubG.cons rfl (VT.le_refl _) (SubG.cons rfl (VT.le_refl _) (SubG.cons rfl (VT.le_refl _) (SubG.cons rfl (VT.le_refl _) (SubG.cons rfl (VT.le_refl _) (SubG.cons rfl (VT.le_refl _) (SubG.cons rfl (VT.le_refl _) (SubG.cons rfl (VT.le_refl _) (SubG.cons rfl (VT.le_refl _) (SubG.cons rfl (VT.le_refl _) (SubG.cons rfl (VT.le_refl _) (SubG.cons rfl (VT.le_refl _) (SubG.cons rfl (VT.le_refl _) (SubG.cons rfl (VT.le_refl _) (SubG.nil)))))))))))))))))) (SubM.drop (SubM.drop (SubM.drop (SubM.refl _)))) ?_
  refine J_regU mixed (by kernel_rfl) (by kernel_rfl) ?_
  refine ux (fun B => s_move rfl) rfl rfl ?_
  refine ux (fun B => s_eq rfl rfl) rfl rfl ?_
  refine ux (fun B => s_move rfl) rfl rfl ?_
  refine ug1 rfl rfl (fun B => s_loadB 4 rfl rfl rfl) rfl rfl ?_
  refine uSg rfl rfl rfl rfl rfl rfl ?_
  refine PartsK.cons rfl ?_
  refine PartsK.cons rfl ?_
  refine PartsK.cons rfl ?_
  refine PartsK.cons rfl ?_
  refine PartsK.nil ?_
  refine ug1 rfl rfl (fun B => s_callk (ints_ok 2 2 [2, 1, 4, 3] (by decide) (by decide) (by decide)) rfl ⟨one_le rfl, one_le rfl, num_le .i64 [2, 1, 4, 3], trivial⟩) rfl rfl ?_
  refine ug1 rfl rfl (fun B => s_callk (same_self 2 2 (intsF 2 [2, 1, 4, 3]) (by decide)) rfl ⟨VT.le_refl _, VT.le_refl _, trivial⟩) rfl rfl ?_
  refine ux (fun B => s_pickT rfl rfl) rfl rfl ?_
  refine ux (fun B => s_move rfl) rfl rfl ?_
  refine ug1 rfl rfl (fun B => s_move rfl) rfl rfl ?_
  refine ug1 rfl rfl (fun B => s_eq rfl rfl) rfl rfl ?_
  refine ux (fun B => s_pickT rfl rfl) rfl rfl ?_
  refine ux (fun B => s_move rfl) rfl rfl ?_
  refine ug1 rfl rfl (fun B => s_move rfl) rfl rfl ?_
  refine ug1 rfl rfl (fun B => s_callk (rOf_ok (-2) (by decide) (by decide)) rfl ⟨VT.le_refl _, trivial⟩) rfl rfl ?_
  refine ug1 rfl rfl (fun B => s_callk (rOf_ok (-2) (by decide) (by decide)) rfl ⟨VT.le_refl _, trivial⟩) rfl rfl ?_
  refine uSg rfl rfl rfl rfl rfl rfl ?_
  refine PartsK.cons rfl ?_
  refine PartsK.cons rfl ?_
  refine PartsK.nil ?_
  refine ug1 rfl rfl (fun B => s_callk (sameVec_self [-2, -2]) rfl ⟨VT.le_refl _, VT.le_trans (vec_le [-2, -2]) (rowF_vec' _), trivial⟩) rfl rfl ?_
  refine ux (fun B => s_pickT rfl rfl) rfl rfl ?_
  refine ux (fun B => s_move rfl) rfl rfl ?_
  refine ug1 rfl rfl (fun B => s_move rfl) rfl rfl ?_
  refine ug1 rfl rfl (fun B => s_eq rfl rfl) rfl rfl ?_
  refine ux (fun B => s_pickT rfl rfl) rfl rfl ?_
  refine ux (fun B => s_move rfl) rfl rfl ?_
  refine ug1 rfl rfl (fun B => s_loadW 0 rfl rfl) rfl rfl ?_
  refine ug1 rfl rfl (fun B => s_callk (new_mat 2 3 (by decide) (by decide)) rfl ⟨one_le rfl, one_le rfl, trivial⟩) rfl rfl ?_
  refine ug1 rfl rfl (fun B => s_callk (same_self 2 3 (fun _ _ => 0) (by decide)) rfl ⟨VT.le_refl _, VT.le_refl _, trivial⟩) rfl rfl ?_
  refine ux (fun B => s_pickT rfl rfl) rfl rfl ?_
  refine ux (fun B => s_assign rfl) rfl rfl ?_
  refine RunU.nil (fun γ => ?_); simp only [ptrG, boxM, List.map_cons, List.map_nil, List.cons_append, List.nil_append]
  refine PJ_sub (Γ' := [(1, _), (2, _), (7, _), (8, _), (9, _), (10, _), (11, _), (12, _), (16, _), (18, _), (20, _), (21, _)]) (SubG.cons rfl (VT.le_refl _) (SubG.cons rfl (VT.le_refl _) (SubG.cons rfl (VT.le_refl _) (SubG.cons rfl (VT.le_refl _) (SubG.cons rfl (VT.le_refl _) (SubG.cons rfl (VT.le_refl _) (SubG.cons rfl (VT.le_refl _) (SubG.cons rfl (VT.le_refl _) (SubG.cons rfl (VT.le_refl _) (SubG.cons rfl (VT.le_refl _) (SubG.cons rfl (VT.le_refl _) (SubG.cons rfl (VT.le_refl _) (SubG.nil))))))))))))) (SubM.refl _) ?_
  refine pj_then ?_
  refine J_seq ?_
  refine J_regU mixed (by kernel_rfl) (by kernel_rfl) ?_
  refine ux (fun B => s_move rfl) rfl rfl ?_
  refine ux (fun B => s_eq rfl rfl) rfl rfl ?_
  refine ux (fun B => s_move rfl) rfl rfl ?_
  refine ug1 rfl rfl (fun B => s_loadB 3 rfl rfl rfl) rfl rfl ?_
  refine ug1 rfl rfl (fun B => s_loadW 6 rfl rfl) rfl rfl ?_
  refine ug1 rfl rfl (fun B => s_callk (same_self 2 2 (intsF 2 [1, 2, 3, 4]) (by decide)) rfl ⟨VT.le_refl _, VT.le_refl _, trivial⟩) rfl rfl ?_
  refine ux (fun B => s_pickT rfl rfl) rfl rfl ?_
  refine ux (fun B => s_move rfl) rfl rfl ?_
  refine ug1 rfl rfl (fun B => s_move rfl) rfl rfl ?_
  refine ug1 rfl rfl (fun B => s_eq rfl rfl) rfl rfl ?_
  refine ux (fun B => s_pickT rfl rfl) rfl rfl ?_
  refine ux (fun B => s_move rfl) rfl rfl ?_
  refine ug1 rfl rfl (fun B => s_loadW 2 rfl rfl) rfl rfl ?_
  refine uSg rfl rfl rfl rfl rfl rfl ?_
  refine PartsK.cons rfl ?_
  refine PartsK.cons rfl ?_
  refine PartsK.cons rfl ?_
  refine PartsK.cons rfl ?_
  refine PartsK.nil ?_
  refine ug1 rfl rfl (fun B => s_callk (ints_ok 2 2 [1, 3, 2, 4] (by decide) (by decide) (by decide)) rfl ⟨one_le rfl, one_le rfl, num_le .i64 [1, 3, 2, 4], trivial⟩) rfl rfl ?_
  refine ug1 rfl rfl (fun B => s_callk (same_self 2 2 (intsF 2 [1, 3, 2, 4]) (by decide)) rfl ⟨VT.le_refl _, VT.le_refl _, trivial⟩) rfl rfl ?_
  refine ux (fun B => s_pickT rfl rfl) rfl rfl ?_
  refine ux (fun B => s_move rfl) rfl rfl ?_
  refine ug1 rfl rfl (fun B => s_move rfl) rfl rfl ?_
  refine ug1 rfl rfl (fun B => s_eq rfl rfl) rfl rfl ?_
  refine ux (fun B => s_pickT rfl rfl) rfl rfl ?_
  refine ux (fun B => s_move rfl) rfl rfl ?_
  refine ug1 rfl rfl (fun B => s_loadW 1 rfl rfl) rfl rfl ?_
  refine uSg rfl rfl rfl rfl rfl rfl ?_
  refine PartsK.cons rfl ?_
  refine PartsK.cons rfl ?_
  refine PartsK.cons rfl ?_
  refine PartsK.cons rfl ?_
  refine PartsK.nil ?_
  refine ug1 rfl rfl (fun B => s_callk (ints_ok 2 2 [6, 4, 6, 4] (by decide) (by decide) (by decide)) rfl ⟨one_le rfl, one_le rfl, num_le .i64 [6, 4, 6, 4], trivial⟩) rfl rfl ?_
  refine ug1 rfl rfl (fun B => s_callk (same_self 2 2 (intsF 2 [6, 4, 6, 4]) (by decide)) rfl ⟨VT.le_refl _, VT.le_refl _, trivial⟩) rfl rfl ?_
  refine ux (fun B => s_pickT rfl rfl) rfl rfl ?_
  refine ux (fun B => s_assign rfl) rfl rfl ?_
  refine RunU.nil (fun γ => ?_); simp only [ptrG, boxM, List.map_cons, List.map_nil, List.cons_append, List.nil_append]
  refine PJ_sub (Γ' := [(1, _), (2, _), (16, _), (18, _), (20, _), (21, _), (22, _)]) (SubG.cons rfl (VT.le_refl _) (SubG.cons rfl (VT.le_refl _) (SubG.cons rfl (VT.le_refl _) (SubG.cons rfl (VT.le_refl _) (SubG.cons rfl (VT.le_refl _) (SubG.cons rfl (VT.le_refl _) (SubG.cons rfl (VT.le_refl _) (SubG.nil)))))))) (SubM.refl _) ?_
  refine pj_then ?_
  refine J_seq ?_
  refine J_reg ?_
  refine st (s_move rfl) rfl ?_
  refine st (s_move rfl) rfl ?_
  refine sg1 rfl rfl (s_move rfl) rfl ?_
  refine st (s_pickT rfl rfl) rfl ?_
  refine st (s_move rfl) rfl ?_
  refine sg1 rfl rfl (s_move rfl) rfl ?_
  refine sg1 rfl rfl (s_eq rfl rfl) rfl ?_
  refine st (s_pickT rfl rfl) rfl ?_
  refine st (s_move rfl) rfl ?_
  refine sg1 rfl rfl (s_move rfl) rfl ?_
  refine sg1 rfl rfl (s_eq rfl rfl) rfl ?_
  refine st (s_pickT rfl rfl) rfl ?_
  refine st (s_move rfl) rfl ?_
  refine sg1 rfl rfl (s_move rfl) rfl ?_
  refine sg1 rfl rfl (s_eq rfl rfl) rfl ?_
  refine st (s_pickT rfl rfl) rfl ?_
  refine st (s_move rfl) rfl ?_
  refine sg1 rfl rfl (s_callk (Identity_ok 2 (by decide)) rfl ⟨one_le rfl, trivial⟩) rfl ?_
  refine sg1 rfl rfl (s_callk (rIdentity_ok 2 (by decide)) rfl ⟨one_le rfl, trivial⟩) rfl ?_
  refine sg1 rfl rfl (s_callk (same_self 2 2 (fun i j => if i = j then 1 else 0) (by decide)) rfl ⟨VT.le_refl _, VT.le_refl _, trivial⟩) rfl ?_
  refine st (s_pickT rfl rfl) rfl ?_
  refine st (s_move rfl) rfl ?_
  refine sg1 rfl rfl (s_loadW 6 rfl rfl) rfl ?_
  refine sg1 rfl rfl (s_callk (matValidF_ok 2 2 (intsF 2 [1, 2, 3, 4])) rfl ⟨VT.le_refl _, trivial⟩) rfl ?_
  refine st (s_pickT rfl rfl) rfl ?_
  refine st (s_move rfl) rfl ?_
  refine stBg rfl rfl rfl rfl rfl ?_
  refine BuildK.cons rfl rfl rfl ?_
  refine BuildK.nil ?_
  refine sg1 rfl rfl (s_callk (ex_v1) rfl ⟨raw10, trivial⟩) rfl ?_
  refine sg1 rfl rfl (s_not rfl) rfl ?_
  refine st (s_pickT rfl rfl) rfl ?_
  refine st (s_move rfl) rfl ?_
  refine sg1 rfl rfl (s_callk (ex_z1) rfl ⟨nil_slT, trivial⟩) rfl ?_
  refine st (s_pickT rfl rfl) rfl ?_
  refine st (s_move rfl) rfl ?_
  refine sg1 rfl rfl (s_fieldAddr rfl) rfl ?_
  refine sg1 rfl rfl (s_loadB 5 rfl rfl rfl) rfl ?_
  (refine sg1 rfl rfl (s_indexI rfl rfl ?_ ?_) rfl ?_; omega; omega)
  refine sg1 rfl rfl (s_load rfl) rfl ?_
  refine sg1 rfl rfl (s_callk (ex_z2) rfl ⟨row12, trivial⟩) rfl ?_
  refine sg1 rfl rfl (s_not rfl) rfl ?_
  refine st (s_pickT rfl rfl) rfl ?_
  refine st (s_assign rfl) rfl ?_
  refine Run.nil ?_
  refine pj_then ?_
  refine J_ret ?_
  exact retc1 Try.results10 (.tmp rfl (VT.le_refl _))
end Tor
end

section
set_option linter.unusedVariables false
set_option linter.unusedSimpArgs false
namespace Tor
open Go Go.RowKit Go.Proofs
/-- All values are at most B. -/
def bd (B : Nat) (F : Nat → Nat → Int) : Prop := ∀ i j, (F i j).natAbs ≤ B
theorem bd_dig (l : List Int) (c : Nat) : bd 10 (fun i j => dig l (i * c + j)) := fun i j => by
  have := tmod10 (l.getD (i * c + j) 0)
  show (dig l _).natAbs ≤ 10
  unfold dig; omega
theorem bd_mul {n B C : Nat} {F G : Nat → Nat → Int} (hn : n ≤ 16) (hF : bd B F) (hG : bd C G) : bd (16 * (B * C)) (mulF n F G) := fun i j => by
  have := sumF_bound (n := n) (B := B * C) (f := fun k => F i k * G k j) (fun k => by rw [Int.natAbs_mul]; exact Nat.mul_le_mul (hF i k) (hG k j))
  exact Nat.le_trans this (Nat.mul_le_mul_right _ hn)
theorem bd_tr {B : Nat} {F : Nat → Nat → Int} (hF : bd B F) : bd B (fun i j => F j i) := fun i j => hF j i
theorem bd_mod4 {B : Nat} {F : Nat → Nat → Int} (hF : bd B F) (hB : B ≤ 2 ^ 400) : ∀ i j, mod4 (F i j) := fun i j => Nat.le_trans (hF i j) hB
theorem bd_small {B : Nat} {F : Nat → Nat → Int} (hF : bd B F) (hB : B ≤ 2 ^ 400) : ∀ i j, small (F i j) := fun i j => mod4_small (bd_mod4 hF hB i j)
theorem mul_tr (n : Nat) (F G : Nat → Nat → Int) : mulF n (fun i j => G j i) (fun i j => F j i) = fun i j => mulF n F G j i := by
  funext i j
  unfold mulF
  exact sumF_congr fun k _ => Int.mul_comm _ _
/-- The product where the sizes fit. -/
theorem MMulE_ok (r c d : Nat) (F G : Nat → Nat → Int) (h1 : r ≤ 1048576) (h2 : c ≤ 1048576) (h4 : d ≤ 1048576) (hF : ∀ i j, mod4 (F i j)) (hG : ∀ i j, mod4 (G i j)) :
    Ok Try.prog 20 [matF r c F, matF c d G] (tupT [matF r d (mulF c F G), one (.int .i64 0)]) := by
  have h := MMul_ok r c F c d G h1 h2 h4 hF hG
  rw [show decide (c = c) = true from decide_eq_true rfl] at h
  exact h
attribute [local irreducible] Tor.J Tor.PJ Tor.StepO Tor.one Tor.slT Tor.ptrT Tor.aggT Tor.tupT Tor.exT Tor.andT Tor.gT Tor.eP Tor.boxO Tor.sliO Tor.slV Tor.VT.le Tor.Ret Tor.anyT
attribute [local irreducible] bigT Tor.rowsO
set_option maxHeartbeats 8000000 in
theorem transLaw_ok (n0 n1 n2 n3 : Nat) (a b c : List Int) : Ok Try.prog 7 [threeT n0 n1 n2 n3 a b c] (one (.bool true)) := by
  have hn0 : n0 % 5 ≤ 4 := by omega
  have hn1 : n1 % 5 ≤ 4 := by omega
  have hn2 : n2 % 5 ≤ 4 := by omega
  have hch := chain_ok n0 n1 n2 n3 a b c
  unfold threeT at hch ⊢
  refine Ok.enter Try.func7 rfl Try.ntmps7 rfl (fun w O => ?_)
  have hA : bd 10 (fun i j => dig a (i * (n1 % 5) + j)) := bd_dig _ _
  have hB : bd 10 (fun i j => dig b (i * (n2 % 5) + j)) := bd_dig _ _
  generalize (fun i j => dig a (i * (n1 % 5) + j)) = F at *
  generalize (fun i j => dig b (i * (n2 % 5) + j)) = G at *
  generalize n0 % 5 = r0 at *
  generalize n1 % 5 = r1 at *
  generalize n2 % 5 = r2 at *
  have hAB := bd_mul (n := r1) (by omega) hA hB
  refine J_seq ?_
  refine J_reg ?_
  refine a_boxS rfl rfl (ltN rfl) (fun b1 => ?_)
  refine st (s_assign rfl) rfl ?_
  refine Run.nil ?_
  refine pj_then ?_
  refine J_seq ?_
  refine J_reg ?_
  refine st (s_callk (sanity_ok ) rfl trivial) rfl ?_
  refine st (s_assign rfl) rfl ?_
  refine Run.nil ?_
  refine pj_then ?_
  refine J_seq ?_
  refine J_reg ?_
  refine st (s_loadW 0 rfl rfl) rfl ?_
  refine st (s_callk (hch ) rfl ⟨VT.le_refl _, trivial⟩) rfl ?_
  refine st (s_move rfl) rfl ?_
  refine st (s_extract rfl rfl) rfl ?_
  refine st (s_extract rfl rfl) rfl ?_
  refine st (s_extract rfl rfl) rfl ?_
  refine a_allocS (T := 33) rfl rfl rfl (fun b4 => ?_)
  refine a_allocS (T := 33) rfl rfl rfl (fun b5 => ?_)
  refine a_allocS (T := 33) rfl rfl rfl (fun b6 => ?_)
  refine a_storeW 2 rfl rfl rfl rfl ?_
  refine a_storeW 1 rfl rfl rfl rfl ?_
  refine a_storeW 0 rfl rfl rfl rfl ?_
  refine Run.nil ?_
  refine pj_then ?_
  refine J_seq ?_
  refine J_reg ?_
  refine st (s_loadW 2 rfl rfl) rfl ?_
  refine st (s_loadW 1 rfl rfl) rfl ?_
  refine st (s_callk (MMulE_ok _ _ _ _ _ (by omega) (by omega) (by omega) (bd_mod4 hA (by decide +kernel)) (bd_mod4 hB (by decide +kernel))) rfl ⟨VT.le_refl _, VT.le_refl _, trivial⟩) rfl ?_
  refine st (s_move rfl) rfl ?_
  refine st (s_extract rfl rfl) rfl ?_
  refine st (s_extract rfl rfl) rfl ?_
  refine a_allocS (T := 33) rfl rfl rfl (fun b7 => ?_)
  refine a_storeW 0 rfl rfl rfl rfl ?_
  refine st (s_assign rfl) rfl ?_
  refine Run.nil ?_
  refine pj_then ?_
  refine J_seq ?_
  refine J_regU2 mixed (by kernel_rfl) (by kernel_rfl) ?_
  refine ux (fun B => s_loadW 3 rfl rfl) rfl rfl ?_
  refine uxk (Transpose_ok _ _ _ (by omega) (by omega) (bd_small hA (by decide +kernel))) rfl ⟨VT.le_refl _, trivial⟩ rfl ?_
  refine ux (fun B => s_loadW 2 rfl rfl) rfl rfl ?_
  refine uxk (Transpose_ok _ _ _ (by omega) (by omega) (bd_small hB (by decide +kernel))) rfl ⟨VT.le_refl _, trivial⟩ rfl ?_
  refine ua rfl ?_
  refine ua rfl ?_
  refine us rfl ?_
  refine us rfl ?_
  refine RunU.nil (fun γ => ?_)
  refine PJ_normM (M' := [_, _, _, _, _, _, _]) rfl ?_
  refine pj_then ?_
  refine J_seq ?_
  refine J_seq ?_
  refine J_reg ?_
  refine st (s_move rfl) rfl ?_
  refine st (sF (by omega) (s_ne rfl rfl)) rfl ?_
  refine st (s_move rfl) rfl ?_
  refine sg1 rfl rfl (s_loadW 2 rfl rfl) rfl ?_
  refine sg1 rfl rfl (s_fieldAddr rfl) rfl ?_
  refine sg1 rfl rfl (s_loadB 5 rfl rfl rfl) rfl ?_
  refine sg1 rfl rfl (s_fieldAddr rfl) rfl ?_
  refine sg1 rfl rfl (s_loadB 4 rfl rfl rfl) rfl ?_
  refine sg1 rfl rfl (s_callk (rSized_ok _ _ _ (by omega) (bd_small hAB (by decide +kernel))) rfl ⟨VT.le_refl _, VT.le_refl _, VT.le_refl _, trivial⟩) rfl ?_
  refine sg1 rfl rfl (s_not rfl) rfl ?_
  refine st (s_pickF rfl rfl) rfl ?_
  refine st (s_move rfl) rfl ?_
  refine sg1 rfl rfl (s_loadB 1 rfl rfl rfl) rfl ?_
  refine sg1 rfl rfl (s_fieldAddr rfl) rfl ?_
  refine sg1 rfl rfl (s_loadB 5 rfl rfl rfl) rfl ?_
  refine sg1 rfl rfl (s_fieldAddr rfl) rfl ?_
  refine sg1 rfl rfl (s_loadB 5 rfl rfl rfl) rfl ?_
  refine sg1 rfl rfl (s_callk (rSized_ok _ _ _ (by omega) (bd_small (bd_tr hA) (by decide +kernel))) rfl ⟨VT.le_refl _, VT.le_refl _, VT.le_refl _, trivial⟩) rfl ?_
  refine sg1 rfl rfl (s_not rfl) rfl ?_
  refine st (s_pickF rfl rfl) rfl ?_
  refine st (s_move rfl) rfl ?_
  refine sg1 rfl rfl (s_loadB 0 rfl rfl rfl) rfl ?_
  refine sg1 rfl rfl (s_fieldAddr rfl) rfl ?_
  refine sg1 rfl rfl (s_loadB 4 rfl rfl rfl) rfl ?_
  refine sg1 rfl rfl (s_fieldAddr rfl) rfl ?_
  refine sg1 rfl rfl (s_loadB 4 rfl rfl rfl) rfl ?_
  refine sg1 rfl rfl (s_callk (rSized_ok _ _ _ (by omega) (bd_small (bd_tr hB) (by decide +kernel))) rfl ⟨VT.le_refl _, VT.le_refl _, VT.le_refl _, trivial⟩) rfl ?_
  refine sg1 rfl rfl (s_not rfl) rfl ?_
  refine st (s_pickF rfl rfl) rfl ?_
  refine Run.nil ?_
  refine pj_then ?_
  refine J_cond0 rfl ?_
  refine J_skip ?_
  refine pj_then ?_
  refine J_seq ?_
  refine J_reg ?_
  refine st (s_loadB 0 rfl rfl rfl) rfl ?_
  refine st (s_loadB 1 rfl rfl rfl) rfl ?_
  refine st (s_callk (MMulE_ok _ _ _ _ _ (by omega) (by omega) (by omega) (bd_mod4 (bd_tr hB) (by decide +kernel)) (bd_mod4 (bd_tr hA) (by decide +kernel))) rfl ⟨VT.le_refl _, VT.le_refl _, trivial⟩) rfl ?_
  refine st (s_move rfl) rfl ?_
  refine st (s_extract rfl rfl) rfl ?_
  refine st (s_extract rfl rfl) rfl ?_
  refine a_allocS (T := 33) rfl rfl rfl (fun b11 => ?_)
  refine a_storeW 0 rfl rfl rfl rfl ?_
  refine st (s_assign rfl) rfl ?_
  refine Run.nil ?_
  refine pj_then ?_
  refine J_seq ?_
  refine J_regd 17 mixed (by kernel_rfl) (by decide) ?_
  refine st (s_move rfl) rfl ?_
  refine st (sT (by omega) (s_eq rfl rfl)) rfl ?_
  refine st (s_move rfl) rfl ?_
  refine sg1 rfl rfl (s_loadW 3 rfl rfl) rfl ?_
  refine sg1 rfl rfl (s_callk (Transpose_ok _ _ _ (by omega) (by omega) (bd_small hAB (by decide +kernel))) rfl ⟨VT.le_refl _, trivial⟩) rfl ?_
  refine sg1 rfl rfl (s_loadW 0 rfl rfl) rfl ?_
  refine sg1 rfl rfl (sT (⟨rfl, rfl, by rw [mul_tr]⟩) (s_callk (rSameF_ok _ _ _ _ _ _ (by omega)) rfl ⟨VT.le_refl _, VT.le_refl _, trivial⟩)) rfl ?_
  refine st (s_pickT rfl rfl) rfl ?_
  refine st (s_move rfl) rfl ?_
  refine sg1 rfl rfl (s_loadB 2 rfl rfl rfl) rfl ?_
  refine sg1 rfl rfl (s_callk (Transpose_ok _ _ _ (by omega) (by omega) (bd_small (bd_tr hA) (by decide +kernel))) rfl ⟨VT.le_refl _, trivial⟩) rfl ?_
  refine sg1 rfl rfl (s_loadW 6 rfl rfl) rfl ?_
  refine sg1 rfl rfl (sT (⟨rfl, rfl, rfl⟩) (s_callk (rSameF_ok _ _ _ _ _ _ (by omega)) rfl ⟨VT.le_refl _, VT.le_refl _, trivial⟩)) rfl ?_
  refine st (s_pickT rfl rfl) rfl ?_
  refine st (s_move rfl) rfl ?_
  refine sg1 rfl rfl (s_move rfl) rfl ?_
  refine st (s_pickT rfl rfl) rfl ?_
  refine Run.nil ?_
  refine st (s_assign rfl) rfl ?_
  refine Run.nil ?_
  refine pj_then ?_
  refine J_ret ?_
  refine retc1 Try.results7 (.tmp rfl (VT.le_refl _))
end Tor
end

section
set_option linter.unusedVariables false
set_option linter.unusedSimpArgs false
namespace Tor
open Go Go.RowKit Go.Proofs
/-- The contracts where the sizes fit. -/
theorem MAddE_ok (r c : Nat) (F G : Nat → Nat → Int) (h1 : r ≤ 1048576) (h2 : c ≤ 1048576) (hF : ∀ i j, small (F i j)) (hG : ∀ i j, small (G i j)) :
    Ok Try.prog 39 [matF r c F, matF r c G] (tupT [matF r c (eachF (· + ·) F G), one (.int .i64 0)]) := by
  have h := MAdd_ok r c F r c G h1 h2 hF hG
  rw [decide_eq_true ⟨rfl, rfl⟩] at h; exact h
theorem MSubE_ok (r c : Nat) (F G : Nat → Nat → Int) (h1 : r ≤ 1048576) (h2 : c ≤ 1048576) (hF : ∀ i j, small (F i j)) (hG : ∀ i j, small (G i j)) :
    Ok Try.prog 41 [matF r c F, matF r c G] (tupT [matF r c (eachF (· - ·) F G), one (.int .i64 0)]) := by
  have h := MSub_ok r c F r c G h1 h2 hF hG
  rw [decide_eq_true ⟨rfl, rfl⟩] at h; exact h
theorem MStackE_ok (ra rb c : Nat) (F G : Nat → Nat → Int) (h1 : ra ≤ 1048576) (h2 : c ≤ 1048576) (h3 : rb ≤ 1048576) (hF : ∀ i j, small (F i j)) (hG : ∀ i j, small (G i j)) :
    Ok Try.prog 17 [matF ra c F, matF rb c G] (tupT [matF (ra + rb) c (stackF ra F G), one (.int .i64 0)]) := by
  have h := Stack_ok ra c F rb c G h1 h2 h3 hF hG
  rw [show decide (c = c) = true from decide_eq_true rfl] at h; exact h
theorem MBesideE_ok (r ca cb : Nat) (F G : Nat → Nat → Int) (h1 : r ≤ 1048576) (h2 : ca ≤ 1048576) (h3 : cb ≤ 1048576) (hF : ∀ i j, small (F i j)) (hG : ∀ i j, small (G i j)) :
    Ok Try.prog 18 [matF r ca F, matF r cb G] (tupT [matF r (ca + cb) (besF ca F G), one (.int .i64 0)]) := by
  have h := Beside_ok r ca F r cb G h1 h2 h3 hF hG
  rw [show decide (r = r) = true from decide_eq_true rfl] at h; exact h
theorem rAddE_ok (r c : Nat) (F G : Nat → Nat → Int) (h1 : r ≤ 1048576) (h2 : c ≤ 1048576) (hF : ∀ i j, small (F i j)) (hG : ∀ i j, small (G i j)) :
    Ok Try.prog 22 [matF r c F, matF r c G] (tupT [matF r c (fun i j => F i j + G i j), one (.int .i64 0)]) := by
  have h := rAddM_ok r c F r c G h1 h2 hF hG
  rw [decide_eq_true ⟨rfl, rfl⟩] at h; exact h
/-- Bounds. -/
theorem bd_each_add {B C : Nat} {F G : Nat → Nat → Int} (hF : bd B F) (hG : bd C G) : bd (B + C) (eachF (· + ·) F G) := fun i j => by
  have h1 := hF i j
  have h2 := hG i j
  show (F i j + G i j).natAbs ≤ B + C
  omega
theorem bd_stack {B : Nat} {ra : Nat} {F G : Nat → Nat → Int} (hF : bd B F) (hG : bd B G) : bd B (stackF ra F G) := fun i j => by
  unfold stackF; split
  · exact hF i j
  · exact hG _ j
theorem bd_bes {B : Nat} {ca : Nat} {F G : Nat → Nat → Int} (hF : bd B F) (hG : bd B G) : bd B (besF ca F G) := fun i j => by
  unfold besF; split
  · exact hF i j
  · exact hG i _
/-- Sums. -/
theorem sumF_add (n : Nat) (f g : Nat → Int) : sumF n (fun k => f k + g k) = sumF n f + sumF n g := by
  induction n with
  | zero => rfl
  | succ n ih => rw [sumF_step, sumF_step, sumF_step, ih]; omega
theorem sumF_mulr (n : Nat) (f : Nat → Int) (c : Int) : sumF n (fun k => f k * c) = sumF n f * c := by
  induction n with
  | zero => simp [sumF]
  | succ n ih => rw [sumF_step, sumF_step, ih, Int.add_mul]
theorem sumF_mull (n : Nat) (f : Nat → Int) (c : Int) : sumF n (fun k => c * f k) = c * sumF n f := by
  induction n with
  | zero => simp [sumF]
  | succ n ih => rw [sumF_step, sumF_step, ih, Int.mul_add]
theorem sumF_zero (n : Nat) : sumF n (fun _ => 0) = 0 := by
  induction n with
  | zero => rfl
  | succ n ih => rw [sumF_step, ih]; rfl
theorem sumF_swap (n m : Nat) (f : Nat → Nat → Int) : sumF n (fun i => sumF m (fun j => f i j)) = sumF m (fun j => sumF n (fun i => f i j)) := by
  induction n with
  | zero => exact (sumF_zero m).symm
  | succ n ih =>
    rw [sumF_step, ih, ← sumF_add]
    exact sumF_congr fun j _ => rfl
theorem sumF_app (n m : Nat) (f : Nat → Int) : sumF (n + m) f = sumF n f + sumF m (fun k => f (n + k)) := by
  induction m with
  | zero => show sumF n f = sumF n f + 0; omega
  | succ m ih => rw [← Nat.add_assoc, sumF_step, sumF_step, ih]; omega
theorem sumF_delta (n j : Nat) (f : Nat → Int) (hj : j < n) : sumF n (fun k => f k * (if k = j then 1 else 0)) = f j := by
  induction n with
  | zero => omega
  | succ n ih =>
    rw [sumF_step]
    by_cases h : j = n
    · subst h
      have : sumF j (fun k => f k * (if k = j then 1 else 0)) = sumF j (fun _ => 0) := sumF_congr fun k hk => by rw [if_neg (by omega)]; simp
      rw [this, sumF_zero, if_pos rfl]; omega
    · rw [ih (by omega), if_neg (fun e => h e.symm)]; omega
theorem mul_assocF (n m : Nat) (F G H : Nat → Nat → Int) : mulF m (mulF n F G) H = mulF n F (mulF m G H) := by
  funext i j
  unfold mulF
  rw [show sumF m (fun k => sumF n (fun l => F i l * G l k) * H k j) = sumF m (fun k => sumF n (fun l => F i l * G l k * H k j)) from sumF_congr fun k _ => (sumF_mulr _ _ _).symm]
  rw [sumF_swap]
  refine sumF_congr fun l _ => ?_
  rw [← sumF_mull]
  exact sumF_congr fun k _ => Int.mul_assoc _ _ _
theorem mul_addF (n : Nat) (F G H : Nat → Nat → Int) : mulF n F (eachF (· + ·) G H) = eachF (· + ·) (mulF n F G) (mulF n F H) := by
  funext i j
  show sumF n (fun k => F i k * (G k j + H k j)) = sumF n (fun k => F i k * G k j) + sumF n (fun k => F i k * H k j)
  rw [← sumF_add]
  exact sumF_congr fun k _ => Int.mul_add _ _ _
theorem mul_stack (n ra : Nat) (F G H : Nat → Nat → Int) : mulF n (stackF ra F G) H = stackF ra (mulF n F H) (mulF n G H) := by
  funext i j
  by_cases h : i < ra
  · simp [mulF, stackF, h]
  · simp [mulF, stackF, h]
theorem mul_bes (n ca : Nat) (F G H : Nat → Nat → Int) : mulF n F (besF ca G H) = besF ca (mulF n F G) (mulF n F H) := by
  funext i j
  by_cases h : j < ca
  · simp [mulF, besF, h]
  · simp [mulF, besF, h]
theorem mul_blocks (n m : Nat) (F F' G G' : Nat → Nat → Int) : mulF (n + m) (besF n F F') (stackF n G G') = fun i j => mulF n F G i j + mulF m F' G' i j := by
  funext i j
  unfold mulF
  rw [sumF_app]
  congr 1
  · exact sumF_congr fun k hk => by simp [besF, stackF, hk]
  · exact sumF_congr fun k hk => by simp [besF, stackF, show ¬ n + k < n by omega]
theorem mul_id (n : Nat) (F : Nat → Nat → Int) (r : Nat) : tab r n (mulF n F (fun i j => if i = j then 1 else 0)) = tab r n F :=
  tab_congr fun i j _ hj => sumF_delta n j (F i) hj
theorem each_comm (F G : Nat → Nat → Int) : eachF (· + ·) F G = eachF (· + ·) G F := by
  funext i j; exact Int.add_comm _ _
theorem each_gap (F G : Nat → Nat → Int) : eachF (· - ·) (eachF (· + ·) F G) G = F := by
  funext i j; show F i j + G i j - G i j = F i j; omega
theorem bd_id : bd 1 (fun i j : Nat => if i = j then 1 else 0) := fun i j => by
  show Int.natAbs (if i = j then 1 else 0) ≤ 1
  split <;> decide
attribute [local irreducible] Tor.J Tor.PJ Tor.StepO Tor.one Tor.slT Tor.ptrT Tor.aggT Tor.tupT Tor.exT Tor.andT Tor.gT Tor.eP Tor.boxO Tor.sliO Tor.slV Tor.VT.le Tor.Ret Tor.anyT
attribute [local irreducible] bigT Tor.rowsO
set_option maxRecDepth 100000 in
set_option maxHeartbeats 8000000 in
theorem ringLaw_ok (n0 n1 n2 n3 : Nat) (a b c d : List Int) : Ok Try.prog 8 [threeT n0 n1 n2 n3 a b c, numT .i8 d] (one (.bool true)) := by
  have hn0 : n0 % 5 ≤ 4 := by omega
  have hn1 : n1 % 5 ≤ 4 := by omega
  have hn2 : n2 % 5 ≤ 4 := by omega
  have hn3 : n3 % 5 ≤ 4 := by omega
  have hch := chain_ok n0 n1 n2 n3 a b c
  have hfl := rFilled_ok (n1 % 5) (n2 % 5) d (by omega) (by omega)
  unfold threeT at hch ⊢
  refine Ok.enter Try.func8 rfl Try.ntmps8 rfl (fun w O => ?_)
  have hA : bd 10 (fun i j => dig a (i * (n1 % 5) + j)) := bd_dig _ _
  have hB : bd 10 (fun i j => dig b (i * (n2 % 5) + j)) := bd_dig _ _
  have hC : bd 10 (fun i j => dig c (i * (n3 % 5) + j)) := bd_dig _ _
  have hD : bd 10 (fun i j => dig d (i * (n2 % 5) + j)) := bd_dig _ _
  generalize (fun i j => dig a (i * (n1 % 5) + j)) = F at *
  generalize (fun i j => dig b (i * (n2 % 5) + j)) = G at *
  generalize (fun i j => dig c (i * (n3 % 5) + j)) = H at *
  generalize (fun i j => dig d (i * (n2 % 5) + j)) = G2 at *
  generalize n0 % 5 = r0 at *
  generalize n1 % 5 = r1 at *
  generalize n2 % 5 = r2 at *
  generalize n3 % 5 = r3 at *
  have hAB := bd_mul (n := r1) (by omega) hA hB
  have hBC := bd_mul (n := r2) (by omega) hB hC
  have hS := bd_each_add hB hD
  have hO := bd_mul (n := r1) (by omega) hA hD
  have m1 := bd_mod4 hA (by decide +kernel)
  have m2 := bd_mod4 hB (by decide +kernel)
  have m3 := bd_mod4 hC (by decide +kernel)
  have m4 := bd_mod4 hD (by decide +kernel)
  have m5 := bd_mod4 hAB (by decide +kernel)
  have m6 := bd_mod4 hBC (by decide +kernel)
  have m7 := bd_mod4 hS (by decide +kernel)
  have m8 := bd_mod4 bd_id (by decide +kernel)
  have s2 := bd_small hB (by decide +kernel)
  have s4 := bd_small hD (by decide +kernel)
  have s5 := bd_small hAB (by decide +kernel)
  have s6 := bd_small hBC (by decide +kernel)
  have s7 := bd_small hS (by decide +kernel)
  have s8 := bd_small hO (by decide +kernel)
  refine J_seq ?_
  refine J_reg ?_
  refine a_boxS rfl rfl (ltN rfl) (fun b2 => ?_)
  refine st (s_assign rfl) rfl ?_
  refine Run.nil ?_
  refine pj_then ?_
  refine J_seq ?_
  refine J_reg ?_
  refine st (s_callk (sanity_ok ) rfl trivial) rfl ?_
  refine st (s_assign rfl) rfl ?_
  refine Run.nil ?_
  refine pj_then ?_
  refine J_seq ?_
  refine J_reg ?_
  refine st (s_loadW 0 rfl rfl) rfl ?_
  refine st (s_callk (hch ) rfl ⟨VT.le_refl _, trivial⟩) rfl ?_
  refine st (s_move rfl) rfl ?_
  refine st (s_extract rfl rfl) rfl ?_
  refine st (s_extract rfl rfl) rfl ?_
  refine st (s_extract rfl rfl) rfl ?_
  refine a_allocS (T := 33) rfl rfl rfl (fun b6 => ?_)
  refine a_allocS (T := 33) rfl rfl rfl (fun b7 => ?_)
  refine a_allocS (T := 33) rfl rfl rfl (fun b8 => ?_)
  refine a_storeW 2 rfl rfl rfl rfl ?_
  refine a_storeW 1 rfl rfl rfl rfl ?_
  refine a_storeW 0 rfl rfl rfl rfl ?_
  refine Run.nil ?_
  refine pj_then ?_
  refine J_seq ?_
  refine J_reg ?_
  refine st (s_fieldAddr rfl) rfl ?_
  refine st (s_loadB 1 rfl rfl rfl) rfl ?_
  refine st (s_fieldAddr rfl) rfl ?_
  refine st (s_loadB 1 rfl rfl rfl) rfl ?_
  refine st (s_move rfl) rfl ?_
  refine st (s_callk (hfl ) rfl ⟨VT.le_refl _, VT.le_refl _, VT.le_refl _, trivial⟩) rfl ?_
  refine a_allocS (T := 33) rfl rfl rfl (fun b9 => ?_)
  refine a_storeW 0 rfl rfl rfl rfl ?_
  refine Run.nil ?_
  refine pj_then ?_
  refine J_seq ?_
  refine J_reg ?_
  refine st (s_loadW 3 rfl rfl) rfl ?_
  refine st (s_loadW 2 rfl rfl) rfl ?_
  refine st (s_callk (MMulE_ok _ _ _ _ _ (by omega) (by omega) (by omega) (by assumption) (by assumption)) rfl ⟨VT.le_refl _, VT.le_refl _, trivial⟩) rfl ?_
  refine st (s_move rfl) rfl ?_
  refine st (s_extract rfl rfl) rfl ?_
  refine st (s_extract rfl rfl) rfl ?_
  refine a_allocS (T := 33) rfl rfl rfl (fun b10 => ?_)
  refine a_storeW 0 rfl rfl rfl rfl ?_
  refine st (s_assign rfl) rfl ?_
  refine Run.nil ?_
  refine pj_then ?_
  refine J_seq ?_
  refine J_reg ?_
  refine st (s_loadW 3 rfl rfl) rfl ?_
  refine st (s_loadW 2 rfl rfl) rfl ?_
  refine st (s_callk (MMulE_ok _ _ _ _ _ (by omega) (by omega) (by omega) (by assumption) (by assumption)) rfl ⟨VT.le_refl _, VT.le_refl _, trivial⟩) rfl ?_
  refine st (s_move rfl) rfl ?_
  refine st (s_extract rfl rfl) rfl ?_
  refine st (s_extract rfl rfl) rfl ?_
  refine a_allocS (T := 33) rfl rfl rfl (fun b12 => ?_)
  refine a_storeW 0 rfl rfl rfl rfl ?_
  refine st (s_assign rfl) rfl ?_
  refine Run.nil ?_
  refine pj_then ?_
  refine J_seq ?_
  refine J_reg ?_
  refine st (s_loadW 4 rfl rfl) rfl ?_
  refine st (s_loadW 2 rfl rfl) rfl ?_
  refine st (s_callk (MAddE_ok _ _ _ _ (by omega) (by omega) (by assumption) (by assumption)) rfl ⟨VT.le_refl _, VT.le_refl _, trivial⟩) rfl ?_
  refine st (s_move rfl) rfl ?_
  refine st (s_extract rfl rfl) rfl ?_
  refine st (s_extract rfl rfl) rfl ?_
  refine a_allocS (T := 33) rfl rfl rfl (fun b14 => ?_)
  refine a_storeW 0 rfl rfl rfl rfl ?_
  refine st (s_assign rfl) rfl ?_
  refine Run.nil ?_
  refine pj_then ?_
  refine J_seq ?_
  refine J_reg ?_
  refine st (s_loadW 3 rfl rfl) rfl ?_
  refine st (s_loadW 5 rfl rfl) rfl ?_
  refine st (s_callk (MAddE_ok _ _ _ _ (by omega) (by omega) (by assumption) (by assumption)) rfl ⟨VT.le_refl _, VT.le_refl _, trivial⟩) rfl ?_
  refine st (s_move rfl) rfl ?_
  refine st (s_extract rfl rfl) rfl ?_
  refine st (s_extract rfl rfl) rfl ?_
  refine a_allocS (T := 33) rfl rfl rfl (fun b16 => ?_)
  refine a_storeW 0 rfl rfl rfl rfl ?_
  refine st (s_assign rfl) rfl ?_
  refine Run.nil ?_
  refine pj_then ?_
  refine J_seq ?_
  refine J_seq ?_
  refine J_reg ?_
  refine st (s_move rfl) rfl ?_
  refine st (sF (by omega) (s_ne rfl rfl)) rfl ?_
  refine st (s_move rfl) rfl ?_
  refine sg1 rfl rfl (s_move rfl) rfl ?_
  refine sg1 rfl rfl (sF (by omega) (s_ne rfl rfl)) rfl ?_
  refine st (s_pickF rfl rfl) rfl ?_
  refine st (s_move rfl) rfl ?_
  refine sg1 rfl rfl (s_move rfl) rfl ?_
  refine sg1 rfl rfl (sF (by omega) (s_ne rfl rfl)) rfl ?_
  refine st (s_pickF rfl rfl) rfl ?_
  refine st (s_move rfl) rfl ?_
  refine sg1 rfl rfl (s_move rfl) rfl ?_
  refine sg1 rfl rfl (sF (by omega) (s_ne rfl rfl)) rfl ?_
  refine st (s_pickF rfl rfl) rfl ?_
  refine st (s_move rfl) rfl ?_
  refine sg1 rfl rfl (s_loadW 3 rfl rfl) rfl ?_
  refine sg1 rfl rfl (s_fieldAddr rfl) rfl ?_
  refine sg1 rfl rfl (s_loadB 7 rfl rfl rfl) rfl ?_
  refine sg1 rfl rfl (s_fieldAddr rfl) rfl ?_
  refine sg1 rfl rfl (s_loadB 6 rfl rfl rfl) rfl ?_
  refine sg1 rfl rfl (s_callk (rSized_ok _ _ _ (by omega) (by assumption)) rfl ⟨VT.le_refl _, VT.le_refl _, VT.le_refl _, trivial⟩) rfl ?_
  refine sg1 rfl rfl (s_not rfl) rfl ?_
  refine st (s_pickF rfl rfl) rfl ?_
  refine st (s_move rfl) rfl ?_
  refine sg1 rfl rfl (s_loadW 2 rfl rfl) rfl ?_
  refine sg1 rfl rfl (s_fieldAddr rfl) rfl ?_
  refine sg1 rfl rfl (s_loadB 6 rfl rfl rfl) rfl ?_
  refine sg1 rfl rfl (s_fieldAddr rfl) rfl ?_
  refine sg1 rfl rfl (s_loadB 5 rfl rfl rfl) rfl ?_
  refine sg1 rfl rfl (s_callk (rSized_ok _ _ _ (by omega) (by assumption)) rfl ⟨VT.le_refl _, VT.le_refl _, VT.le_refl _, trivial⟩) rfl ?_
  refine sg1 rfl rfl (s_not rfl) rfl ?_
  refine st (s_pickF rfl rfl) rfl ?_
  refine st (s_move rfl) rfl ?_
  refine sg1 rfl rfl (s_loadW 1 rfl rfl) rfl ?_
  refine sg1 rfl rfl (s_fieldAddr rfl) rfl ?_
  refine sg1 rfl rfl (s_loadB 6 rfl rfl rfl) rfl ?_
  refine sg1 rfl rfl (s_fieldAddr rfl) rfl ?_
  refine sg1 rfl rfl (s_loadB 6 rfl rfl rfl) rfl ?_
  refine sg1 rfl rfl (s_callk (rSized_ok _ _ _ (by omega) (by assumption)) rfl ⟨VT.le_refl _, VT.le_refl _, VT.le_refl _, trivial⟩) rfl ?_
  refine sg1 rfl rfl (s_not rfl) rfl ?_
  refine st (s_pickF rfl rfl) rfl ?_
  refine Run.nil ?_
  refine pj_then ?_
  refine J_cond0 rfl ?_
  refine J_skip ?_
  refine pj_then ?_
  refine J_seq ?_
  refine J_reg ?_
  refine st (s_loadW 3 rfl rfl) rfl ?_
  refine st (s_loadW 5 rfl rfl) rfl ?_
  refine st (s_callk (MMulE_ok _ _ _ _ _ (by omega) (by omega) (by omega) (by assumption) (by assumption)) rfl ⟨VT.le_refl _, VT.le_refl _, trivial⟩) rfl ?_
  refine st (s_move rfl) rfl ?_
  refine st (s_extract rfl rfl) rfl ?_
  refine st (s_extract rfl rfl) rfl ?_
  refine a_allocS (T := 33) rfl rfl rfl (fun b18 => ?_)
  refine a_storeW 0 rfl rfl rfl rfl ?_
  refine st (s_assign rfl) rfl ?_
  refine Run.nil ?_
  refine pj_then ?_
  refine J_seq ?_
  refine J_reg ?_
  refine st (s_loadW 8 rfl rfl) rfl ?_
  refine st (s_loadW 3 rfl rfl) rfl ?_
  refine st (s_callk (MMulE_ok _ _ _ _ _ (by omega) (by omega) (by omega) (by assumption) (by assumption)) rfl ⟨VT.le_refl _, VT.le_refl _, trivial⟩) rfl ?_
  refine st (s_move rfl) rfl ?_
  refine st (s_extract rfl rfl) rfl ?_
  refine st (s_extract rfl rfl) rfl ?_
  refine a_allocS (T := 33) rfl rfl rfl (fun b20 => ?_)
  refine a_storeW 0 rfl rfl rfl rfl ?_
  refine st (s_assign rfl) rfl ?_
  refine Run.nil ?_
  refine pj_then ?_
  refine J_seq ?_
  refine J_reg ?_
  refine st (s_loadW 9 rfl rfl) rfl ?_
  refine st (s_loadW 3 rfl rfl) rfl ?_
  refine st (s_callk (MMulE_ok _ _ _ _ _ (by omega) (by omega) (by omega) (by assumption) (by assumption)) rfl ⟨VT.le_refl _, VT.le_refl _, trivial⟩) rfl ?_
  refine st (s_move rfl) rfl ?_
  refine st (s_extract rfl rfl) rfl ?_
  refine st (s_extract rfl rfl) rfl ?_
  refine a_allocS (T := 33) rfl rfl rfl (fun b22 => ?_)
  refine a_storeW 0 rfl rfl rfl rfl ?_
  refine st (s_assign rfl) rfl ?_
  refine Run.nil ?_
  refine pj_then ?_
  refine J_seq ?_
  refine J_reg ?_
  refine st (s_loadW 10 rfl rfl) rfl ?_
  refine st (s_loadW 7 rfl rfl) rfl ?_
  refine st (s_callk (MMulE_ok _ _ _ _ _ (by omega) (by omega) (by omega) (by assumption) (by assumption)) rfl ⟨VT.le_refl _, VT.le_refl _, trivial⟩) rfl ?_
  refine st (s_move rfl) rfl ?_
  refine st (s_extract rfl rfl) rfl ?_
  refine st (s_extract rfl rfl) rfl ?_
  refine a_allocS (T := 33) rfl rfl rfl (fun b24 => ?_)
  refine a_storeW 0 rfl rfl rfl rfl ?_
  refine st (s_assign rfl) rfl ?_
  refine Run.nil ?_
  refine pj_then ?_
  refine J_seq ?_
  refine J_seq ?_
  refine J_reg ?_
  refine st (s_move rfl) rfl ?_
  refine st (sF (by omega) (s_ne rfl rfl)) rfl ?_
  refine st (s_move rfl) rfl ?_
  refine sg1 rfl rfl (s_move rfl) rfl ?_
  refine sg1 rfl rfl (sF (by omega) (s_ne rfl rfl)) rfl ?_
  refine st (s_pickF rfl rfl) rfl ?_
  refine st (s_move rfl) rfl ?_
  refine sg1 rfl rfl (s_move rfl) rfl ?_
  refine sg1 rfl rfl (sF (by omega) (s_ne rfl rfl)) rfl ?_
  refine st (s_pickF rfl rfl) rfl ?_
  refine st (s_move rfl) rfl ?_
  refine sg1 rfl rfl (s_move rfl) rfl ?_
  refine sg1 rfl rfl (sF (by omega) (s_ne rfl rfl)) rfl ?_
  refine st (s_pickF rfl rfl) rfl ?_
  refine st (s_move rfl) rfl ?_
  refine sg1 rfl rfl (s_loadW 0 rfl rfl) rfl ?_
  refine sg1 rfl rfl (s_fieldAddr rfl) rfl ?_
  refine sg1 rfl rfl (s_loadB 11 rfl rfl rfl) rfl ?_
  refine sg1 rfl rfl (s_fieldAddr rfl) rfl ?_
  refine sg1 rfl rfl (s_loadB 10 rfl rfl rfl) rfl ?_
  refine sg1 rfl rfl (s_callk (rSized_ok _ _ _ (by omega) (by assumption)) rfl ⟨VT.le_refl _, VT.le_refl _, VT.le_refl _, trivial⟩) rfl ?_
  refine sg1 rfl rfl (s_not rfl) rfl ?_
  refine st (s_pickF rfl rfl) rfl ?_
  refine Run.nil ?_
  refine pj_then ?_
  refine J_cond0 rfl ?_
  refine J_skip ?_
  refine pj_then ?_
  refine J_seq ?_
  refine J_reg ?_
  refine st (s_loadW 7 rfl rfl) rfl ?_
  refine st (s_loadW 0 rfl rfl) rfl ?_
  refine st (s_callk (MAddE_ok _ _ _ _ (by omega) (by omega) (by assumption) (by assumption)) rfl ⟨VT.le_refl _, VT.le_refl _, trivial⟩) rfl ?_
  refine st (s_move rfl) rfl ?_
  refine st (s_extract rfl rfl) rfl ?_
  refine st (s_extract rfl rfl) rfl ?_
  refine a_allocS (T := 33) rfl rfl rfl (fun b26 => ?_)
  refine a_storeW 0 rfl rfl rfl rfl ?_
  refine st (s_assign rfl) rfl ?_
  refine Run.nil ?_
  refine pj_then ?_
  refine J_seq ?_
  refine J_regU2 mixed (by kernel_rfl) (by kernel_rfl) ?_
  refine ux (fun B => s_loadW 12 rfl rfl) rfl rfl ?_
  refine ux (fun B => s_fieldAddr rfl) rfl rfl ?_
  refine ux (fun B => s_loadB 12 rfl rfl rfl) rfl rfl ?_
  refine uxk (Identity_ok _ (by omega)) rfl ⟨VT.le_refl _, trivial⟩ rfl ?_
  refine uxk (MMulE_ok _ _ _ _ _ (by omega) (by omega) (by omega) (by assumption) (by assumption)) rfl ⟨VT.le_refl _, VT.le_refl _, trivial⟩ rfl ?_
  refine ux (fun B => s_move rfl) rfl rfl ?_
  refine ux (fun B => s_extract rfl rfl) rfl rfl ?_
  refine ux (fun B => s_extract rfl rfl) rfl rfl ?_
  refine ua rfl ?_
  refine us rfl ?_
  refine ux (fun B => s_assign rfl) rfl rfl ?_
  refine RunU.nil (fun γ => ?_)
  refine PJ_normM (M' := [_, _, _, _, _, _, _, _, _, _, _, _, _, _, _]) rfl ?_
  refine pj_then ?_
  refine J_seq ?_
  refine J_reg ?_
  refine st (s_loadW 7 rfl rfl) rfl ?_
  refine st (s_loadW 10 rfl rfl) rfl ?_
  refine st (s_callk (MSubE_ok _ _ _ _ (by omega) (by omega) (by assumption) (by assumption)) rfl ⟨VT.le_refl _, VT.le_refl _, trivial⟩) rfl ?_
  refine st (s_move rfl) rfl ?_
  refine st (s_extract rfl rfl) rfl ?_
  refine st (s_extract rfl rfl) rfl ?_
  refine a_allocS (T := 33) rfl rfl rfl (fun b30 => ?_)
  refine a_storeW 0 rfl rfl rfl rfl ?_
  refine st (s_assign rfl) rfl ?_
  refine Run.nil ?_
  refine pj_then ?_
  refine J_seq ?_
  refine J_reg ?_
  refine st (s_move rfl) rfl ?_
  refine st (sT (by omega) (s_eq rfl rfl)) rfl ?_
  refine st (s_move rfl) rfl ?_
  refine sg1 rfl rfl (s_move rfl) rfl ?_
  refine sg1 rfl rfl (sT (by omega) (s_eq rfl rfl)) rfl ?_
  refine st (s_pickT rfl rfl) rfl ?_
  refine st (s_move rfl) rfl ?_
  refine sg1 rfl rfl (s_move rfl) rfl ?_
  refine sg1 rfl rfl (sT (by omega) (s_eq rfl rfl)) rfl ?_
  refine st (s_pickT rfl rfl) rfl ?_
  refine st (s_move rfl) rfl ?_
  refine sg1 rfl rfl (s_loadW 6 rfl rfl) rfl ?_
  refine sg1 rfl rfl (s_loadW 5 rfl rfl) rfl ?_
  refine sg1 rfl rfl (sT (⟨rfl, rfl, by rw [mul_assocF]⟩) (s_callk (rSameF_ok _ _ _ _ _ _ (by omega)) rfl ⟨VT.le_refl _, VT.le_refl _, trivial⟩)) rfl ?_
  refine st (s_pickT rfl rfl) rfl ?_
  refine st (s_move rfl) rfl ?_
  refine sg1 rfl rfl (s_loadW 4 rfl rfl) rfl ?_
  refine sg1 rfl rfl (s_loadW 2 rfl rfl) rfl ?_
  refine sg1 rfl rfl (sT (⟨rfl, rfl, by rw [mul_addF]⟩) (s_callk (rSameF_ok _ _ _ _ _ _ (by omega)) rfl ⟨VT.le_refl _, VT.le_refl _, trivial⟩)) rfl ?_
  refine st (s_pickT rfl rfl) rfl ?_
  refine st (s_move rfl) rfl ?_
  refine sg1 rfl rfl (s_loadW 8 rfl rfl) rfl ?_
  refine sg1 rfl rfl (s_loadW 7 rfl rfl) rfl ?_
  refine sg1 rfl rfl (sT (⟨rfl, rfl, by rw [each_comm]⟩) (s_callk (rSameF_ok _ _ _ _ _ _ (by omega)) rfl ⟨VT.le_refl _, VT.le_refl _, trivial⟩)) rfl ?_
  refine st (s_pickT rfl rfl) rfl ?_
  refine st (s_move rfl) rfl ?_
  refine sg1 rfl rfl (s_loadB 1 rfl rfl rfl) rfl ?_
  refine sg1 rfl rfl (s_loadW 14 rfl rfl) rfl ?_
  refine sg1 rfl rfl (sT (⟨rfl, rfl, mul_id _ _ _⟩) (s_callk (rSameF_ok _ _ _ _ _ _ (by omega)) rfl ⟨VT.le_refl _, VT.le_refl _, trivial⟩)) rfl ?_
  refine st (s_pickT rfl rfl) rfl ?_
  refine st (s_move rfl) rfl ?_
  refine sg1 rfl rfl (s_loadW 0 rfl rfl) rfl ?_
  refine sg1 rfl rfl (s_loadW 13 rfl rfl) rfl ?_
  refine sg1 rfl rfl (sT (⟨rfl, rfl, by rw [each_gap]⟩) (s_callk (rSameF_ok _ _ _ _ _ _ (by omega)) rfl ⟨VT.le_refl _, VT.le_refl _, trivial⟩)) rfl ?_
  refine st (s_pickT rfl rfl) rfl ?_
  refine st (s_move rfl) rfl ?_
  refine sg1 rfl rfl (s_move rfl) rfl ?_
  refine st (s_pickT rfl rfl) rfl ?_
  refine st (s_assign rfl) rfl ?_
  refine Run.nil ?_
  refine pj_then ?_
  refine J_ret ?_
  refine retc1 Try.results8 (.tmp rfl (VT.le_refl _))
end Tor
end

section
set_option linter.unusedVariables false
set_option linter.unusedSimpArgs false
namespace Tor
open Go Go.RowKit Go.Proofs
/-- The numbers below n. -/
def rangeL (n : Nat) : List Int := List.map (fun (i : Nat) => (i : Int)) (List.range n)
theorem rangeL_len (n : Nat) : (rangeL n).length = n := by simp [rangeL]
theorem rangeL_at {n i : Nat} (h : i < n) : (rangeL n).getD i 0 = i := by simp [rangeL, List.getD, h]
theorem range_num (n : Nat) : VT.le (slT .one n (fun i => one (.int .i64 (i : Nat)))) (numT .i64 (rangeL n)) := by
  unfold numT
  exact slT_le' (rangeL_len n).symm fun i hi => by rw [rangeL_at hi]
theorem range_in (n : Nat) : outs n (rangeL n) = false := notOut fun i hi => by rw [rangeL_len] at hi; rw [rangeL_at hi]; omega
theorem PickR_ok (r c : Nat) (F : Nat → Nat → Int) (l : List Int) (hl : l.length ≤ 1048576) (hc : c ≤ 1048576) (ho : outs r l = false) (hF : ∀ i j, small (F i j)) :
    Ok Try.prog 25 [matF r c F, numT .i64 l, slT .one c (fun i => one (.int .i64 (i : Nat)))] (tupT [matF l.length c (fun i j => F (l.getD i 0).toNat j), one (.int .i64 0)]) := by
  have h := Pick_ok r c F l (rangeL c) hl (by rw [rangeL_len]; exact hc) hF
  rw [ho, range_in, rangeL_len] at h
  refine h.le ⟨VT.le_refl _, VT.le_refl _, range_num c, trivial⟩ ?_
  exact resT_le rfl (matF_le fun i j hi hj => by show F _ ((rangeL c).getD j 0).toNat = _; rw [rangeL_at hj]; simp)
theorem PickL_ok (r c : Nat) (F : Nat → Nat → Int) (m : List Int) (hm : m.length ≤ 1048576) (hr : r ≤ 1048576) (ho : outs c m = false) (hF : ∀ i j, small (F i j)) :
    Ok Try.prog 25 [matF r c F, slT .one r (fun i => one (.int .i64 (i : Nat))), numT .i64 m] (tupT [matF r m.length (fun i j => F i (m.getD j 0).toNat), one (.int .i64 0)]) := by
  have h := Pick_ok r c F (rangeL r) m (by rw [rangeL_len]; exact hr) hm hF
  rw [ho, range_in, rangeL_len] at h
  refine h.le ⟨VT.le_refl _, range_num r, VT.le_refl _, trivial⟩ ?_
  exact resT_le rfl (matF_le fun i j hi hj => by show F ((rangeL r).getD i 0).toNat _ = _; rw [rangeL_at hi]; simp)
theorem PickN_ok (r c : Nat) (F : Nat → Nat → Int) (hr : r ≤ 1048576) (hF : ∀ i j, small (F i j)) :
    Ok Try.prog 25 [matF r c F, slT .one r (fun i => one (.int .i64 (i : Nat))), one (.slice none 0 0)] (tupT [matF r 0 (fun _ _ => 0), one (.int .i64 0)]) := by
  have h := Pick_ok r c F (rangeL r) [] (by rw [rangeL_len]; exact hr) (by decide) hF
  rw [show outs c [] = false from rfl, range_in, rangeL_len] at h
  refine h.le ⟨VT.le_refl _, range_num r, nil_slT, trivial⟩ ?_
  exact resT_le rfl (matF_le fun i j hi hj => absurd hj (Nat.not_lt_zero _))
attribute [local irreducible] Tor.J Tor.PJ Tor.StepO Tor.one Tor.slT Tor.ptrT Tor.aggT Tor.tupT Tor.exT Tor.andT Tor.gT Tor.eP Tor.boxO Tor.sliO Tor.slV Tor.VT.le Tor.Ret Tor.anyT
attribute [local irreducible] bigT Tor.rowsO
set_option maxRecDepth 100000 in
set_option maxHeartbeats 8000000 in
theorem blocksLaw_ok (n0 n1 n2 n3 : Nat) (a b c d : List Int) (k : Nat) : Ok Try.prog 4 [threeT n0 n1 n2 n3 a b c, numT .i8 d, one (.int .u8 k)] (one (.bool true)) := by
  have hn0 : n0 % 5 ≤ 4 := by omega
  have hn1 : n1 % 5 ≤ 4 := by omega
  have hn2 : n2 % 5 ≤ 4 := by omega
  have hn3 : k % 4 ≤ 3 := by omega
  have hch := chain_ok n0 n1 n2 n3 a b c
  have hf1 := rFilled_ok (k % 4) (n1 % 5) d (by omega) (by omega)
  have hf2 := rFilled_ok (n1 % 5) (k % 4) d (by omega) (by omega)
  have hf3 := rFilled_ok (n0 % 5) (k % 4) d (by omega) (by omega)
  have hf4 := rFilled_ok (k % 4) (n2 % 5) d (by omega) (by omega)
  unfold threeT at hch ⊢
  refine Ok.enter Try.func4 rfl Try.ntmps4 rfl (fun w O => ?_)
  have hA : bd 10 (fun i j => dig a (i * (n1 % 5) + j)) := bd_dig _ _
  have hB : bd 10 (fun i j => dig b (i * (n2 % 5) + j)) := bd_dig _ _
  have hD1 : bd 10 (fun i j => dig d (i * (n1 % 5) + j)) := bd_dig _ _
  have hD2 : bd 10 (fun i j => dig d (i * (k % 4) + j)) := bd_dig _ _
  have hD3 : bd 10 (fun i j => dig d (i * (n2 % 5) + j)) := bd_dig _ _
  generalize (fun i j => dig a (i * (n1 % 5) + j)) = F at *
  generalize (fun i j => dig b (i * (n2 % 5) + j)) = G at *
  generalize (fun i j => dig d (i * (n1 % 5) + j)) = D1 at *
  generalize (fun i j => dig d (i * (k % 4) + j)) = D2 at *
  generalize (fun i j => dig d (i * (n2 % 5) + j)) = D3 at *
  generalize hX : (fun i j => dig c (i * (n3 % 5) + j)) = H at *
  generalize n0 % 5 = r0 at *
  generalize n1 % 5 = r1 at *
  generalize n2 % 5 = r2 at *
  have bS := bd_stack (ra := r0) hA hD1
  have bW := bd_bes (ca := r2) hB hD2
  have bAB := bd_mul (n := r1) (by omega) hA hB
  have bL := bd_mul (n := r1) (by omega) hD1 hB
  have bAs := bd_mul (n := r1) (by omega) hA hD2
  have bR := bd_bes (ca := r1) hA hD2
  have bCo := bd_stack (ra := r1) hB hD3
  have bP := bd_mul (n := k % 4) (by omega) hD2 hD3
  have mA := bd_mod4 hA (by decide +kernel)
  have mB := bd_mod4 hB (by decide +kernel)
  have mD1 := bd_mod4 hD1 (by decide +kernel)
  have mD2 := bd_mod4 hD2 (by decide +kernel)
  have mD3 := bd_mod4 hD3 (by decide +kernel)
  have mS := bd_mod4 bS (by decide +kernel)
  have mW := bd_mod4 bW (by decide +kernel)
  have mR := bd_mod4 bR (by decide +kernel)
  have mCo := bd_mod4 bCo (by decide +kernel)
  have sA := bd_small hA (by decide +kernel)
  have sB := bd_small hB (by decide +kernel)
  have sD1 := bd_small hD1 (by decide +kernel)
  have sD2 := bd_small hD2 (by decide +kernel)
  have sD3 := bd_small hD3 (by decide +kernel)
  have sS := bd_small bS (by decide +kernel)
  have sW := bd_small bW (by decide +kernel)
  have sR := bd_small bR (by decide +kernel)
  have sCo := bd_small bCo (by decide +kernel)
  have sAB := bd_small bAB (by decide +kernel)
  have sL := bd_small bL (by decide +kernel)
  have sAs := bd_small bAs (by decide +kernel)
  have sP := bd_small bP (by decide +kernel)
  refine J_seq ?_
  refine J_reg ?_
  refine a_boxS rfl rfl (ltN rfl) (fun b3 => ?_)
  refine st (s_assign rfl) rfl ?_
  refine Run.nil ?_
  refine pj_then ?_
  refine J_seq ?_
  refine J_reg ?_
  refine st (s_callk (sanity_ok ) rfl trivial) rfl ?_
  refine st (s_assign rfl) rfl ?_
  refine Run.nil ?_
  refine pj_then ?_
  refine J_seq ?_
  refine J_reg ?_
  refine st (s_loadW 0 rfl rfl) rfl ?_
  refine st (s_callk (hch ) rfl ⟨VT.le_refl _, trivial⟩) rfl ?_
  refine st (s_move rfl) rfl ?_
  refine st (s_extract rfl rfl) rfl ?_
  refine st (s_extract rfl rfl) rfl ?_
  refine st (s_extract rfl rfl) rfl ?_
  refine a_allocS (T := 33) rfl rfl rfl (fun b8 => ?_)
  refine a_allocS (T := 33) rfl rfl rfl (fun b9 => ?_)
  refine a_allocS (T := 33) rfl rfl rfl (fun b10 => ?_)
  refine a_storeW 2 rfl rfl rfl rfl ?_
  refine a_storeW 1 rfl rfl rfl rfl ?_
  refine a_storeW 0 rfl rfl rfl rfl ?_
  refine Run.nil ?_
  refine pj_then ?_
  refine J_seq ?_
  refine J_reg ?_
  refine st (s_move rfl) rfl ?_
  refine st (s_remN 4 rfl rfl rfl (by decide)) rfl ?_
  (refine st (s_toI64 rfl ?_ ?_) rfl ?_; omega; omega)
  refine st (s_fieldAddr rfl) rfl ?_
  refine st (s_loadB 2 rfl rfl rfl) rfl ?_
  refine st (s_move rfl) rfl ?_
  refine st (s_callk (hf1 ) rfl ⟨VT.le_refl _, VT.le_refl _, VT.le_refl _, trivial⟩) rfl ?_
  refine a_allocS (T := 33) rfl rfl rfl (fun b11 => ?_)
  refine a_storeW 0 rfl rfl rfl rfl ?_
  refine Run.nil ?_
  refine pj_then ?_
  refine J_seq ?_
  refine J_reg ?_
  refine st (s_fieldAddr rfl) rfl ?_
  refine st (s_loadB 2 rfl rfl rfl) rfl ?_
  refine st (s_move rfl) rfl ?_
  refine st (s_remN 4 rfl rfl rfl (by decide)) rfl ?_
  (refine st (s_toI64 rfl ?_ ?_) rfl ?_; omega; omega)
  refine st (s_move rfl) rfl ?_
  refine st (s_callk (hf2 ) rfl ⟨VT.le_refl _, VT.le_refl _, VT.le_refl _, trivial⟩) rfl ?_
  refine a_allocS (T := 33) rfl rfl rfl (fun b12 => ?_)
  refine a_storeW 0 rfl rfl rfl rfl ?_
  refine Run.nil ?_
  refine pj_then ?_
  refine J_seq ?_
  refine J_reg ?_
  refine st (s_loadW 4 rfl rfl) rfl ?_
  refine st (s_loadW 1 rfl rfl) rfl ?_
  refine st (s_callk (MStackE_ok _ _ _ _ _ (by omega) (by omega) (by omega) (by assumption) (by assumption)) rfl ⟨VT.le_refl _, VT.le_refl _, trivial⟩) rfl ?_
  refine st (s_move rfl) rfl ?_
  refine st (s_extract rfl rfl) rfl ?_
  refine st (s_extract rfl rfl) rfl ?_
  refine a_allocS (T := 33) rfl rfl rfl (fun b13 => ?_)
  refine a_storeW 0 rfl rfl rfl rfl ?_
  refine st (s_assign rfl) rfl ?_
  refine Run.nil ?_
  refine pj_then ?_
  refine J_seq ?_
  refine J_reg ?_
  refine st (s_loadW 4 rfl rfl) rfl ?_
  refine st (s_loadW 1 rfl rfl) rfl ?_
  refine st (s_callk (MBesideE_ok _ _ _ _ _ (by omega) (by omega) (by omega) (by assumption) (by assumption)) rfl ⟨VT.le_refl _, VT.le_refl _, trivial⟩) rfl ?_
  refine st (s_move rfl) rfl ?_
  refine st (s_extract rfl rfl) rfl ?_
  refine st (s_extract rfl rfl) rfl ?_
  refine a_allocS (T := 33) rfl rfl rfl (fun b15 => ?_)
  refine a_storeW 0 rfl rfl rfl rfl ?_
  refine st (s_assign rfl) rfl ?_
  refine Run.nil ?_
  refine pj_then ?_
  refine J_seq ?_
  refine J_seq ?_
  refine J_reg ?_
  refine st (s_move rfl) rfl ?_
  refine st (sF (by omega) (s_ne rfl rfl)) rfl ?_
  refine st (s_move rfl) rfl ?_
  refine sg1 rfl rfl (s_move rfl) rfl ?_
  refine sg1 rfl rfl (sF (by omega) (s_ne rfl rfl)) rfl ?_
  refine st (s_pickF rfl rfl) rfl ?_
  refine st (s_move rfl) rfl ?_
  refine sg1 rfl rfl (s_loadW 1 rfl rfl) rfl ?_
  refine sg1 rfl rfl (s_fieldAddr rfl) rfl ?_
  refine sg1 rfl rfl (s_loadB 6 rfl rfl rfl) rfl ?_
  refine sg1 rfl rfl (s_fieldAddr rfl) rfl ?_
  refine sg1 rfl rfl (s_loadB 3 rfl rfl rfl) rfl ?_
  refine sg1 rfl rfl (s_addN _ _ rfl rfl (by omega)) rfl ?_
  refine sg1 rfl rfl (s_fieldAddr rfl) rfl ?_
  refine sg1 rfl rfl (s_loadB 6 rfl rfl rfl) rfl ?_
  refine sg1 rfl rfl (s_callk (rSized_ok _ _ _ (by omega) (by assumption)) rfl ⟨VT.le_refl _, VT.le_refl _, VT.le_refl _, trivial⟩) rfl ?_
  refine sg1 rfl rfl (s_not rfl) rfl ?_
  refine st (s_pickF rfl rfl) rfl ?_
  refine st (s_move rfl) rfl ?_
  refine sg1 rfl rfl (s_loadW 0 rfl rfl) rfl ?_
  refine sg1 rfl rfl (s_fieldAddr rfl) rfl ?_
  refine sg1 rfl rfl (s_loadB 5 rfl rfl rfl) rfl ?_
  refine sg1 rfl rfl (s_fieldAddr rfl) rfl ?_
  refine sg1 rfl rfl (s_loadB 5 rfl rfl rfl) rfl ?_
  refine sg1 rfl rfl (s_fieldAddr rfl) rfl ?_
  refine sg1 rfl rfl (s_loadB 2 rfl rfl rfl) rfl ?_
  refine sg1 rfl rfl (s_addN _ _ rfl rfl (by omega)) rfl ?_
  refine sg1 rfl rfl (s_callk (rSized_ok _ _ _ (by omega) (by assumption)) rfl ⟨VT.le_refl _, VT.le_refl _, VT.le_refl _, trivial⟩) rfl ?_
  refine sg1 rfl rfl (s_not rfl) rfl ?_
  refine st (s_pickF rfl rfl) rfl ?_
  refine Run.nil ?_
  refine pj_then ?_
  refine J_cond0 rfl ?_
  refine J_skip ?_
  refine pj_then ?_
  refine J_seq ?_
  refine J_reg ?_
  refine st (s_loadW 1 rfl rfl) rfl ?_
  refine st (s_loadW 5 rfl rfl) rfl ?_
  refine st (s_callk (MMulE_ok _ _ _ _ _ (by omega) (by omega) (by omega) (by assumption) (by assumption)) rfl ⟨VT.le_refl _, VT.le_refl _, trivial⟩) rfl ?_
  refine st (s_move rfl) rfl ?_
  refine st (s_extract rfl rfl) rfl ?_
  refine st (s_extract rfl rfl) rfl ?_
  refine a_allocS (T := 33) rfl rfl rfl (fun b17 => ?_)
  refine a_storeW 0 rfl rfl rfl rfl ?_
  refine st (s_assign rfl) rfl ?_
  refine Run.nil ?_
  refine pj_then ?_
  refine J_seq ?_
  refine J_reg ?_
  refine st (s_loadW 7 rfl rfl) rfl ?_
  refine st (s_loadW 1 rfl rfl) rfl ?_
  refine st (s_callk (MMulE_ok _ _ _ _ _ (by omega) (by omega) (by omega) (by assumption) (by assumption)) rfl ⟨VT.le_refl _, VT.le_refl _, trivial⟩) rfl ?_
  refine st (s_move rfl) rfl ?_
  refine st (s_extract rfl rfl) rfl ?_
  refine st (s_extract rfl rfl) rfl ?_
  refine a_allocS (T := 33) rfl rfl rfl (fun b19 => ?_)
  refine a_storeW 0 rfl rfl rfl rfl ?_
  refine st (s_assign rfl) rfl ?_
  refine Run.nil ?_
  refine pj_then ?_
  refine J_seq ?_
  refine J_regU2 mixed (by kernel_rfl) (by kernel_rfl) ?_
  refine ux (fun B => s_loadW 8 rfl rfl) rfl rfl ?_
  refine ux (fun B => s_loadW 7 rfl rfl) rfl rfl ?_
  refine uxk (rProduct_ok _ _ _ _ _ (by omega) (by omega) (by omega) (by assumption) (by assumption)) rfl ⟨VT.le_refl _, VT.le_refl _, trivial⟩ rfl ?_
  refine ux (fun B => s_loadW 5 rfl rfl) rfl rfl ?_
  refine ux (fun B => s_loadW 7 rfl rfl) rfl rfl ?_
  refine uxk (rProduct_ok _ _ _ _ _ (by omega) (by omega) (by omega) (by assumption) (by assumption)) rfl ⟨VT.le_refl _, VT.le_refl _, trivial⟩ rfl ?_
  refine ux (fun B => s_loadW 8 rfl rfl) rfl rfl ?_
  refine ux (fun B => s_loadW 4 rfl rfl) rfl rfl ?_
  refine uxk (rProduct_ok _ _ _ _ _ (by omega) (by omega) (by omega) (by assumption) (by assumption)) rfl ⟨VT.le_refl _, VT.le_refl _, trivial⟩ rfl ?_
  refine ua rfl ?_
  refine ua rfl ?_
  refine ua rfl ?_
  refine us rfl ?_
  refine us rfl ?_
  refine us rfl ?_
  refine RunU.nil (fun γ => ?_)
  refine PJ_normM (M' := [_, _, _, _, _, _, _, _, _, _, _, _, _]) rfl ?_
  refine pj_then ?_
  refine J_seq ?_
  refine J_reg ?_
  refine st (s_loadB 2 rfl rfl rfl) rfl ?_
  refine st (s_loadB 1 rfl rfl rfl) rfl ?_
  refine st (s_callk (MStackE_ok _ _ _ _ _ (by omega) (by omega) (by omega) (by assumption) (by assumption)) rfl ⟨VT.le_refl _, VT.le_refl _, trivial⟩) rfl ?_
  refine st (s_move rfl) rfl ?_
  refine st (s_extract rfl rfl) rfl ?_
  refine st (s_extract rfl rfl) rfl ?_
  refine a_allocS (T := 33) rfl rfl rfl (fun b24 => ?_)
  refine a_storeW 0 rfl rfl rfl rfl ?_
  refine st (s_assign rfl) rfl ?_
  refine Run.nil ?_
  refine pj_then ?_
  refine J_seq ?_
  refine J_reg ?_
  refine st (s_loadB 3 rfl rfl rfl) rfl ?_
  refine st (s_loadB 1 rfl rfl rfl) rfl ?_
  refine st (s_callk (MBesideE_ok _ _ _ _ _ (by omega) (by omega) (by omega) (by assumption) (by assumption)) rfl ⟨VT.le_refl _, VT.le_refl _, trivial⟩) rfl ?_
  refine st (s_move rfl) rfl ?_
  refine st (s_extract rfl rfl) rfl ?_
  refine st (s_extract rfl rfl) rfl ?_
  refine a_allocS (T := 33) rfl rfl rfl (fun b26 => ?_)
  refine a_storeW 0 rfl rfl rfl rfl ?_
  refine st (s_assign rfl) rfl ?_
  refine Run.nil ?_
  refine pj_then ?_
  refine J_seq ?_
  refine J_reg ?_
  refine st (s_fieldAddr rfl) rfl ?_
  refine st (s_loadB 13 rfl rfl rfl) rfl ?_
  refine st (s_move rfl) rfl ?_
  refine st (s_remN 4 rfl rfl rfl (by decide)) rfl ?_
  (refine st (s_toI64 rfl ?_ ?_) rfl ?_; omega; omega)
  refine st (s_move rfl) rfl ?_
  refine st (s_callk (hf3 ) rfl ⟨VT.le_refl _, VT.le_refl _, VT.le_refl _, trivial⟩) rfl ?_
  refine a_allocS (T := 33) rfl rfl rfl (fun b28 => ?_)
  refine a_storeW 0 rfl rfl rfl rfl ?_
  refine Run.nil ?_
  refine pj_then ?_
  refine J_seq ?_
  refine J_reg ?_
  refine st (s_loadW 14 rfl rfl) rfl ?_
  refine st (s_loadW 0 rfl rfl) rfl ?_
  refine st (s_callk (MBesideE_ok _ _ _ _ _ (by omega) (by omega) (by omega) (by assumption) (by assumption)) rfl ⟨VT.le_refl _, VT.le_refl _, trivial⟩) rfl ?_
  refine st (s_move rfl) rfl ?_
  refine st (s_extract rfl rfl) rfl ?_
  refine st (s_extract rfl rfl) rfl ?_
  refine a_allocS (T := 33) rfl rfl rfl (fun b29 => ?_)
  refine a_storeW 0 rfl rfl rfl rfl ?_
  refine st (s_assign rfl) rfl ?_
  refine Run.nil ?_
  refine pj_then ?_
  refine J_seq ?_
  refine J_reg ?_
  refine st (s_move rfl) rfl ?_
  refine st (s_remN 4 rfl rfl rfl (by decide)) rfl ?_
  (refine st (s_toI64 rfl ?_ ?_) rfl ?_; omega; omega)
  refine st (s_fieldAddr rfl) rfl ?_
  refine st (s_loadB 14 rfl rfl rfl) rfl ?_
  refine st (s_move rfl) rfl ?_
  refine st (s_callk (hf4 ) rfl ⟨VT.le_refl _, VT.le_refl _, VT.le_refl _, trivial⟩) rfl ?_
  refine a_allocS (T := 33) rfl rfl rfl (fun b31 => ?_)
  refine a_storeW 0 rfl rfl rfl rfl ?_
  refine Run.nil ?_
  refine pj_then ?_
  refine J_seq ?_
  refine J_reg ?_
  refine st (s_loadW 15 rfl rfl) rfl ?_
  refine st (s_loadW 0 rfl rfl) rfl ?_
  refine st (s_callk (MStackE_ok _ _ _ _ _ (by omega) (by omega) (by omega) (by assumption) (by assumption)) rfl ⟨VT.le_refl _, VT.le_refl _, trivial⟩) rfl ?_
  refine st (s_move rfl) rfl ?_
  refine st (s_extract rfl rfl) rfl ?_
  refine st (s_extract rfl rfl) rfl ?_
  refine a_allocS (T := 33) rfl rfl rfl (fun b32 => ?_)
  refine a_storeW 0 rfl rfl rfl rfl ?_
  refine st (s_assign rfl) rfl ?_
  refine Run.nil ?_
  refine pj_then ?_
  refine J_seq ?_
  refine J_seq ?_
  refine J_reg ?_
  refine st (s_move rfl) rfl ?_
  refine st (sF (by omega) (s_ne rfl rfl)) rfl ?_
  refine st (s_move rfl) rfl ?_
  refine sg1 rfl rfl (s_move rfl) rfl ?_
  refine sg1 rfl rfl (sF (by omega) (s_ne rfl rfl)) rfl ?_
  refine st (s_pickF rfl rfl) rfl ?_
  refine st (s_move rfl) rfl ?_
  refine sg1 rfl rfl (s_move rfl) rfl ?_
  refine sg1 rfl rfl (sF (by omega) (s_ne rfl rfl)) rfl ?_
  refine st (s_pickF rfl rfl) rfl ?_
  refine st (s_move rfl) rfl ?_
  refine sg1 rfl rfl (s_move rfl) rfl ?_
  refine sg1 rfl rfl (sF (by omega) (s_ne rfl rfl)) rfl ?_
  refine st (s_pickF rfl rfl) rfl ?_
  refine st (s_move rfl) rfl ?_
  refine sg1 rfl rfl (s_move rfl) rfl ?_
  refine sg1 rfl rfl (sF (by omega) (s_ne rfl rfl)) rfl ?_
  refine st (s_pickF rfl rfl) rfl ?_
  refine st (s_move rfl) rfl ?_
  refine sg1 rfl rfl (s_move rfl) rfl ?_
  refine sg1 rfl rfl (sF (by omega) (s_ne rfl rfl)) rfl ?_
  refine st (s_pickF rfl rfl) rfl ?_
  refine st (s_move rfl) rfl ?_
  refine sg1 rfl rfl (s_loadW 2 rfl rfl) rfl ?_
  refine sg1 rfl rfl (s_fieldAddr rfl) rfl ?_
  refine sg1 rfl rfl (s_loadB 17 rfl rfl rfl) rfl ?_
  refine sg1 rfl rfl (s_fieldAddr rfl) rfl ?_
  refine sg1 rfl rfl (s_loadB 17 rfl rfl rfl) rfl ?_
  refine sg1 rfl rfl (s_fieldAddr rfl) rfl ?_
  refine sg1 rfl rfl (s_loadB 3 rfl rfl rfl) rfl ?_
  refine sg1 rfl rfl (s_addN _ _ rfl rfl (by omega)) rfl ?_
  refine sg1 rfl rfl (s_callk (rSized_ok _ _ _ (by omega) (by assumption)) rfl ⟨VT.le_refl _, VT.le_refl _, VT.le_refl _, trivial⟩) rfl ?_
  refine sg1 rfl rfl (s_not rfl) rfl ?_
  refine st (s_pickF rfl rfl) rfl ?_
  refine st (s_move rfl) rfl ?_
  refine sg1 rfl rfl (s_loadW 0 rfl rfl) rfl ?_
  refine sg1 rfl rfl (s_fieldAddr rfl) rfl ?_
  refine sg1 rfl rfl (s_loadB 16 rfl rfl rfl) rfl ?_
  refine sg1 rfl rfl (s_fieldAddr rfl) rfl ?_
  refine sg1 rfl rfl (s_loadB 1 rfl rfl rfl) rfl ?_
  refine sg1 rfl rfl (s_addN _ _ rfl rfl (by omega)) rfl ?_
  refine sg1 rfl rfl (s_fieldAddr rfl) rfl ?_
  refine sg1 rfl rfl (s_loadB 16 rfl rfl rfl) rfl ?_
  refine sg1 rfl rfl (s_callk (rSized_ok _ _ _ (by omega) (by assumption)) rfl ⟨VT.le_refl _, VT.le_refl _, VT.le_refl _, trivial⟩) rfl ?_
  refine sg1 rfl rfl (s_not rfl) rfl ?_
  refine st (s_pickF rfl rfl) rfl ?_
  refine Run.nil ?_
  refine pj_then ?_
  refine J_cond0 rfl ?_
  refine J_skip ?_
  refine pj_then ?_
  refine J_seq ?_
  refine J_reg ?_
  refine st (s_loadW 2 rfl rfl) rfl ?_
  refine st (s_loadW 0 rfl rfl) rfl ?_
  refine st (s_callk (MMulE_ok _ _ _ _ _ (by omega) (by omega) (by omega) (by assumption) (by assumption)) rfl ⟨VT.le_refl _, VT.le_refl _, trivial⟩) rfl ?_
  refine st (s_move rfl) rfl ?_
  refine st (s_extract rfl rfl) rfl ?_
  refine st (s_extract rfl rfl) rfl ?_
  refine a_allocS (T := 33) rfl rfl rfl (fun b34 => ?_)
  refine a_storeW 0 rfl rfl rfl rfl ?_
  refine st (s_assign rfl) rfl ?_
  refine Run.nil ?_
  refine pj_then ?_
  refine J_seq ?_
  refine J_regU2 mixed (by kernel_rfl) (by kernel_rfl) ?_
  refine ux (fun B => s_loadB 9 rfl rfl rfl) rfl rfl ?_
  refine ux (fun B => s_loadW 4 rfl rfl) rfl rfl ?_
  refine ux (fun B => s_loadW 2 rfl rfl) rfl rfl ?_
  refine uxk (rProduct_ok _ _ _ _ _ (by omega) (by omega) (by omega) (by assumption) (by assumption)) rfl ⟨VT.le_refl _, VT.le_refl _, trivial⟩ rfl ?_
  refine uxk (rAddE_ok _ _ _ _ (by omega) (by omega) (by assumption) (by assumption)) rfl ⟨VT.le_refl _, VT.le_refl _, trivial⟩ rfl ?_
  refine ux (fun B => s_move rfl) rfl rfl ?_
  refine ux (fun B => s_extract rfl rfl) rfl rfl ?_
  refine ux (fun B => s_extract rfl rfl) rfl rfl ?_
  refine ua rfl ?_
  refine us rfl ?_
  refine ux (fun B => s_assign rfl) rfl rfl ?_
  refine RunU.nil (fun γ => ?_)
  refine PJ_normM (M' := [_, _, _, _, _, _, _, _, _, _, _, _, _, _, _, _, _, _, _, _, _]) rfl ?_
  refine pj_then ?_
  refine J_seq ?_
  refine J_reg ?_
  refine st (s_move rfl) rfl ?_
  refine st (sT (by omega) (s_eq rfl rfl)) rfl ?_
  refine st (s_move rfl) rfl ?_
  refine sg1 rfl rfl (s_move rfl) rfl ?_
  refine sg1 rfl rfl (sT (by omega) (s_eq rfl rfl)) rfl ?_
  refine st (s_pickT rfl rfl) rfl ?_
  refine st (s_move rfl) rfl ?_
  refine sg1 rfl rfl (s_loadW 12 rfl rfl) rfl ?_
  refine sg1 rfl rfl (s_loadW 7 rfl rfl) rfl ?_
  refine sg1 rfl rfl (sT (⟨rfl, rfl, by rw [mul_stack]⟩) (s_callk (rSameF_ok _ _ _ _ _ _ (by omega)) rfl ⟨VT.le_refl _, VT.le_refl _, trivial⟩)) rfl ?_
  refine st (s_pickT rfl rfl) rfl ?_
  refine st (s_move rfl) rfl ?_
  refine sg1 rfl rfl (s_loadW 11 rfl rfl) rfl ?_
  refine sg1 rfl rfl (s_loadW 6 rfl rfl) rfl ?_
  refine sg1 rfl rfl (sT (⟨rfl, rfl, by rw [mul_bes]⟩) (s_callk (rSameF_ok _ _ _ _ _ _ (by omega)) rfl ⟨VT.le_refl _, VT.le_refl _, trivial⟩)) rfl ?_
  refine st (s_pickT rfl rfl) rfl ?_
  refine st (s_move rfl) rfl ?_
  refine sg1 rfl rfl (s_loadW 1 rfl rfl) rfl ?_
  refine sg1 rfl rfl (s_loadB 0 rfl rfl rfl) rfl ?_
  refine sg1 rfl rfl (sT (⟨rfl, rfl, by rw [mul_blocks]⟩) (s_callk (rSameF_ok _ _ _ _ _ _ (by omega)) rfl ⟨VT.le_refl _, VT.le_refl _, trivial⟩)) rfl ?_
  refine st (s_pickT rfl rfl) rfl ?_
  refine st (s_move rfl) rfl ?_
  refine sg1 rfl rfl (s_move rfl) rfl ?_
  refine st (s_pickT rfl rfl) rfl ?_
  refine st (s_assign rfl) rfl ?_
  refine Run.nil ?_
  refine pj_then ?_
  refine J_ret ?_
  refine retc1 Try.results4 (.tmp rfl (VT.le_refl _))
set_option maxRecDepth 100000 in
set_option maxHeartbeats 8000000 in
theorem picksLaw_ok (n0 n1 n2 n3 : Nat) (a b c rows cols : List Int) (hr : ∀ x ∈ rows, -128 ≤ x ∧ x ≤ 127) (hcs : ∀ x ∈ cols, -128 ≤ x ∧ x ≤ 127) : Ok Try.prog 5 [threeT n0 n1 n2 n3 a b c, numT .i8 rows, numT .i8 cols] (one (.bool true)) := by
  have hn0 : n0 % 5 ≤ 4 := by omega
  have hn1 : n1 % 5 ≤ 4 := by omega
  have hn2 : n2 % 5 ≤ 4 := by omega
  have hch := chain_ok n0 n1 n2 n3 a b c
  unfold threeT at hch ⊢
  refine Ok.enter Try.func5 rfl Try.ntmps5 rfl (fun w O => ?_)
  have hA : bd 10 (fun i j => dig a (i * (n1 % 5) + j)) := bd_dig _ _
  have hB : bd 10 (fun i j => dig b (i * (n2 % 5) + j)) := bd_dig _ _
  generalize (fun i j => dig a (i * (n1 % 5) + j)) = F at *
  generalize (fun i j => dig b (i * (n2 % 5) + j)) = G at *
  generalize n0 % 5 = r0 at *
  generalize n1 % 5 = r1 at *
  generalize n2 % 5 = r2 at *
  have hI := indices_ok rows (r0 + 1) hr (by omega)
  have hJ := indices_ok cols (r2 + 1) hcs (by omega)
  have hI6 := idxL_len rows (r0 + 1)
  have hJ6 := idxL_len cols (r2 + 1)
  generalize idxL rows (r0 + 1) = I at *
  generalize idxL cols (r2 + 1) = J at *
  have bAB := bd_mul (n := r1) (by omega) hA hB
  have mA := bd_mod4 hA (by decide +kernel)
  have mB := bd_mod4 hB (by decide +kernel)
  have sA := bd_small hA (by decide +kernel)
  have sB := bd_small hB (by decide +kernel)
  have sAB := bd_small bAB (by decide +kernel)
  have hP := Pick_ok r0 r2 (mulF r1 F G) I J (by omega) (by omega) sAB
  have hQ := rPick_ok r0 r2 (mulF r1 F G) I J (by omega) (by omega)
  have hnew := new_mat I.length 0 (by omega) (by decide)
  cases ho : outs r0 I with
  | true =>
    rw [ho, Bool.true_or] at hP hQ
    simp only [resT, Bool.not_true, Bool.not_false, if_true, Bool.false_eq_true, if_false] at hP hQ
    refine J_seq ?_
    refine J_reg ?_
    refine a_boxS rfl rfl (ltN rfl) (fun b3 => ?_)
    refine st (s_assign rfl) rfl ?_
    refine Run.nil ?_
    refine pj_then ?_
    refine J_seq ?_
    refine J_reg ?_
    refine st (s_callk (sanity_ok ) rfl trivial) rfl ?_
    refine st (s_assign rfl) rfl ?_
    refine Run.nil ?_
    refine pj_then ?_
    refine J_seq ?_
    refine J_reg ?_
    refine st (s_loadW 0 rfl rfl) rfl ?_
    refine st (s_callk (hch ) rfl ⟨VT.le_refl _, trivial⟩) rfl ?_
    refine st (s_move rfl) rfl ?_
    refine st (s_extract rfl rfl) rfl ?_
    refine st (s_extract rfl rfl) rfl ?_
    refine st (s_extract rfl rfl) rfl ?_
    refine a_allocS (T := 33) rfl rfl rfl (fun b8 => ?_)
    refine a_allocS (T := 33) rfl rfl rfl (fun b9 => ?_)
    refine a_allocS (T := 33) rfl rfl rfl (fun b10 => ?_)
    refine a_storeW 2 rfl rfl rfl rfl ?_
    refine a_storeW 1 rfl rfl rfl rfl ?_
    refine a_storeW 0 rfl rfl rfl rfl ?_
    refine Run.nil ?_
    refine pj_then ?_
    refine J_seq ?_
    refine J_reg ?_
    refine st (s_loadW 2 rfl rfl) rfl ?_
    refine st (s_loadW 1 rfl rfl) rfl ?_
    refine st (s_callk (rProduct_ok _ _ _ _ _ (by omega) (by omega) (by omega) (by assumption) (by assumption)) rfl ⟨VT.le_refl _, VT.le_refl _, trivial⟩) rfl ?_
    refine a_allocS (T := 33) rfl rfl rfl (fun b11 => ?_)
    refine a_storeW 0 rfl rfl rfl rfl ?_
    refine Run.nil ?_
    refine pj_then ?_
    refine J_seq ?_
    refine J_regd 11 mixed (by kernel_rfl) (by decide) ?_
    refine st (s_move rfl) rfl ?_
    refine st (s_fieldAddr rfl) rfl ?_
    refine st (s_loadB 3 rfl rfl rfl) rfl ?_
    refine st (s_addN _ 1 rfl rfl (by omega)) rfl ?_
    refine st (s_callk (hI ) rfl ⟨VT.le_refl _, VT.le_refl _, trivial⟩) rfl ?_
    refine st (s_move rfl) rfl ?_
    refine st (s_fieldAddr rfl) rfl ?_
    refine st (s_loadB 2 rfl rfl rfl) rfl ?_
    refine st (s_addN _ 1 rfl rfl (by omega)) rfl ?_
    refine st (s_callk (hJ ) rfl ⟨VT.le_refl _, VT.le_refl _, trivial⟩) rfl ?_
    refine st (s_assign rfl) rfl ?_
    refine Run.nil ?_
    refine st (s_assign rfl) rfl ?_
    refine Run.nil ?_
    refine pj_then ?_
    refine J_seq ?_
    refine J_reg ?_
    refine st (s_loadW 0 rfl rfl) rfl ?_
    refine st (s_move rfl) rfl ?_
    refine st (s_move rfl) rfl ?_
    refine st (s_callk (hP ) rfl ⟨VT.le_refl _, VT.le_refl _, VT.le_refl _, trivial⟩) rfl ?_
    refine st (s_move rfl) rfl ?_
    refine st (s_extract rfl rfl) rfl ?_
    refine st (s_extract rfl rfl) rfl ?_
    refine a_allocS (T := 33) rfl rfl rfl (fun b14 => ?_)
    refine a_storeW 0 rfl rfl rfl rfl ?_
    refine st (s_assign rfl) rfl ?_
    refine Run.nil ?_
    refine pj_then ?_
    refine J_seq ?_
    refine J_reg ?_
    refine st (s_loadW 1 rfl rfl) rfl ?_
    refine st (s_move rfl) rfl ?_
    refine st (s_move rfl) rfl ?_
    refine st (s_callk (hQ ) rfl ⟨VT.le_refl _, VT.le_refl _, VT.le_refl _, trivial⟩) rfl ?_
    refine st (s_move rfl) rfl ?_
    refine st (s_extract rfl rfl) rfl ?_
    refine st (s_extract rfl rfl) rfl ?_
    refine a_allocS (T := 33) rfl rfl rfl (fun b16 => ?_)
    refine a_storeW 0 rfl rfl rfl rfl ?_
    refine st (s_assign rfl) rfl ?_
    refine Run.nil ?_
    refine pj_then ?_
    refine J_seq ?_
    refine J_seq ?_
    refine J_reg ?_
    refine st (s_loadW 1 rfl rfl) rfl ?_
    refine st (s_loadW 0 rfl rfl) rfl ?_
    refine st (sT (⟨rfl, rfl, rfl⟩) (s_callk (rSameF_ok _ _ _ _ _ _ (by omega)) rfl ⟨VT.le_refl _, VT.le_refl _, trivial⟩)) rfl ?_
    refine st (s_not rfl) rfl ?_
    refine st (s_move rfl) rfl ?_
    refine sg1 rfl rfl (s_move rfl) rfl ?_
    refine sg1 rfl rfl (s_move rfl) rfl ?_
    refine sg1 rfl rfl (sF (by omega) (s_ne rfl rfl)) rfl ?_
    refine st (s_pickF rfl rfl) rfl ?_
    refine Run.nil ?_
    refine pj_then ?_
    refine J_cond0 rfl ?_
    refine J_skip ?_
    refine pj_then ?_
    refine J_seq ?_
    refine J_seq ?_
    refine J_reg ?_
    refine st (s_move rfl) rfl ?_
    refine st (sT (by omega) (s_ne rfl rfl)) rfl ?_
    refine Run.nil ?_
    refine pj_then ?_
    refine J_cond1 rfl ?_
    refine J_seq ?_
    refine J_reg ?_
    refine st (s_move rfl) rfl ?_
    refine st (s_assign rfl) rfl ?_
    refine Run.nil ?_
    refine pj_then ?_
    refine J_ret ?_
    refine pr_then ?_
    refine retc1 Try.results5 (.tmp rfl (VT.le_refl _))
  | false =>
    rw [ho, Bool.false_or] at hP hQ
    cases ho2 : outs r2 J with
    | true =>
      rw [ho2] at hP hQ
      simp only [resT, Bool.not_true, Bool.not_false, if_true, Bool.false_eq_true, if_false] at hP hQ
      refine J_seq ?_
      refine J_reg ?_
      refine a_boxS rfl rfl (ltN rfl) (fun b3 => ?_)
      refine st (s_assign rfl) rfl ?_
      refine Run.nil ?_
      refine pj_then ?_
      refine J_seq ?_
      refine J_reg ?_
      refine st (s_callk (sanity_ok ) rfl trivial) rfl ?_
      refine st (s_assign rfl) rfl ?_
      refine Run.nil ?_
      refine pj_then ?_
      refine J_seq ?_
      refine J_reg ?_
      refine st (s_loadW 0 rfl rfl) rfl ?_
      refine st (s_callk (hch ) rfl ⟨VT.le_refl _, trivial⟩) rfl ?_
      refine st (s_move rfl) rfl ?_
      refine st (s_extract rfl rfl) rfl ?_
      refine st (s_extract rfl rfl) rfl ?_
      refine st (s_extract rfl rfl) rfl ?_
      refine a_allocS (T := 33) rfl rfl rfl (fun b8 => ?_)
      refine a_allocS (T := 33) rfl rfl rfl (fun b9 => ?_)
      refine a_allocS (T := 33) rfl rfl rfl (fun b10 => ?_)
      refine a_storeW 2 rfl rfl rfl rfl ?_
      refine a_storeW 1 rfl rfl rfl rfl ?_
      refine a_storeW 0 rfl rfl rfl rfl ?_
      refine Run.nil ?_
      refine pj_then ?_
      refine J_seq ?_
      refine J_reg ?_
      refine st (s_loadW 2 rfl rfl) rfl ?_
      refine st (s_loadW 1 rfl rfl) rfl ?_
      refine st (s_callk (rProduct_ok _ _ _ _ _ (by omega) (by omega) (by omega) (by assumption) (by assumption)) rfl ⟨VT.le_refl _, VT.le_refl _, trivial⟩) rfl ?_
      refine a_allocS (T := 33) rfl rfl rfl (fun b11 => ?_)
      refine a_storeW 0 rfl rfl rfl rfl ?_
      refine Run.nil ?_
      refine pj_then ?_
      refine J_seq ?_
      refine J_regd 11 mixed (by kernel_rfl) (by decide) ?_
      refine st (s_move rfl) rfl ?_
      refine st (s_fieldAddr rfl) rfl ?_
      refine st (s_loadB 3 rfl rfl rfl) rfl ?_
      refine st (s_addN _ 1 rfl rfl (by omega)) rfl ?_
      refine st (s_callk (hI ) rfl ⟨VT.le_refl _, VT.le_refl _, trivial⟩) rfl ?_
      refine st (s_move rfl) rfl ?_
      refine st (s_fieldAddr rfl) rfl ?_
      refine st (s_loadB 2 rfl rfl rfl) rfl ?_
      refine st (s_addN _ 1 rfl rfl (by omega)) rfl ?_
      refine st (s_callk (hJ ) rfl ⟨VT.le_refl _, VT.le_refl _, trivial⟩) rfl ?_
      refine st (s_assign rfl) rfl ?_
      refine Run.nil ?_
      refine st (s_assign rfl) rfl ?_
      refine Run.nil ?_
      refine pj_then ?_
      refine J_seq ?_
      refine J_reg ?_
      refine st (s_loadW 0 rfl rfl) rfl ?_
      refine st (s_move rfl) rfl ?_
      refine st (s_move rfl) rfl ?_
      refine st (s_callk (hP ) rfl ⟨VT.le_refl _, VT.le_refl _, VT.le_refl _, trivial⟩) rfl ?_
      refine st (s_move rfl) rfl ?_
      refine st (s_extract rfl rfl) rfl ?_
      refine st (s_extract rfl rfl) rfl ?_
      refine a_allocS (T := 33) rfl rfl rfl (fun b14 => ?_)
      refine a_storeW 0 rfl rfl rfl rfl ?_
      refine st (s_assign rfl) rfl ?_
      refine Run.nil ?_
      refine pj_then ?_
      refine J_seq ?_
      refine J_reg ?_
      refine st (s_loadW 1 rfl rfl) rfl ?_
      refine st (s_move rfl) rfl ?_
      refine st (s_move rfl) rfl ?_
      refine st (s_callk (hQ ) rfl ⟨VT.le_refl _, VT.le_refl _, VT.le_refl _, trivial⟩) rfl ?_
      refine st (s_move rfl) rfl ?_
      refine st (s_extract rfl rfl) rfl ?_
      refine st (s_extract rfl rfl) rfl ?_
      refine a_allocS (T := 33) rfl rfl rfl (fun b16 => ?_)
      refine a_storeW 0 rfl rfl rfl rfl ?_
      refine st (s_assign rfl) rfl ?_
      refine Run.nil ?_
      refine pj_then ?_
      refine J_seq ?_
      refine J_seq ?_
      refine J_reg ?_
      refine st (s_loadW 1 rfl rfl) rfl ?_
      refine st (s_loadW 0 rfl rfl) rfl ?_
      refine st (sT (⟨rfl, rfl, rfl⟩) (s_callk (rSameF_ok _ _ _ _ _ _ (by omega)) rfl ⟨VT.le_refl _, VT.le_refl _, trivial⟩)) rfl ?_
      refine st (s_not rfl) rfl ?_
      refine st (s_move rfl) rfl ?_
      refine sg1 rfl rfl (s_move rfl) rfl ?_
      refine sg1 rfl rfl (s_move rfl) rfl ?_
      refine sg1 rfl rfl (sF (by omega) (s_ne rfl rfl)) rfl ?_
      refine st (s_pickF rfl rfl) rfl ?_
      refine Run.nil ?_
      refine pj_then ?_
      refine J_cond0 rfl ?_
      refine J_skip ?_
      refine pj_then ?_
      refine J_seq ?_
      refine J_seq ?_
      refine J_reg ?_
      refine st (s_move rfl) rfl ?_
      refine st (sT (by omega) (s_ne rfl rfl)) rfl ?_
      refine Run.nil ?_
      refine pj_then ?_
      refine J_cond1 rfl ?_
      refine J_seq ?_
      refine J_reg ?_
      refine st (s_move rfl) rfl ?_
      refine st (s_assign rfl) rfl ?_
      refine Run.nil ?_
      refine pj_then ?_
      refine J_ret ?_
      refine pr_then ?_
      refine retc1 Try.results5 (.tmp rfl (VT.le_refl _))
    | false =>
      rw [ho2] at hP hQ
      simp only [resT, Bool.not_true, Bool.not_false, if_true, Bool.false_eq_true, if_false] at hP hQ
      have mI : ∀ i j, mod4 ((fun i j => F (I.getD i 0).toNat j) i j) := fun i j => mA _ _
      have mJ : ∀ i j, mod4 ((fun i j => G i (J.getD j 0).toNat) i j) := fun i j => mB _ _
      have sI : ∀ i j, small ((fun i j => F (I.getD i 0).toNat j) i j) := fun i j => sA _ _
      have sJ : ∀ i j, small ((fun i j => G i (J.getD j 0).toNat) i j) := fun i j => sB _ _
      have sP : ∀ i j, small (pickF I J (mulF r1 F G) i j) := fun i j => sAB _ _
      refine J_seq ?_
      refine J_reg ?_
      refine a_boxS rfl rfl (ltN rfl) (fun b3 => ?_)
      refine st (s_assign rfl) rfl ?_
      refine Run.nil ?_
      refine pj_then ?_
      refine J_seq ?_
      refine J_reg ?_
      refine st (s_callk (sanity_ok ) rfl trivial) rfl ?_
      refine st (s_assign rfl) rfl ?_
      refine Run.nil ?_
      refine pj_then ?_
      refine J_seq ?_
      refine J_reg ?_
      refine st (s_loadW 0 rfl rfl) rfl ?_
      refine st (s_callk (hch ) rfl ⟨VT.le_refl _, trivial⟩) rfl ?_
      refine st (s_move rfl) rfl ?_
      refine st (s_extract rfl rfl) rfl ?_
      refine st (s_extract rfl rfl) rfl ?_
      refine st (s_extract rfl rfl) rfl ?_
      refine a_allocS (T := 33) rfl rfl rfl (fun b8 => ?_)
      refine a_allocS (T := 33) rfl rfl rfl (fun b9 => ?_)
      refine a_allocS (T := 33) rfl rfl rfl (fun b10 => ?_)
      refine a_storeW 2 rfl rfl rfl rfl ?_
      refine a_storeW 1 rfl rfl rfl rfl ?_
      refine a_storeW 0 rfl rfl rfl rfl ?_
      refine Run.nil ?_
      refine pj_then ?_
      refine J_seq ?_
      refine J_reg ?_
      refine st (s_loadW 2 rfl rfl) rfl ?_
      refine st (s_loadW 1 rfl rfl) rfl ?_
      refine st (s_callk (rProduct_ok _ _ _ _ _ (by omega) (by omega) (by omega) (by assumption) (by assumption)) rfl ⟨VT.le_refl _, VT.le_refl _, trivial⟩) rfl ?_
      refine a_allocS (T := 33) rfl rfl rfl (fun b11 => ?_)
      refine a_storeW 0 rfl rfl rfl rfl ?_
      refine Run.nil ?_
      refine pj_then ?_
      refine J_seq ?_
      refine J_regd 11 mixed (by kernel_rfl) (by decide) ?_
      refine st (s_move rfl) rfl ?_
      refine st (s_fieldAddr rfl) rfl ?_
      refine st (s_loadB 3 rfl rfl rfl) rfl ?_
      refine st (s_addN _ 1 rfl rfl (by omega)) rfl ?_
      refine st (s_callk (hI ) rfl ⟨VT.le_refl _, VT.le_refl _, trivial⟩) rfl ?_
      refine st (s_move rfl) rfl ?_
      refine st (s_fieldAddr rfl) rfl ?_
      refine st (s_loadB 2 rfl rfl rfl) rfl ?_
      refine st (s_addN _ 1 rfl rfl (by omega)) rfl ?_
      refine st (s_callk (hJ ) rfl ⟨VT.le_refl _, VT.le_refl _, trivial⟩) rfl ?_
      refine st (s_assign rfl) rfl ?_
      refine Run.nil ?_
      refine st (s_assign rfl) rfl ?_
      refine Run.nil ?_
      refine pj_then ?_
      refine J_seq ?_
      refine J_reg ?_
      refine st (s_loadW 0 rfl rfl) rfl ?_
      refine st (s_move rfl) rfl ?_
      refine st (s_move rfl) rfl ?_
      refine st (s_callk (hP ) rfl ⟨VT.le_refl _, VT.le_refl _, VT.le_refl _, trivial⟩) rfl ?_
      refine st (s_move rfl) rfl ?_
      refine st (s_extract rfl rfl) rfl ?_
      refine st (s_extract rfl rfl) rfl ?_
      refine a_allocS (T := 33) rfl rfl rfl (fun b14 => ?_)
      refine a_storeW 0 rfl rfl rfl rfl ?_
      refine st (s_assign rfl) rfl ?_
      refine Run.nil ?_
      refine pj_then ?_
      refine J_seq ?_
      refine J_reg ?_
      refine st (s_loadW 1 rfl rfl) rfl ?_
      refine st (s_move rfl) rfl ?_
      refine st (s_move rfl) rfl ?_
      refine st (s_callk (hQ ) rfl ⟨VT.le_refl _, VT.le_refl _, VT.le_refl _, trivial⟩) rfl ?_
      refine st (s_move rfl) rfl ?_
      refine st (s_extract rfl rfl) rfl ?_
      refine st (s_extract rfl rfl) rfl ?_
      refine a_allocS (T := 33) rfl rfl rfl (fun b16 => ?_)
      refine a_storeW 0 rfl rfl rfl rfl ?_
      refine st (s_assign rfl) rfl ?_
      refine Run.nil ?_
      refine pj_then ?_
      refine J_seq ?_
      refine J_seq ?_
      refine J_reg ?_
      refine st (s_loadW 1 rfl rfl) rfl ?_
      refine st (s_loadW 0 rfl rfl) rfl ?_
      refine st (sT (⟨rfl, rfl, rfl⟩) (s_callk (rSameF_ok _ _ _ _ _ _ (by omega)) rfl ⟨VT.le_refl _, VT.le_refl _, trivial⟩)) rfl ?_
      refine st (s_not rfl) rfl ?_
      refine st (s_move rfl) rfl ?_
      refine sg1 rfl rfl (s_move rfl) rfl ?_
      refine sg1 rfl rfl (s_move rfl) rfl ?_
      refine sg1 rfl rfl (sF (by omega) (s_ne rfl rfl)) rfl ?_
      refine st (s_pickF rfl rfl) rfl ?_
      refine Run.nil ?_
      refine pj_then ?_
      refine J_cond0 rfl ?_
      refine J_skip ?_
      refine pj_then ?_
      refine J_seq ?_
      refine J_seq ?_
      refine J_reg ?_
      refine st (s_move rfl) rfl ?_
      refine st (sF (by omega) (s_ne rfl rfl)) rfl ?_
      refine Run.nil ?_
      refine pj_then ?_
      refine J_cond0 rfl ?_
      refine J_skip ?_
      refine pj_then ?_
      refine J_seq ?_
      refine J_regU2 mixed (by kernel_rfl) (by kernel_rfl) ?_
      refine ux (fun B => s_loadW 5 rfl rfl) rfl rfl ?_
      refine ux (fun B => s_move rfl) rfl rfl ?_
      refine ux (fun B => s_fieldAddr rfl) rfl rfl ?_
      refine ux (fun B => s_loadB 5 rfl rfl rfl) rfl rfl ?_
      refine uxk (rRange_ok _ (by omega)) rfl ⟨VT.le_refl _, trivial⟩ rfl ?_
      refine uxk (PickR_ok _ _ _ _ (by omega) (by omega) (by assumption) (by assumption)) rfl ⟨VT.le_refl _, VT.le_refl _, VT.le_refl _, trivial⟩ rfl ?_
      refine ux (fun B => s_move rfl) rfl rfl ?_
      refine ux (fun B => s_extract rfl rfl) rfl rfl ?_
      refine ux (fun B => s_extract rfl rfl) rfl rfl ?_
      refine ua rfl ?_
      refine us rfl ?_
      refine ux (fun B => s_assign rfl) rfl rfl ?_
      refine RunU.nil (fun γ => ?_)
      refine PJ_normM (M' := [_, _, _, _, _, _, _, _]) rfl ?_
      refine pj_then ?_
      refine J_seq ?_
      refine J_regU2 mixed (by kernel_rfl) (by kernel_rfl) ?_
      refine ux (fun B => s_loadW 5 rfl rfl) rfl rfl ?_
      refine ux (fun B => s_fieldAddr rfl) rfl rfl ?_
      refine ux (fun B => s_loadB 5 rfl rfl rfl) rfl rfl ?_
      refine uxk (rRange_ok _ (by omega)) rfl ⟨VT.le_refl _, trivial⟩ rfl ?_
      refine ux (fun B => s_move rfl) rfl rfl ?_
      refine uxk (PickL_ok _ _ _ _ (by omega) (by omega) (by assumption) (by assumption)) rfl ⟨VT.le_refl _, VT.le_refl _, VT.le_refl _, trivial⟩ rfl ?_
      refine ux (fun B => s_move rfl) rfl rfl ?_
      refine ux (fun B => s_extract rfl rfl) rfl rfl ?_
      refine ux (fun B => s_extract rfl rfl) rfl rfl ?_
      refine ua rfl ?_
      refine us rfl ?_
      refine ux (fun B => s_assign rfl) rfl rfl ?_
      refine RunU.nil (fun γ => ?_)
      refine PJ_normM (M' := [_, _, _, _, _, _, _, _, _]) rfl ?_
      refine pj_then ?_
      refine J_seq ?_
      refine J_seq ?_
      refine J_reg ?_
      refine st (s_move rfl) rfl ?_
      refine st (sF (by omega) (s_ne rfl rfl)) rfl ?_
      refine st (s_move rfl) rfl ?_
      refine sg1 rfl rfl (s_move rfl) rfl ?_
      refine sg1 rfl rfl (sF (by omega) (s_ne rfl rfl)) rfl ?_
      refine st (s_pickF rfl rfl) rfl ?_
      refine st (s_move rfl) rfl ?_
      refine sg1 rfl rfl (s_loadB 1 rfl rfl rfl) rfl ?_
      refine sg1 rfl rfl (s_move rfl) rfl ?_
      refine sg1 rfl rfl (s_len rfl) rfl ?_
      refine sg1 rfl rfl (s_fieldAddr rfl) rfl ?_
      refine sg1 rfl rfl (s_loadB 7 rfl rfl rfl) rfl ?_
      refine sg1 rfl rfl (s_callk (rSized_ok _ _ _ (by omega) (by assumption)) rfl ⟨VT.le_refl _, VT.le_refl _, VT.le_refl _, trivial⟩) rfl ?_
      refine sg1 rfl rfl (s_not rfl) rfl ?_
      refine st (s_pickF rfl rfl) rfl ?_
      refine st (s_move rfl) rfl ?_
      refine sg1 rfl rfl (s_loadB 0 rfl rfl rfl) rfl ?_
      refine sg1 rfl rfl (s_fieldAddr rfl) rfl ?_
      refine sg1 rfl rfl (s_loadB 6 rfl rfl rfl) rfl ?_
      refine sg1 rfl rfl (s_move rfl) rfl ?_
      refine sg1 rfl rfl (s_len rfl) rfl ?_
      refine sg1 rfl rfl (s_callk (rSized_ok _ _ _ (by omega) (by assumption)) rfl ⟨VT.le_refl _, VT.le_refl _, VT.le_refl _, trivial⟩) rfl ?_
      refine sg1 rfl rfl (s_not rfl) rfl ?_
      refine st (s_pickF rfl rfl) rfl ?_
      refine Run.nil ?_
      refine pj_then ?_
      refine J_cond0 rfl ?_
      refine J_skip ?_
      refine pj_then ?_
      refine J_seq ?_
      refine J_reg ?_
      refine st (s_loadB 1 rfl rfl rfl) rfl ?_
      refine st (s_loadB 0 rfl rfl rfl) rfl ?_
      refine st (s_callk (MMulE_ok _ _ _ _ _ (by omega) (by omega) (by omega) (by assumption) (by assumption)) rfl ⟨VT.le_refl _, VT.le_refl _, trivial⟩) rfl ?_
      refine st (s_move rfl) rfl ?_
      refine st (s_extract rfl rfl) rfl ?_
      refine st (s_extract rfl rfl) rfl ?_
      refine a_allocS (T := 33) rfl rfl rfl (fun b22 => ?_)
      refine a_storeW 0 rfl rfl rfl rfl ?_
      refine st (s_assign rfl) rfl ?_
      refine Run.nil ?_
      refine pj_then ?_
      refine J_seq ?_
      refine J_regU2 mixed (by kernel_rfl) (by kernel_rfl) ?_
      refine ux (fun B => s_loadW 4 rfl rfl) rfl rfl ?_
      refine ux (fun B => s_move rfl) rfl rfl ?_
      refine ux (fun B => s_len rfl) rfl rfl ?_
      refine uxk (rRange_ok _ (by omega)) rfl ⟨VT.le_refl _, trivial⟩ rfl ?_
      refine uxk (PickN_ok _ _ _ (by omega) (by assumption)) rfl ⟨VT.le_refl _, VT.le_refl _, VT.le_refl _, trivial⟩ rfl ?_
      refine ux (fun B => s_move rfl) rfl rfl ?_
      refine ux (fun B => s_extract rfl rfl) rfl rfl ?_
      refine ux (fun B => s_extract rfl rfl) rfl rfl ?_
      refine ua rfl ?_
      refine us rfl ?_
      refine ux (fun B => s_assign rfl) rfl rfl ?_
      refine RunU.nil (fun γ => ?_)
      refine PJ_normM (M' := [_, _, _, _, _, _, _, _, _, _, _]) rfl ?_
      refine pj_then ?_
      refine J_seq ?_
      refine J_regd 21 mixed (by kernel_rfl) (by decide) ?_
      refine st (s_move rfl) rfl ?_
      refine st (sT (by omega) (s_eq rfl rfl)) rfl ?_
      refine st (s_move rfl) rfl ?_
      refine sg1 rfl rfl (s_loadW 1 rfl rfl) rfl ?_
      refine sg1 rfl rfl (s_loadW 5 rfl rfl) rfl ?_
      refine sg1 rfl rfl (sT (⟨rfl, rfl, rfl⟩) (s_callk (rSameF_ok _ _ _ _ _ _ (by omega)) rfl ⟨VT.le_refl _, VT.le_refl _, trivial⟩)) rfl ?_
      refine st (s_pickT rfl rfl) rfl ?_
      refine st (s_move rfl) rfl ?_
      refine sg1 rfl rfl (s_move rfl) rfl ?_
      refine sg1 rfl rfl (sT (by omega) (s_eq rfl rfl)) rfl ?_
      refine st (s_pickT rfl rfl) rfl ?_
      refine st (s_move rfl) rfl ?_
      refine sg1 rfl rfl (s_loadB 0 rfl rfl rfl) rfl ?_
      refine sg1 rfl rfl (s_move rfl) rfl ?_
      refine sg1 rfl rfl (s_len rfl) rfl ?_
      refine sg1 rfl rfl (s_callk (hnew ) rfl ⟨VT.le_refl _, VT.le_refl _, trivial⟩) rfl ?_
      refine sg1 rfl rfl (sT (⟨rfl, rfl, rfl⟩) (s_callk (rSameF_ok _ _ _ _ _ _ (by omega)) rfl ⟨VT.le_refl _, VT.le_refl _, trivial⟩)) rfl ?_
      refine st (s_pickT rfl rfl) rfl ?_
      refine st (s_move rfl) rfl ?_
      refine sg1 rfl rfl (s_move rfl) rfl ?_
      refine st (s_pickT rfl rfl) rfl ?_
      refine Run.nil ?_
      refine st (s_assign rfl) rfl ?_
      refine Run.nil ?_
      refine pj_then ?_
      refine J_ret ?_
      refine retc1 Try.results5 (.tmp rfl (VT.le_refl _))
end Tor
end

section
set_option linter.unusedVariables false
set_option linter.unusedSimpArgs false
namespace Tor
open Go Go.RowKit Go.Proofs
/-- The description of a matrix. -/
def rawInT (r c : Nat) (l : List Int) : VT := aggT 3 [(0, .one, one (.int .u8 r)), (1, .one, one (.int .u8 c)), (2, .one, numT .i8 l)]
/-- The elements of the matrix that is made. -/
def madeF (c : Nat) (l : List Int) : Nat → Nat → Int := fun i j => dig l (i * (c % 5) + j)
theorem tmod5 (n : Nat) : (n : Int).tmod 5 = ((n % 5 : Nat) : Int) := by
  rw [Int.tmod_eq_emod_of_nonneg (by omega)]; omega
attribute [local irreducible] Tor.J Tor.PJ Tor.StepO Tor.one Tor.slT Tor.ptrT Tor.aggT Tor.tupT Tor.exT Tor.andT Tor.gT Tor.eP Tor.boxO Tor.sliO Tor.slV Tor.VT.le Tor.Ret Tor.anyT
attribute [local irreducible] bigT Tor.rowsO
set_option maxHeartbeats 2000000 in
theorem rMadeM_ok (r c : Nat) (l : List Int) : OkM Try.prog 11 [rawInT r c l] (newT (r % 5) (c % 5)) (fun s => [outO s.1.2.1 s.1.2.2 (r % 5) (c % 5) s.1.1, ownR (c % 5) s.1.1 (madeF c l)]) := by
  unfold rawInT numT
  refine OkM.enter Try.func11 rfl Try.ntmps11 rfl (fun w O => ?_)
  have h5 := tmod5 r
  have h6 := tmod5 c
  have hr : r % 5 < 5 := Nat.mod_lt _ (by decide)
  have hc : c % 5 < 5 := Nat.mod_lt _ (by decide)
  refine J_seq ?_
  refine J_reg ?_
  refine a_boxS rfl rfl (ltN rfl) (fun b => ?_)
  refine a_allocS (T := 33) rfl rfl rfl (fun b => ?_)
  refine Run.nil ?_
  refine pj_then ?_
  refine J_seq ?_
  refine J_reg ?_
  refine st (s_fieldAddr rfl) rfl ?_
  refine st (s_loadB 1 rfl rfl rfl) rfl ?_
  refine st (s_rem rfl rfl (by decide) rfl) rfl ?_
  (refine st (s_toI64 rfl ?_ ?_) rfl ?_; omega; omega)
  refine st (s_fieldAddr rfl) rfl ?_
  refine st (s_loadB 1 rfl rfl rfl) rfl ?_
  refine st (s_rem rfl rfl (by decide) rfl) rfl ?_
  (refine st (s_toI64 rfl ?_ ?_) rfl ?_; omega; omega)
  refine st (s_fieldAddr rfl) rfl ?_
  refine st (s_loadB 1 rfl rfl rfl) rfl ?_
  rw [h5]
  skip
  rw [h6]
  skip
  refine a_callM (rFilledM_ok (r % 5) (c % 5) l (by omega) (by omega)) rfl ⟨VT.le_refl _, VT.le_refl _, VT.le_refl _, trivial⟩ rfl rfl (fun s => ?_)
  unfold newT
  refine a_storeW 2 rfl rfl rfl rfl ?_
  refine Run.nil ?_
  refine pj_then ?_
  refine J_ret ?_
  refine retM1 s Try.results11 (.cellW 2 rfl rfl ?_) ?_
  · exact VT.le_refl _
  · exact .keep (Own.le_refl _) (.keep (Own.le_refl _) (SubM.nilR _))
end Tor
end

section
set_option linter.unusedVariables false
set_option linter.unusedSimpArgs false
namespace Tor
open Go Go.RowKit Go.Proofs
theorem rMade5_ok (r c : Nat) (l : List Int) : Ok Try.prog 11 [rawInT r c l] (matF (r % 5) (c % 5) (fun i j => dig l (i * (c % 5) + j))) := (rMadeM_ok r c l).ok fun s => newT_mat _ s
theorem rSameVS_ok (n : Nat) (f : Nat → Int) : Ok Try.prog 32 [rowF n f, rowF n f] (one (.bool true)) := by
  have h := rSameVec_ok ((List.range n).map f) ((List.range n).map f)
  rw [decide_eq_true rfl] at h
  exact h.le ⟨rowF_vec n f, rowF_vec n f, trivial⟩ (VT.le_refl _)
theorem ZeroF_ok (n : Nat) (f : Nat → Int) : Ok Try.prog 36 [rowF n f] (one (.bool (((List.range n).map f).all fun x => decide (x = 0)))) := (Zero_ok _).le ⟨rowF_vec n f, trivial⟩ (VT.le_refl _)
theorem rZeroF_ok (n : Nat) (f : Nat → Int) : Ok Try.prog 37 [rowF n f] (one (.bool (((List.range n).map f).all fun x => decide (x = 0)))) := (rZero_ok _).le ⟨rowF_vec n f, trivial⟩ (VT.le_refl _)
theorem bd1_dig (l : List Int) : ∀ i, mod4 (dig l i) := fun i => by
  have := tmod10 (l.getD i 0)
  have h : (dig l i).natAbs ≤ 10 := by unfold dig; omega
  exact Nat.le_trans h (by decide +kernel)
theorem DotE_ok (n : Nat) (f g : Nat → Int) (hn : n ≤ 1048576) (hf : ∀ i, mod4 (f i)) (hg : ∀ i, mod4 (g i)) :
    Ok Try.prog 33 [rowF n f, rowF n g] (tupT [bigT (sumF n (fun k => f k * g k)), one (.int .i64 0)]) := by
  have h := Dot_ok n n f g hn hn hf hg
  rw [if_pos rfl, if_pos rfl] at h; exact h
theorem app_row (N : Nat) (f : Nat → Int) : VT.le (slT (.agg 2) (0 + N + 1) (fun q => if q < 0 + N then if q < 0 then [].reverse.getD q anyT else bigT (f (q - 0)) else bigT 1)) (rowF (N + 1) (fun q => if q < N then f q else 1)) := by
  unfold rowF
  refine slT_le' (by omega) fun q hq => ?_
  by_cases h : q < N
  · rw [if_pos (by omega), if_neg (by omega)]; simp [h]
  · rw [if_neg (by omega)]; simp [h]
attribute [local irreducible] Tor.J Tor.PJ Tor.StepO Tor.one Tor.slT Tor.ptrT Tor.aggT Tor.tupT Tor.exT Tor.andT Tor.gT Tor.eP Tor.boxO Tor.sliO Tor.slV Tor.VT.le Tor.Ret Tor.anyT
attribute [local irreducible] bigT Tor.rowsO
set_option maxRecDepth 100000 in
set_option maxHeartbeats 8000000 in
theorem rowsLaw_ok (r c : Nat) (l v : List Int) (n : Nat) : Ok Try.prog 6 [rawInT r c l, numT .i8 v, one (.int .u8 n)] (one (.bool true)) := by
  have hr : r % 5 ≤ 4 := by omega
  have hc : c % 5 ≤ 4 := by omega
  have hn : n % 5 ≤ 4 := by omega
  have hmk := rMade5_ok r c l
  have hw := rVector_ok v (n % 5) (by omega)
  unfold rawInT at hmk ⊢
  refine Ok.enter Try.func6 rfl Try.ntmps6 rfl (fun w O => ?_)
  have hA : bd 10 (fun i j => dig l (i * (c % 5) + j)) := bd_dig _ _
  have hv : ∀ i, mod4 (dig v i) := bd1_dig v
  generalize (fun i j => dig l (i * (c % 5) + j)) = F at *
  generalize r % 5 = R at *
  generalize c % 5 = C at *
  have mA := bd_mod4 hA (by decide +kernel)
  have sA := bd_small hA (by decide +kernel)
  have mU : ∀ i j : Nat, mod4 ((fun _ => dig v : Nat → Nat → Int) i j) := fun i j => hv j
  have hT := Times_ok (n % 5) (dig v) R C F (by omega) (by omega) hv mA
  by_cases hne : n % 5 = R
  · subst hne
    rw [decide_eq_true rfl] at hT
    simp only [resV, if_true] at hT
    have hV : bd 10 (fun _ => dig v) := fun i j => by
      have := tmod10 (v.getD j 0)
      show (dig v j).natAbs ≤ 10
      unfold dig; omega
    have sQ := bd_small (bd_mul (n := n % 5) (by omega) hV hA) (by decide +kernel)
    have hss := rSameVS_ok C (fun j => sumF (n % 5) fun k => dig v k * F k j)
    refine J_seq ?_
    refine J_reg ?_
    refine a_boxS rfl rfl (ltN rfl) (fun b3 => ?_)
    refine st (s_assign rfl) rfl ?_
    refine Run.nil ?_
    refine pj_then ?_
    refine J_seq ?_
    refine J_reg ?_
    refine st (s_callk (sanity_ok ) rfl trivial) rfl ?_
    refine st (s_assign rfl) rfl ?_
    refine Run.nil ?_
    refine pj_then ?_
    refine J_seq ?_
    refine J_reg ?_
    refine st (s_loadW 0 rfl rfl) rfl ?_
    refine st (s_callk (hmk ) rfl ⟨VT.le_refl _, trivial⟩) rfl ?_
    refine st (s_move rfl) rfl ?_
    refine st (s_move rfl) rfl ?_
    refine st (s_remN 5 rfl rfl rfl (by decide)) rfl ?_
    (refine st (s_toI64 rfl ?_ ?_) rfl ?_; omega; omega)
    refine st (s_callk (hw ) rfl ⟨VT.le_refl _, VT.le_refl _, trivial⟩) rfl ?_
    refine a_allocS (T := 33) rfl rfl rfl (fun b8 => ?_)
    refine a_storeW 0 rfl rfl rfl rfl ?_
    refine st (s_assign rfl) rfl ?_
    refine Run.nil ?_
    refine pj_then ?_
    refine J_seq ?_
    refine J_reg ?_
    refine st (s_move rfl) rfl ?_
    refine st (s_loadW 0 rfl rfl) rfl ?_
    refine st (s_callk (hT ) rfl ⟨VT.le_refl _, VT.le_refl _, trivial⟩) rfl ?_
    refine st (s_move rfl) rfl ?_
    refine st (s_extract rfl rfl) rfl ?_
    refine st (s_extract rfl rfl) rfl ?_
    refine st (s_assign rfl) rfl ?_
    refine st (s_assign rfl) rfl ?_
    refine Run.nil ?_
    refine pj_then ?_
    refine J_seq ?_
    refine J_seq ?_
    refine J_reg ?_
    refine st (s_move rfl) rfl ?_
    refine st (s_len rfl) rfl ?_
    refine st (s_fieldAddr rfl) rfl ?_
    refine st (s_loadB 0 rfl rfl rfl) rfl ?_
    refine st (sF (by omega) (s_ne rfl rfl)) rfl ?_
    refine Run.nil ?_
    refine pj_then ?_
    refine J_cond0 rfl ?_
    refine J_skip ?_
    refine pj_then ?_
    refine J_seq ?_
    refine J_regU2 mixed (by kernel_rfl) (by kernel_rfl) ?_
    refine ux (fun B => s_move rfl) rfl rfl ?_
    refine uxk (rRow_ok _ _) rfl ⟨VT.le_refl _, trivial⟩ rfl ?_
    refine ux (fun B => s_loadW 0 rfl rfl) rfl rfl ?_
    refine uxk (MMulE_ok _ _ _ _ _ (by omega) (by omega) (by omega) (by assumption) (by assumption)) rfl ⟨VT.le_refl _, VT.le_refl _, trivial⟩ rfl ?_
    refine ux (fun B => s_move rfl) rfl rfl ?_
    refine ux (fun B => s_extract rfl rfl) rfl rfl ?_
    refine ux (fun B => s_extract rfl rfl) rfl rfl ?_
    refine ua rfl ?_
    refine us rfl ?_
    refine ux (fun B => s_assign rfl) rfl rfl ?_
    refine RunU.nil (fun γ => ?_)
    refine PJ_normM (M' := [_, _, _]) rfl ?_
    refine PJ_sub (SubG.refl _) (.keep box_flat (SubM.refl _)) ?_
    refine pj_then ?_
    refine J_seq ?_
    refine J_seq ?_
    refine J_reg ?_
    refine st (s_move rfl) rfl ?_
    refine st (sF (by omega) (s_ne rfl rfl)) rfl ?_
    refine st (s_move rfl) rfl ?_
    refine sg1 rfl rfl (s_move rfl) rfl ?_
    refine sg1 rfl rfl (sF (by omega) (s_ne rfl rfl)) rfl ?_
    refine st (s_pickF rfl rfl) rfl ?_
    refine st (s_move rfl) rfl ?_
    refine sg1 rfl rfl (s_loadW 0 rfl rfl) rfl ?_
    refine sg1 rfl rfl (s_fieldAddr rfl) rfl ?_
    refine sg1 rfl rfl (s_loadB 1 rfl rfl rfl) rfl ?_
    refine sg1 rfl rfl (s_callk (rSized_ok _ _ _ (by omega) (by assumption)) rfl ⟨VT.le_refl _, VT.le_refl _, VT.le_refl _, trivial⟩) rfl ?_
    refine sg1 rfl rfl (s_not rfl) rfl ?_
    refine st (s_pickF rfl rfl) rfl ?_
    refine st (s_move rfl) rfl ?_
    refine sg1 rfl rfl (s_move rfl) rfl ?_
    refine sg1 rfl rfl (s_fieldAddr rfl) rfl ?_
    refine sg1 rfl rfl (s_loadB 0 rfl rfl rfl) rfl ?_
    (refine sg1 rfl rfl (s_indexI rfl rfl ?_ ?_) rfl ?_; omega; omega)
    refine sg1 rfl rfl (s_load rfl) rfl ?_
    refine sg1 rfl rfl (s_callk (hss ) rfl ⟨VT.le_refl _, VT.le_refl _, trivial⟩) rfl ?_
    refine sg1 rfl rfl (s_not rfl) rfl ?_
    refine st (s_pickF rfl rfl) rfl ?_
    refine Run.nil ?_
    refine pj_then ?_
    refine J_cond0 rfl ?_
    refine J_skip ?_
    refine pj_then ?_
    refine J_seq ?_
    refine J_seq ?_
    refine J_reg ?_
    refine st (s_assign rfl) rfl ?_
    refine Run.nil ?_
    refine pj_then ?_
    refine J_block ?_
    refine J_sub (Γ' := [(6, _), (7, _), (8, _), (9, _), (10, _), (14, _)]) (SubG.cons rfl (VT.le_refl _) (SubG.cons rfl (VT.le_refl _) (SubG.cons rfl (VT.le_refl _) (SubG.cons rfl (VT.le_refl _) (SubG.cons rfl (VT.le_refl _) (SubG.cons rfl (VT.le_refl _) (SubG.nil))))))) (SubM.refl _) ?_
    refine J_loopA (σ := Nat) (Γk := [(7, _), (8, _), (9, _), (10, _)]) (SubG.cons rfl (VT.le_refl _) (SubG.cons rfl (VT.le_refl _) (SubG.cons rfl (VT.le_refl _) (SubG.cons rfl (VT.le_refl _) (SubG.nil))))) (fun j => [(14, one (.int .i64 (j : Nat)))]) (fun j M0 => M0) (fun j => j ≤ C) (fun j => C - j) (0) (Nat.zero_le _) (by repeat (first | exact SubG.refl _ | exact SubG.nil | refine SubG.cons rfl (VT.le_refl _) ?_ | (refine SubG.cons rfl (one_le ?_) ?_; (congr 1; first | omega | (simp; omega) | simp)))) (.keep (Own.le_refl _) (.keep (Own.le_refl _) (.keep (Own.le_refl _) (.nil)))) (fun j hj => ?_)
    refine J_norm (Γ' := [(14, _), (7, _), (8, _), (9, _), (10, _)]) (M' := [_, _, _]) rfl rfl ?_
    refine J_seq ?_
    refine J_seq ?_
    refine J_reg ?_
    refine st (s_move rfl) rfl ?_
    refine st (s_fieldAddr rfl) rfl ?_
    refine st (s_loadB 1 rfl rfl rfl) rfl ?_
    refine st (s_lt rfl rfl) rfl ?_
    refine Run.nil ?_
    refine pj_then ?_
    refine J_if rfl (fun hj => ?_) (fun hj => ?_)
    · have mC : ∀ k, mod4 (F k j) := fun k => mA k j
      refine J_skip ?_
      refine pj_then ?_
      refine J_seq ?_
      refine J_block ?_
      refine J_seq ?_
      refine J_reg ?_
      refine st (s_move rfl) rfl ?_
      refine st (s_loadW 1 rfl rfl) rfl ?_
      refine st (s_callk (rTranspose_ok _ _ _ (by omega) (by omega)) rfl ⟨VT.le_refl _, trivial⟩) rfl ?_
      refine st (s_field rfl rfl) rfl ?_
      refine st (s_move rfl) rfl ?_
      (refine st (s_indexIN rfl rfl ?_) rfl ?_; omega)
      refine st (s_load rfl) rfl ?_
      refine st (s_callk (DotE_ok _ _ _ (by omega) (by assumption) (by assumption)) rfl ⟨VT.le_refl _, VT.le_refl _, trivial⟩) rfl ?_
      refine st (s_move rfl) rfl ?_
      refine st (s_extract rfl rfl) rfl ?_
      refine st (s_extract rfl rfl) rfl ?_
      refine a_alloc (T := 29) rfl (ltN rfl) (fun b15 => ?_)
      refine a_storeB 0 rfl rfl rfl rfl rfl (leN rfl) rfl ?_
      refine st (s_assign rfl) rfl ?_
      refine Run.nil ?_
      refine pj_then ?_
      refine J_seq ?_
      refine J_regd 11 mixed (by kernel_rfl) (by decide) ?_
      refine st (s_move rfl) rfl ?_
      refine st (sF (by omega) (s_ne rfl rfl)) rfl ?_
      refine st (s_move rfl) rfl ?_
      refine sg1 rfl rfl (s_loadB 0 rfl rfl rfl) rfl ?_
      refine sg1 rfl rfl (s_move rfl) rfl ?_
      refine sg1 rfl rfl (s_move rfl) rfl ?_
      (refine sg1 rfl rfl (s_indexIN rfl rfl ?_) rfl ?_; omega)
      refine sg1 rfl rfl (s_load rfl) rfl ?_
      refine sg1 rfl rfl (sT (rfl) (s_callk (rSame_ok _ _) rfl ⟨VT.le_refl _, VT.le_refl _, trivial⟩)) rfl ?_
      refine sg1 rfl rfl (s_not rfl) rfl ?_
      refine st (s_pickF rfl rfl) rfl ?_
      refine Run.nil ?_
      refine Run.nil ?_
      refine pj_then ?_
      refine J_cond0 rfl ?_
      refine J_skip ?_
      refine pn_block ?_
      refine pj_then ?_
      refine J_reg ?_
      refine st (s_move rfl) rfl ?_
      refine st (s_addN _ 1 rfl rfl (by omega)) rfl ?_
      refine st (s_assign rfl) rfl ?_
      refine Run.nil ?_
      refine pj_roundM (j + 1) (by omega) (by omega) (by repeat (first | exact SubG.refl _ | exact SubG.nil | refine SubG.cons rfl (VT.le_refl _) ?_ | (refine SubG.cons rfl (one_le ?_) ?_; (congr 1; first | omega | (simp; omega) | simp)))) (.drop (.keep (Own.le_refl _) (.keep (Own.le_refl _) (.keep (Own.le_refl _) (.nil)))))
    · have hDn := Dot_ok (n % 5) (n % 5 + 1) (dig v) (fun q => if q < n % 5 then dig v q else 1) (by omega) (by omega) hv (fun q => by
        by_cases h : q < n % 5
        · rw [if_pos h]; exact hv q
        · rw [if_neg h]; exact (by decide +kernel : mod4 1))
      rw [if_neg (by omega), if_neg (by omega)] at hDn
      refine J_exit ?_
      refine px_then ?_
      refine px_then ?_
      refine px_block ?_
      refine pj_then ?_
      refine J_seq ?_
      refine J_reg ?_
      refine st (s_move rfl) rfl ?_
      refine stSO (n := 0) rfl rfl rfl rfl rfl ?_
      refine PartsK.nil (fun bl => ?_)
      refine st (s_move rfl) rfl ?_
      (refine a_append 0 rfl rfl rfl (leN rfl) ?_ ?_ rfl (ltN rfl) (fun sv109 cap109 => ?_); omega; omega)
      refine st (s_callk (rOf_ok _ (by omega) (by omega)) rfl ⟨VT.le_refl _, trivial⟩) rfl ?_
      refine stS1 rfl rfl rfl rfl ?_
      (refine a_append 0 rfl rfl rfl (leN rfl) ?_ ?_ rfl (ltN rfl) (fun sv112 cap112 => ?_); omega; omega)
      refine Run_freeze (t := 112) (j := 0) rfl rfl ?_
      refine st (s_callk (hDn ) rfl ⟨VT.le_refl _, (app_row _ _), trivial⟩) rfl ?_
      refine st (s_move rfl) rfl ?_
      refine st (s_extract rfl rfl) rfl ?_
      refine st (s_extract rfl rfl) rfl ?_
      refine a_alloc (T := 29) rfl (ltN rfl) (fun b17 => ?_)
      refine a_storeB 0 rfl rfl rfl rfl rfl (leN rfl) rfl ?_
      refine st (s_assign rfl) rfl ?_
      refine Run.nil ?_
      refine pj_then ?_
      refine J_seq ?_
      refine J_reg ?_
      refine st (s_move rfl) rfl ?_
      refine st (sT (by omega) (s_eq rfl rfl)) rfl ?_
      refine st (s_move rfl) rfl ?_
      refine sg1 rfl rfl (s_move rfl) rfl ?_
      refine sg1 rfl rfl (s_callk (ZeroF_ok _ _) rfl ⟨VT.le_refl _, trivial⟩) rfl ?_
      refine sg1 rfl rfl (s_move rfl) rfl ?_
      refine sg1 rfl rfl (s_callk (rZeroF_ok _ _) rfl ⟨VT.le_refl _, trivial⟩) rfl ?_
      refine sg1 rfl rfl (sBt (beq_self_eq_true _) (s_eqB rfl rfl)) rfl ?_
      refine st (s_pickT rfl rfl) rfl ?_
      refine st (s_move rfl) rfl ?_
      refine sg1 rfl rfl (s_move rfl) rfl ?_
      refine st (s_pickT rfl rfl) rfl ?_
      refine st (s_assign rfl) rfl ?_
      refine Run.nil ?_
      refine pj_then ?_
      refine J_ret ?_
      refine retc1 Try.results6 (.tmp rfl (VT.le_refl _))
  · rw [decide_eq_false hne] at hT
    simp only [resV, Bool.false_eq_true, if_false] at hT
    refine J_seq ?_
    refine J_reg ?_
    refine a_boxS rfl rfl (ltN rfl) (fun b3 => ?_)
    refine st (s_assign rfl) rfl ?_
    refine Run.nil ?_
    refine pj_then ?_
    refine J_seq ?_
    refine J_reg ?_
    refine st (s_callk (sanity_ok ) rfl trivial) rfl ?_
    refine st (s_assign rfl) rfl ?_
    refine Run.nil ?_
    refine pj_then ?_
    refine J_seq ?_
    refine J_reg ?_
    refine st (s_loadW 0 rfl rfl) rfl ?_
    refine st (s_callk (hmk ) rfl ⟨VT.le_refl _, trivial⟩) rfl ?_
    refine st (s_move rfl) rfl ?_
    refine st (s_move rfl) rfl ?_
    refine st (s_remN 5 rfl rfl rfl (by decide)) rfl ?_
    (refine st (s_toI64 rfl ?_ ?_) rfl ?_; omega; omega)
    refine st (s_callk (hw ) rfl ⟨VT.le_refl _, VT.le_refl _, trivial⟩) rfl ?_
    refine a_allocS (T := 33) rfl rfl rfl (fun b8 => ?_)
    refine a_storeW 0 rfl rfl rfl rfl ?_
    refine st (s_assign rfl) rfl ?_
    refine Run.nil ?_
    refine pj_then ?_
    refine J_seq ?_
    refine J_reg ?_
    refine st (s_move rfl) rfl ?_
    refine st (s_loadW 0 rfl rfl) rfl ?_
    refine st (s_callk (hT ) rfl ⟨VT.le_refl _, VT.le_refl _, trivial⟩) rfl ?_
    refine st (s_move rfl) rfl ?_
    refine st (s_extract rfl rfl) rfl ?_
    refine st (s_extract rfl rfl) rfl ?_
    refine st (s_assign rfl) rfl ?_
    refine st (s_assign rfl) rfl ?_
    refine Run.nil ?_
    refine pj_then ?_
    refine J_seq ?_
    refine J_seq ?_
    refine J_reg ?_
    refine st (s_move rfl) rfl ?_
    refine st (s_len rfl) rfl ?_
    refine st (s_fieldAddr rfl) rfl ?_
    refine st (s_loadB 0 rfl rfl rfl) rfl ?_
    refine st (sT (by omega) (s_ne rfl rfl)) rfl ?_
    refine Run.nil ?_
    refine pj_then ?_
    refine J_cond1 rfl ?_
    refine J_seq ?_
    refine J_reg ?_
    refine st (s_move rfl) rfl ?_
    refine st (sT (by omega) (s_eq rfl rfl)) rfl ?_
    refine st (s_move rfl) rfl ?_
    refine sg1 rfl rfl (s_move rfl) rfl ?_
    refine sg1 rfl rfl (s_len rfl) rfl ?_
    refine sg1 rfl rfl (sT (by omega) (s_eq rfl rfl)) rfl ?_
    refine st (s_pickT rfl rfl) rfl ?_
    refine st (s_move rfl) rfl ?_
    refine sg1 rfl rfl (s_move rfl) rfl ?_
    refine st (s_pickT rfl rfl) rfl ?_
    refine st (s_assign rfl) rfl ?_
    refine Run.nil ?_
    refine pj_then ?_
    refine J_ret ?_
    refine pr_then ?_
    refine retc1 Try.results6 (.tmp rfl (VT.le_refl _))
end Tor
end

section
set_option linter.unusedVariables false
set_option linter.unusedSimpArgs false
namespace Tor
open Go Go.RowKit Go.Proofs
theorem MEqualI_ok (ra ca : Nat) (F : Nat → Nat → Int) (rb cb : Nat) (G : Nat → Nat → Int) (h1 : ra ≤ 1048576) (h2 : ca ≤ 1048576) :
    Ok Try.prog 50 [matF ra ca F, matF rb cb G] (one (.bool (decide ((ra : Int) = rb ∧ (ca : Int) = cb ∧ tab ra ca F = tab rb cb G)))) :=
  (MEqual_ok ra ca F rb cb G h1 h2).le ⟨VT.le_refl _, VT.le_refl _, trivial⟩ (one_le (by
    congr 1
    rw [decide_eq_decide]
    constructor <;> (rintro ⟨h1, h2, h3⟩; exact ⟨by omega, by omega, h3⟩)))
theorem small_i64 {k : Int} (h1 : -9223372036854775808 ≤ k) (h2 : k ≤ 9223372036854775807) : small k := small_le (n := 9223372036854775808) (by omega) (by decide +kernel)
attribute [local irreducible] Tor.J Tor.PJ Tor.StepO Tor.one Tor.slT Tor.ptrT Tor.aggT Tor.tupT Tor.exT Tor.andT Tor.gT Tor.eP Tor.boxO Tor.sliO Tor.slV Tor.VT.le Tor.Ret Tor.anyT
attribute [local irreducible] bigT Tor.rowsO
set_option maxRecDepth 100000 in
set_option maxHeartbeats 8000000 in
theorem matchLaw_ok (r c : Nat) (l : List Int) (r' c' : Nat) (l' : List Int) (k : Int) (hk1 : -9223372036854775808 ≤ k) (hk2 : k ≤ 9223372036854775807) : Ok Try.prog 9 [rawInT r c l, rawInT r' c' l', one (.int .i64 k)] (one (.bool true)) := by
  have hr : r % 5 ≤ 4 := by omega
  have hc : c % 5 ≤ 4 := by omega
  have hr' : r' % 5 ≤ 4 := by omega
  have hc' : c' % 5 ≤ 4 := by omega
  have hmk := rMade5_ok r c l
  have hmk' := rMade5_ok r' c' l'
  have hks := small_i64 hk1 hk2
  unfold rawInT at hmk hmk' ⊢
  refine Ok.enter Try.func9 rfl Try.ntmps9 rfl (fun w O => ?_)
  have hA : bd 10 (fun i j => dig l (i * (c % 5) + j)) := bd_dig _ _
  have hB : bd 10 (fun i j => dig l' (i * (c' % 5) + j)) := bd_dig _ _
  generalize (fun i j => dig l (i * (c % 5) + j)) = F at *
  generalize (fun i j => dig l' (i * (c' % 5) + j)) = G at *
  generalize r % 5 = R at *
  generalize c % 5 = C at *
  generalize r' % 5 = R' at *
  generalize c' % 5 = C' at *
  have mA := bd_mod4 hA (by decide +kernel)
  have sA := bd_small hA (by decide +kernel)
  have mB := bd_mod4 hB (by decide +kernel)
  have sB := bd_small hB (by decide +kernel)
  have hN : Ok Try.prog 46 [one (.int .i64 R), one (.int .i64 C')] (matF R C' (fun _ _ => 0)) := (New_ok R C' (by omega) (by omega)).ok fun s => newT_mat _ s
  have hN' := new_mat R C' (by omega) (by omega)
  refine J_seq ?_
  refine J_reg ?_
  refine a_boxS rfl rfl (ltN rfl) (fun b3 => ?_)
  refine a_boxS rfl rfl (ltN rfl) (fun b4 => ?_)
  refine st (s_assign rfl) rfl ?_
  refine Run.nil ?_
  refine pj_then ?_
  refine J_seq ?_
  refine J_reg ?_
  refine st (s_callk (sanity_ok ) rfl trivial) rfl ?_
  refine st (s_assign rfl) rfl ?_
  refine Run.nil ?_
  refine pj_then ?_
  refine J_seq ?_
  refine J_regU2 mixed (by kernel_rfl) (by kernel_rfl) ?_
  refine ux (fun B => s_loadW 1 rfl rfl) rfl rfl ?_
  refine uxk (hmk ) rfl ⟨VT.le_refl _, trivial⟩ rfl ?_
  refine ux (fun B => s_loadW 0 rfl rfl) rfl rfl ?_
  refine uxk (hmk' ) rfl ⟨VT.le_refl _, trivial⟩ rfl ?_
  refine ua rfl ?_
  refine ua rfl ?_
  refine us rfl ?_
  refine us rfl ?_
  refine RunU.nil (fun γ => ?_)
  refine PJ_normM (M' := [_, _, _, _]) rfl ?_
  refine PJ_sub (SubG.refl _) (.keep box_flat (.keep box_flat (SubM.refl _))) ?_
  refine pj_then ?_
  refine J_seq ?_
  refine J_reg ?_
  refine st (s_loadW 1 rfl rfl) rfl ?_
  refine st (s_loadW 0 rfl rfl) rfl ?_
  refine st (s_callk (MAdd_ok _ _ _ _ _ _ (by omega) (by omega) (by assumption) (by assumption)) rfl ⟨VT.le_refl _, VT.le_refl _, trivial⟩) rfl ?_
  refine st (s_move rfl) rfl ?_
  refine st (s_extract rfl rfl) rfl ?_
  refine st (s_extract rfl rfl) rfl ?_
  refine a_allocS (T := 33) rfl rfl rfl (fun b10 => ?_)
  refine a_storeW 0 rfl rfl rfl rfl ?_
  refine st (s_assign rfl) rfl ?_
  refine Run.nil ?_
  refine pj_then ?_
  refine J_seq ?_
  refine J_reg ?_
  refine st (s_loadW 2 rfl rfl) rfl ?_
  refine st (s_loadW 1 rfl rfl) rfl ?_
  refine st (s_callk (rAddM_ok _ _ _ _ _ _ (by omega) (by omega) (by assumption) (by assumption)) rfl ⟨VT.le_refl _, VT.le_refl _, trivial⟩) rfl ?_
  refine st (s_move rfl) rfl ?_
  refine st (s_extract rfl rfl) rfl ?_
  refine st (s_extract rfl rfl) rfl ?_
  refine a_allocS (T := 33) rfl rfl rfl (fun b12 => ?_)
  refine a_storeW 0 rfl rfl rfl rfl ?_
  refine st (s_assign rfl) rfl ?_
  refine Run.nil ?_
  refine pj_then ?_
  refine J_seq ?_
  refine J_reg ?_
  refine st (s_loadW 3 rfl rfl) rfl ?_
  refine st (s_loadW 2 rfl rfl) rfl ?_
  refine st (s_callk (MSub_ok _ _ _ _ _ _ (by omega) (by omega) (by assumption) (by assumption)) rfl ⟨VT.le_refl _, VT.le_refl _, trivial⟩) rfl ?_
  refine st (s_move rfl) rfl ?_
  refine st (s_extract rfl rfl) rfl ?_
  refine st (s_extract rfl rfl) rfl ?_
  refine a_allocS (T := 33) rfl rfl rfl (fun b14 => ?_)
  refine a_storeW 0 rfl rfl rfl rfl ?_
  refine st (s_assign rfl) rfl ?_
  refine Run.nil ?_
  refine pj_then ?_
  refine J_seq ?_
  refine J_reg ?_
  refine st (s_loadW 4 rfl rfl) rfl ?_
  refine st (s_loadW 3 rfl rfl) rfl ?_
  refine st (s_callk (rSubM_ok _ _ _ _ _ _ (by omega) (by omega) (by omega) (by omega) (by assumption) (by assumption)) rfl ⟨VT.le_refl _, VT.le_refl _, trivial⟩) rfl ?_
  refine st (s_move rfl) rfl ?_
  refine st (s_extract rfl rfl) rfl ?_
  refine st (s_extract rfl rfl) rfl ?_
  refine a_allocS (T := 33) rfl rfl rfl (fun b16 => ?_)
  refine a_storeW 0 rfl rfl rfl rfl ?_
  refine st (s_assign rfl) rfl ?_
  refine Run.nil ?_
  refine pj_then ?_
  refine J_seq ?_
  refine J_reg ?_
  refine st (s_loadW 5 rfl rfl) rfl ?_
  refine st (s_loadW 4 rfl rfl) rfl ?_
  refine st (s_callk (MMul_ok _ _ _ _ _ _ (by omega) (by omega) (by omega) (by assumption) (by assumption)) rfl ⟨VT.le_refl _, VT.le_refl _, trivial⟩) rfl ?_
  refine st (s_move rfl) rfl ?_
  refine st (s_extract rfl rfl) rfl ?_
  refine st (s_extract rfl rfl) rfl ?_
  refine a_allocS (T := 33) rfl rfl rfl (fun b18 => ?_)
  refine a_storeW 0 rfl rfl rfl rfl ?_
  refine st (s_assign rfl) rfl ?_
  refine Run.nil ?_
  refine pj_then ?_
  refine J_seq ?_
  refine J_reg ?_
  refine st (s_loadW 6 rfl rfl) rfl ?_
  refine st (s_loadW 5 rfl rfl) rfl ?_
  refine st (s_callk (rMulM_ok _ _ _ _ _ _ (by omega) (by omega) (by omega) (by assumption) (by assumption)) rfl ⟨VT.le_refl _, VT.le_refl _, trivial⟩) rfl ?_
  refine st (s_move rfl) rfl ?_
  refine st (s_extract rfl rfl) rfl ?_
  refine st (s_extract rfl rfl) rfl ?_
  refine a_allocS (T := 33) rfl rfl rfl (fun b20 => ?_)
  refine a_storeW 0 rfl rfl rfl rfl ?_
  refine st (s_assign rfl) rfl ?_
  refine Run.nil ?_
  refine pj_then ?_
  refine J_seq ?_
  refine J_seq ?_
  refine J_reg ?_
  refine st (s_loadW 5 rfl rfl) rfl ?_
  refine st (s_loadW 4 rfl rfl) rfl ?_
  refine st (sT (⟨rfl, rfl, rfl⟩) (s_callk (rSameF_ok _ _ _ _ _ _ (by (split <;> omega))) rfl ⟨VT.le_refl _, VT.le_refl _, trivial⟩)) rfl ?_
  refine st (s_not rfl) rfl ?_
  refine st (s_move rfl) rfl ?_
  refine sg1 rfl rfl (s_move rfl) rfl ?_
  refine sg1 rfl rfl (s_move rfl) rfl ?_
  refine sg1 rfl rfl (sF (fun h => h rfl) (s_ne rfl rfl)) rfl ?_
  refine st (s_pickF rfl rfl) rfl ?_
  refine st (s_move rfl) rfl ?_
  refine sg1 rfl rfl (s_loadW 3 rfl rfl) rfl ?_
  refine sg1 rfl rfl (s_loadW 2 rfl rfl) rfl ?_
  refine sg1 rfl rfl (sT (⟨rfl, rfl, rfl⟩) (s_callk (rSameF_ok _ _ _ _ _ _ (by (split <;> omega))) rfl ⟨VT.le_refl _, VT.le_refl _, trivial⟩)) rfl ?_
  refine sg1 rfl rfl (s_not rfl) rfl ?_
  refine st (s_pickF rfl rfl) rfl ?_
  refine st (s_move rfl) rfl ?_
  refine sg1 rfl rfl (s_move rfl) rfl ?_
  refine sg1 rfl rfl (s_move rfl) rfl ?_
  refine sg1 rfl rfl (sF (fun h => h rfl) (s_ne rfl rfl)) rfl ?_
  refine st (s_pickF rfl rfl) rfl ?_
  refine st (s_move rfl) rfl ?_
  refine sg1 rfl rfl (s_loadW 1 rfl rfl) rfl ?_
  refine sg1 rfl rfl (s_loadW 0 rfl rfl) rfl ?_
  refine sg1 rfl rfl (sT (⟨rfl, rfl, rfl⟩) (s_callk (rSameF_ok _ _ _ _ _ _ (by (split <;> omega))) rfl ⟨VT.le_refl _, VT.le_refl _, trivial⟩)) rfl ?_
  refine sg1 rfl rfl (s_not rfl) rfl ?_
  refine st (s_pickF rfl rfl) rfl ?_
  refine st (s_move rfl) rfl ?_
  refine sg1 rfl rfl (s_move rfl) rfl ?_
  refine sg1 rfl rfl (s_move rfl) rfl ?_
  refine sg1 rfl rfl (sF (fun h => h rfl) (s_ne rfl rfl)) rfl ?_
  refine st (s_pickF rfl rfl) rfl ?_
  refine Run.nil ?_
  refine pj_then ?_
  refine J_cond0 rfl ?_
  refine J_skip ?_
  refine pj_then ?_
  refine J_seq ?_
  refine J_reg ?_
  refine st (s_loadW 7 rfl rfl) rfl ?_
  refine st (s_loadW 6 rfl rfl) rfl ?_
  refine st (s_callk (Stack_ok _ _ _ _ _ _ (by omega) (by omega) (by omega) (by assumption) (by assumption)) rfl ⟨VT.le_refl _, VT.le_refl _, trivial⟩) rfl ?_
  refine st (s_move rfl) rfl ?_
  refine st (s_extract rfl rfl) rfl ?_
  refine st (s_extract rfl rfl) rfl ?_
  refine a_allocS (T := 33) rfl rfl rfl (fun b22 => ?_)
  refine a_storeW 0 rfl rfl rfl rfl ?_
  refine st (s_assign rfl) rfl ?_
  refine Run.nil ?_
  refine pj_then ?_
  refine J_seq ?_
  refine J_reg ?_
  refine st (s_loadW 8 rfl rfl) rfl ?_
  refine st (s_loadW 7 rfl rfl) rfl ?_
  refine st (s_callk (rStack_ok _ _ _ _ _ _ (by omega) (by omega) (by omega) (by assumption) (by assumption)) rfl ⟨VT.le_refl _, VT.le_refl _, trivial⟩) rfl ?_
  refine st (s_move rfl) rfl ?_
  refine st (s_extract rfl rfl) rfl ?_
  refine st (s_extract rfl rfl) rfl ?_
  refine a_allocS (T := 33) rfl rfl rfl (fun b24 => ?_)
  refine a_storeW 0 rfl rfl rfl rfl ?_
  refine st (s_assign rfl) rfl ?_
  refine Run.nil ?_
  refine pj_then ?_
  refine J_seq ?_
  refine J_reg ?_
  refine st (s_loadW 9 rfl rfl) rfl ?_
  refine st (s_loadW 8 rfl rfl) rfl ?_
  refine st (s_callk (Beside_ok _ _ _ _ _ _ (by omega) (by omega) (by omega) (by assumption) (by assumption)) rfl ⟨VT.le_refl _, VT.le_refl _, trivial⟩) rfl ?_
  refine st (s_move rfl) rfl ?_
  refine st (s_extract rfl rfl) rfl ?_
  refine st (s_extract rfl rfl) rfl ?_
  refine a_allocS (T := 33) rfl rfl rfl (fun b26 => ?_)
  refine a_storeW 0 rfl rfl rfl rfl ?_
  refine st (s_assign rfl) rfl ?_
  refine Run.nil ?_
  refine pj_then ?_
  refine J_seq ?_
  refine J_reg ?_
  refine st (s_loadW 10 rfl rfl) rfl ?_
  refine st (s_loadW 9 rfl rfl) rfl ?_
  refine st (s_callk (rBeside_ok _ _ _ _ _ _ (by omega) (by omega)) rfl ⟨VT.le_refl _, VT.le_refl _, trivial⟩) rfl ?_
  refine st (s_move rfl) rfl ?_
  refine st (s_extract rfl rfl) rfl ?_
  refine st (s_extract rfl rfl) rfl ?_
  refine a_allocS (T := 33) rfl rfl rfl (fun b28 => ?_)
  refine a_storeW 0 rfl rfl rfl rfl ?_
  refine st (s_assign rfl) rfl ?_
  refine Run.nil ?_
  refine pj_then ?_
  refine J_seq ?_
  refine J_seq ?_
  refine J_reg ?_
  refine st (s_loadW 3 rfl rfl) rfl ?_
  refine st (s_loadW 2 rfl rfl) rfl ?_
  refine st (sT (⟨rfl, rfl, rfl⟩) (s_callk (rSameF_ok _ _ _ _ _ _ (by (split <;> omega))) rfl ⟨VT.le_refl _, VT.le_refl _, trivial⟩)) rfl ?_
  refine st (s_not rfl) rfl ?_
  refine st (s_move rfl) rfl ?_
  refine sg1 rfl rfl (s_move rfl) rfl ?_
  refine sg1 rfl rfl (s_move rfl) rfl ?_
  refine sg1 rfl rfl (sF (fun h => h rfl) (s_ne rfl rfl)) rfl ?_
  refine st (s_pickF rfl rfl) rfl ?_
  refine st (s_move rfl) rfl ?_
  refine sg1 rfl rfl (s_loadW 1 rfl rfl) rfl ?_
  refine sg1 rfl rfl (s_loadW 0 rfl rfl) rfl ?_
  refine sg1 rfl rfl (sT (⟨rfl, rfl, rfl⟩) (s_callk (rSameF_ok _ _ _ _ _ _ (by (split <;> omega))) rfl ⟨VT.le_refl _, VT.le_refl _, trivial⟩)) rfl ?_
  refine sg1 rfl rfl (s_not rfl) rfl ?_
  refine st (s_pickF rfl rfl) rfl ?_
  refine st (s_move rfl) rfl ?_
  refine sg1 rfl rfl (s_move rfl) rfl ?_
  refine sg1 rfl rfl (s_move rfl) rfl ?_
  refine sg1 rfl rfl (sF (fun h => h rfl) (s_ne rfl rfl)) rfl ?_
  refine st (s_pickF rfl rfl) rfl ?_
  refine Run.nil ?_
  refine pj_then ?_
  refine J_cond0 rfl ?_
  refine J_skip ?_
  refine pj_then ?_
  refine J_seq ?_
  refine J_regd 38 mixed (by kernel_rfl) (by decide) ?_
  refine st (s_fieldAddr rfl) rfl ?_
  refine st (s_loadB 11 rfl rfl rfl) rfl ?_
  refine st (s_fieldAddr rfl) rfl ?_
  refine st (s_loadB 10 rfl rfl rfl) rfl ?_
  refine st (s_callk (hN ) rfl ⟨VT.le_refl _, VT.le_refl _, trivial⟩) rfl ?_
  refine st (s_fieldAddr rfl) rfl ?_
  refine st (s_loadB 11 rfl rfl rfl) rfl ?_
  refine st (s_fieldAddr rfl) rfl ?_
  refine st (s_loadB 10 rfl rfl rfl) rfl ?_
  refine st (s_callk (hN' ) rfl ⟨VT.le_refl _, VT.le_refl _, trivial⟩) rfl ?_
  refine st (sT (⟨rfl, rfl, rfl⟩) (s_callk (rSameF_ok _ _ _ _ _ _ (by omega)) rfl ⟨VT.le_refl _, VT.le_refl _, trivial⟩)) rfl ?_
  refine st (s_move rfl) rfl ?_
  refine sg1 rfl rfl (s_fieldAddr rfl) rfl ?_
  refine sg1 rfl rfl (s_loadB 11 rfl rfl rfl) rfl ?_
  refine sg1 rfl rfl (s_callk (Identity_ok _ (by omega)) rfl ⟨VT.le_refl _, trivial⟩) rfl ?_
  refine sg1 rfl rfl (s_fieldAddr rfl) rfl ?_
  refine sg1 rfl rfl (s_loadB 11 rfl rfl rfl) rfl ?_
  refine sg1 rfl rfl (s_callk (rIdentity_ok _ (by omega)) rfl ⟨VT.le_refl _, trivial⟩) rfl ?_
  refine sg1 rfl rfl (sT (⟨rfl, rfl, rfl⟩) (s_callk (rSameF_ok _ _ _ _ _ _ (by omega)) rfl ⟨VT.le_refl _, VT.le_refl _, trivial⟩)) rfl ?_
  refine st (s_pickT rfl rfl) rfl ?_
  refine st (s_move rfl) rfl ?_
  refine sg1 rfl rfl (s_loadW 11 rfl rfl) rfl ?_
  refine sg1 rfl rfl (s_move rfl) rfl ?_
  refine sg1 rfl rfl (s_callk (rOf_ok _ (by assumption) (by assumption)) rfl ⟨VT.le_refl _, trivial⟩) rfl ?_
  refine sg1 rfl rfl (s_callk (MScale_ok _ _ _ _ (by omega) (by omega) (by assumption) (by assumption)) rfl ⟨VT.le_refl _, VT.le_refl _, trivial⟩) rfl ?_
  refine sg1 rfl rfl (s_loadW 11 rfl rfl) rfl ?_
  refine sg1 rfl rfl (s_move rfl) rfl ?_
  refine sg1 rfl rfl (s_callk (rOf_ok _ (by assumption) (by assumption)) rfl ⟨VT.le_refl _, trivial⟩) rfl ?_
  refine sg1 rfl rfl (s_callk (rScale_ok _ _ _ _ (by omega) (by omega) (by assumption) (by assumption)) rfl ⟨VT.le_refl _, VT.le_refl _, trivial⟩) rfl ?_
  refine sg1 rfl rfl (sT (⟨rfl, rfl, tab_congr fun i j _ _ => Int.mul_comm _ _⟩) (s_callk (rSameF_ok _ _ _ _ _ _ (by omega)) rfl ⟨VT.le_refl _, VT.le_refl _, trivial⟩)) rfl ?_
  refine st (s_pickT rfl rfl) rfl ?_
  refine st (s_move rfl) rfl ?_
  refine sg1 rfl rfl (s_loadW 11 rfl rfl) rfl ?_
  refine sg1 rfl rfl (s_callk (Transpose_ok _ _ _ (by omega) (by omega) (by assumption)) rfl ⟨VT.le_refl _, trivial⟩) rfl ?_
  refine sg1 rfl rfl (s_loadW 11 rfl rfl) rfl ?_
  refine sg1 rfl rfl (s_callk (rTranspose_ok _ _ _ (by omega) (by omega)) rfl ⟨VT.le_refl _, trivial⟩) rfl ?_
  refine sg1 rfl rfl (sT (⟨rfl, rfl, rfl⟩) (s_callk (rSameF_ok _ _ _ _ _ _ (by omega)) rfl ⟨VT.le_refl _, VT.le_refl _, trivial⟩)) rfl ?_
  refine st (s_pickT rfl rfl) rfl ?_
  refine Run.nil ?_
  refine st (s_assign rfl) rfl ?_
  refine Run.nil ?_
  refine pj_then ?_
  refine J_seq ?_
  refine J_regd 19 mixed (by kernel_rfl) (by decide) ?_
  refine st (s_move rfl) rfl ?_
  refine st (s_move rfl) rfl ?_
  refine sg1 rfl rfl (s_loadW 11 rfl rfl) rfl ?_
  refine sg1 rfl rfl (s_loadW 10 rfl rfl) rfl ?_
  refine sg1 rfl rfl (s_callk (MEqualI_ok _ _ _ _ _ _ (by omega) (by omega)) rfl ⟨VT.le_refl _, VT.le_refl _, trivial⟩) rfl ?_
  refine sg1 rfl rfl (s_loadW 11 rfl rfl) rfl ?_
  refine sg1 rfl rfl (s_loadW 10 rfl rfl) rfl ?_
  refine sg1 rfl rfl (s_callk (rSameF_ok _ _ _ _ _ _ (by omega)) rfl ⟨VT.le_refl _, VT.le_refl _, trivial⟩) rfl ?_
  refine sg1 rfl rfl (sBt (beq_self_eq_true _) (s_eqB rfl rfl)) rfl ?_
  refine st (s_pickT rfl rfl) rfl ?_
  refine st (s_move rfl) rfl ?_
  refine sg1 rfl rfl (s_loadW 11 rfl rfl) rfl ?_
  refine sg1 rfl rfl (s_loadW 11 rfl rfl) rfl ?_
  refine sg1 rfl rfl (s_callk (rCopied_ok _ _ _ (by omega) (by omega) (by assumption)) rfl ⟨VT.le_refl _, trivial⟩) rfl ?_
  refine sg1 rfl rfl (sT (⟨rfl, rfl, rfl⟩) (s_callk (MEqualI_ok _ _ _ _ _ _ (by omega) (by omega)) rfl ⟨VT.le_refl _, VT.le_refl _, trivial⟩)) rfl ?_
  refine st (s_pickT rfl rfl) rfl ?_
  refine st (s_move rfl) rfl ?_
  refine sg1 rfl rfl (s_move rfl) rfl ?_
  refine st (s_pickT rfl rfl) rfl ?_
  refine Run.nil ?_
  refine st (s_assign rfl) rfl ?_
  refine Run.nil ?_
  refine pj_then ?_
  refine J_ret ?_
  refine retc1 Try.results9 (.tmp rfl (VT.le_refl _))
end Tor
end

section
set_option linter.unusedVariables false
set_option linter.unusedSimpArgs false
namespace Tor
open Go Go.RowKit Go.Proofs
theorem picksLawY_ok {p0 : Prop} (n0 n1 n2 n3 : Nat) (a b c rows cols : List Int) (y0 : p0) (y1 : (∀ x ∈ rows, IntKind.min .i8 ≤ x ∧ x ≤ IntKind.max .i8) ∧ True) (y2 : (∀ x ∈ cols, IntKind.min .i8 ≤ x ∧ x ≤ IntKind.max .i8) ∧ True) :
    Ok Try.prog 5 [threeT n0 n1 n2 n3 a b c, numT .i8 rows, numT .i8 cols] (one (.bool true)) :=
  picksLaw_ok n0 n1 n2 n3 a b c rows cols (fun x hx => y1.1 x hx) (fun x hx => y2.1 x hx)
theorem matchLawY_ok {p0 p1 : Prop} (r c : Nat) (l : List Int) (r' c' : Nat) (l' : List Int) (k : Int) (y0 : p0) (y1 : p1) (y2 : (IntKind.min .i64 ≤ k ∧ k ≤ IntKind.max .i64) ∧ True) : Ok Try.prog 9 [rawInT r c l, rawInT r' c' l', one (.int .i64 k)] (one (.bool true)) :=
  matchLaw_ok r c l r' c' l' k y2.1.1 y2.1.2
end Tor
end

section
set_option linter.unusedVariables false
set_option linter.unusedSimpArgs false
set_option maxRecDepth 100000
namespace Tor
open Go Go.RowKit Go.ChangeShapes Go.WideShapes Go.ChangeAt Go.Joins Go.Proofs
theorem rd_three {H : Type} {enc : TypeId × Value → H} {W : World} {base : Nat} {v : Value} {d : DataW H} {ps : List MemPlace} (hval : Value.okWide Try.prog W .any base 41 v) (hT : DataW.Trod enc Try.prog W 0 (fun _ => true) true 41 v d ps) (hw : ∀ x ∈ DataW.weights Try.prog 41 d, x ≤ reachBytes) :
    ∃ (n0 : Nat) (n1 : Nat) (n2 : Nat) (n3 : Nat) (a : List Int) (b : List Int) (c : List Int), (threeT n0 n1 n2 n3 a b c).p v (view W) ∧ (n0 : Int) ≤ IntKind.max .u8 ∧ (n1 : Int) ≤ IntKind.max .u8 ∧ (n2 : Int) ≤ IntKind.max .u8 ∧ (n3 : Int) ≤ IntKind.max .u8 ∧ (∀ x ∈ a, IntKind.min .i8 ≤ x ∧ x ≤ IntKind.max .i8) ∧ (∀ x ∈ b, IntKind.min .i8 ≤ x ∧ x ≤ IntKind.max .i8) ∧ (∀ x ∈ c, IntKind.min .i8 ≤ x ∧ x ≤ IntKind.max .i8) ∧ True := by
  obtain ⟨cs, rfl, h⟩ := arg_agg 8 (ts := [5, 5, 5, 5, 22, 22, 22]) (by kernel_rfl) (.inl ⟨_, Try.underlying41⟩) hval hT hw
  obtain ⟨c0, r0, rfl, h0, g0⟩ := h
  obtain ⟨c1, r1, rfl, h1, g1⟩ := g0
  obtain ⟨c2, r2, rfl, h2, g2⟩ := g1
  obtain ⟨c3, r3, rfl, h3, g3⟩ := g2
  obtain ⟨c4, r4, rfl, h4, g4⟩ := g3
  obtain ⟨c5, r5, rfl, h5, g5⟩ := g4
  obtain ⟨c6, r6, rfl, h6, g6⟩ := g5
  cases g6
  obtain ⟨n0, rfl, b0⟩ := leaf_nat Try.underlying5 rfl h0
  obtain ⟨n1, rfl, b1⟩ := leaf_nat Try.underlying5 rfl h1
  obtain ⟨n2, rfl, b2⟩ := leaf_nat Try.underlying5 rfl h2
  obtain ⟨n3, rfl, b3⟩ := leaf_nat Try.underlying5 rfl h3
  obtain ⟨a, k4, b4⟩ := leaf_nums Try.underlying22 Try.underlying25 (by kernel_rfl) (of_decide_eq_true (by kernel_rfl)) h4
  obtain ⟨b, k5, b5⟩ := leaf_nums Try.underlying22 Try.underlying25 (by kernel_rfl) (of_decide_eq_true (by kernel_rfl)) h5
  obtain ⟨c, k6, b6⟩ := leaf_nums Try.underlying22 Try.underlying25 (by kernel_rfl) (of_decide_eq_true (by kernel_rfl)) h6
  exact ⟨n0, n1, n2, n3, a, b, c, agg_p (φs := [one (.int .u8 n0), one (.int .u8 n1), one (.int .u8 n2), one (.int .u8 n3), numT .i8 a, numT .i8 b, numT .i8 c]) ⟨rfl, rfl, ⟨rfl, rfl, ⟨rfl, rfl, ⟨rfl, rfl, ⟨k4, slT_one k4, ⟨k5, slT_one k5, ⟨k6, slT_one k6, trivial⟩⟩⟩⟩⟩⟩⟩, b0, b1, b2, b3, b4, b5, b6, trivial⟩
theorem rd_raw {H : Type} {enc : TypeId × Value → H} {W : World} {base : Nat} {v : Value} {d : DataW H} {ps : List MemPlace} (hval : Value.okWide Try.prog W .any base 24 v) (hT : DataW.Trod enc Try.prog W 0 (fun _ => true) true 24 v d ps) (hw : ∀ x ∈ DataW.weights Try.prog 24 d, x ≤ reachBytes) :
    ∃ (r : Nat) (c : Nat) (l : List Int), (rawInT r c l).p v (view W) ∧ (r : Int) ≤ IntKind.max .u8 ∧ (c : Int) ≤ IntKind.max .u8 ∧ (∀ x ∈ l, IntKind.min .i8 ≤ x ∧ x ≤ IntKind.max .i8) ∧ True := by
  obtain ⟨cs, rfl, h⟩ := arg_agg 8 (ts := [5, 5, 22]) (by kernel_rfl) (.inl ⟨_, Try.underlying24⟩) hval hT hw
  obtain ⟨c0, r0, rfl, h0, g0⟩ := h
  obtain ⟨c1, r1, rfl, h1, g1⟩ := g0
  obtain ⟨c2, r2, rfl, h2, g2⟩ := g1
  cases g2
  obtain ⟨r, rfl, b0⟩ := leaf_nat Try.underlying5 rfl h0
  obtain ⟨c, rfl, b1⟩ := leaf_nat Try.underlying5 rfl h1
  obtain ⟨l, k2, b2⟩ := leaf_nums Try.underlying22 Try.underlying25 (by kernel_rfl) (of_decide_eq_true (by kernel_rfl)) h2
  exact ⟨r, c, l, agg_p (φs := [one (.int .u8 r), one (.int .u8 c), numT .i8 l]) ⟨rfl, rfl, ⟨rfl, rfl, ⟨k2, slT_one k2, trivial⟩⟩⟩, b0, b1, b2, trivial⟩
theorem rd_d8 {H : Type} {enc : TypeId × Value → H} {W : World} {base : Nat} {v : Value} {d : DataW H} {ps : List MemPlace} (hval : Value.okWide Try.prog W .any base 22 v) (hT : DataW.Trod enc Try.prog W 0 (fun _ => true) true 22 v d ps) (hw : ∀ x ∈ DataW.weights Try.prog 22 d, x ≤ reachBytes) :
    ∃ (d : List Int), (numT .i8 d).p v (view W) ∧ (∀ x ∈ d, IntKind.min .i8 ≤ x ∧ x ≤ IntKind.max .i8) ∧ True := by
  have h := arg_leaf (.inr (.inr ⟨_, Try.underlying22⟩)) hval hT hw
  obtain ⟨d, k0, b0⟩ := leaf_nums Try.underlying22 Try.underlying25 (by kernel_rfl) (of_decide_eq_true (by kernel_rfl)) h
  exact ⟨d, k0, b0, trivial⟩
theorem rd_k8 {H : Type} {enc : TypeId × Value → H} {W : World} {base : Nat} {v : Value} {d : DataW H} {ps : List MemPlace} (hval : Value.okWide Try.prog W .any base 5 v) (hT : DataW.Trod enc Try.prog W 0 (fun _ => true) true 5 v d ps) (hw : ∀ x ∈ DataW.weights Try.prog 5 d, x ≤ reachBytes) :
    ∃ (k : Nat), (one (.int .u8 k)).p v (view W) ∧ (k : Int) ≤ IntKind.max .u8 ∧ True := by
  have h := arg_leaf (.inl ⟨_, Try.underlying5⟩) hval hT hw
  obtain ⟨k, rfl, b0⟩ := leaf_nat Try.underlying5 rfl h
  exact ⟨k, rfl, b0, trivial⟩
theorem rd_k64 {H : Type} {enc : TypeId × Value → H} {W : World} {base : Nat} {v : Value} {d : DataW H} {ps : List MemPlace} (hval : Value.okWide Try.prog W .any base 2 v) (hT : DataW.Trod enc Try.prog W 0 (fun _ => true) true 2 v d ps) (hw : ∀ x ∈ DataW.weights Try.prog 2 d, x ≤ reachBytes) :
    ∃ (k : Int), (one (.int .i64 k)).p v (view W) ∧ (IntKind.min .i64 ≤ k ∧ k ≤ IntKind.max .i64) ∧ True := by
  have h := arg_leaf (.inl ⟨_, Try.underlying2⟩) hval hT hw
  obtain ⟨k, rfl, b0⟩ := leaf_int Try.underlying2 h
  exact ⟨k, rfl, b0, trivial⟩
end Tor
namespace Go.Proofs.Ytmpnikllhpagcaa
open Go.ChangeShapes Go.WideShapes Go.ChangeAt Go.RowKit Go.Joins Tor
theorem matrixBlocks_own : ownKnob Try.prog.godebug = none := by kernel_rfl
theorem matrixBlocks_laid : laidOutB Try.prog = true := by kernel_rfl
set_option maxRecDepth 100000 in
theorem matrixBlocks_lifted (os : Os) (started : os.Started) (H : Type) (enc : TypeId × Value → H) :
    ReturnsInHanded {} Try.checked os 4 .any (Rows.matrixBlocksSpec.pre6 enc Try.prog Try.f4 Rows.matrixBlocksRow.domain false) (Rows.matrixBlocksSpec.post enc Try.prog Try.f4 false true false false) := by
  refine returnsInHanded_of_change_sized (C := Try.checked) matrixBlocks_own started (by kernel_rfl) Try.func4
    (ChangeSpec.witness6 (enc := enc) (C := Try.checked) false ⟨#[], #[.agg #[.int .u8 0, .int .u8 0, .int .u8 0, .int .u8 0, .slice none 0 0, .slice none 0 0, .slice none 0 0], .slice none 0 0, .int .u8 0], []⟩ 8 (by kernel_rfl) (by kernel_rfl) (by kernel_rfl) (by kernel_rfl)) ?_
  intro W base args ds gs before hval0 hW hcnd hsz0 _
  have hval : ∀ (j : Nat) t v, Try.f4.params[j]? = some t → args[j]? = some v → Value.okWide Try.prog W .any base t v := hval0
  have hsz : (DataW.weightsEach Try.prog (Try.f4.params.toList ++ Rows.matrixBlocksSpec.plain.varTypes Try.prog) (ds ++ gs)).all (· ≤ reachBytes) = true := hsz0
  have hW' := hW
  obtain ⟨p, q, hA0, hV, rfl, hfz, hnd⟩ := hW
  have hA : DataW.TrodAll enc Try.prog W 0 (fun _ => true) true Try.f4.params.toList args.toList ds p := hA0
  rw [Try.params4] at hA hval hsz
  obtain ⟨v0, v1, v2, d0, d1, d2, p0, p1, p2, rfl, rfl, rfl, h0, h1, h2⟩ := trodAll_three hA
  obtain ⟨rfl, rfl⟩ := trodVars_none hV
  obtain ⟨n0_0, n1_0, n2_0, n3_0, a_0, b_0, c_0, x0, y0⟩ := rd_three (hval 0 41 _ rfl rfl) h0 (arg_weights hsz 0 rfl rfl)
  obtain ⟨d_1, x1, y1⟩ := rd_d8 (hval 1 22 _ rfl rfl) h1 (arg_weights hsz 1 rfl rfl)
  obtain ⟨k_2, x2, y2⟩ := rd_k8 (hval 2 5 _ rfl rfl) h2 (arg_weights hsz 2 rfl rfl)
  refine (Ok.outside (W := W) (args := #[v0, v1, v2]) (blocksLaw_ok n0_0 n1_0 n2_0 n3_0 a_0 b_0 c_0 d_1 k_2) (And.intro x0 (And.intro x1 (And.intro x2 (trivial))))).mono fun e W' ⟨v, he, hv, hw⟩ => ?_
  subst he
  have hv : v = .bool true := hv
  subst hv
  refine ⟨_, rfl, _, [], _, [], _, [], hW', trodAll_mk1 (shut_bool Try.underlying4 true), trodAll_mk3
    (Below.trod matrixBlocks_laid (by kernel_rfl) (of_decide_eq_true (by kernel_rfl)) h0 hw (fun x hx => by simpa using hW'.lt x (by simp only [List.mem_append] at hx ⊢; simp [hx])))
    (Below.trod matrixBlocks_laid (by kernel_rfl) (of_decide_eq_true (by kernel_rfl)) h1 hw (fun x hx => by simpa using hW'.lt x (by simp only [List.mem_append] at hx ⊢; simp [hx])))
    (Below.trod matrixBlocks_laid (by kernel_rfl) (of_decide_eq_true (by kernel_rfl)) h2 hw (fun x hx => by simpa using hW'.lt x (by simp only [List.mem_append] at hx ⊢; simp [hx]))), rfl, hw.frame _, fun h => by cases h⟩
theorem matrixBlocks_holds : Rows.MatrixBlocksSaid :=
  OpenClaim.holds_of_wide 4 Try.f4 rfl rfl rfl rfl rfl rfl rfl ⟨rfl, rfl, rfl, rfl, rfl⟩ rfl rfl rfl rfl rfl (by kernel_rfl) Try.func4 (by kernel_rfl)
    (of_decide_eq_true (by kernel_rfl)) (by unfold Func.isWrapper; first | (rw [if_pos (by decide +kernel)]; kernel_rfl) | (rw [if_neg (by decide +kernel)]; exact ⟨rfl, rfl⟩))
    (fun os started H enc _ => matrixBlocks_lifted os started H enc)
end Go.Proofs.Ytmpnikllhpagcaa
namespace Tor
end Tor
namespace Go.Proofs.Ytmpnikllhpagcaa
open Go.ChangeShapes Go.WideShapes Go.ChangeAt Go.RowKit Go.Joins Tor
theorem matrixPicks_own : ownKnob Try.prog.godebug = none := by kernel_rfl
theorem matrixPicks_laid : laidOutB Try.prog = true := by kernel_rfl
set_option maxRecDepth 100000 in
theorem matrixPicks_lifted (os : Os) (started : os.Started) (H : Type) (enc : TypeId × Value → H) :
    ReturnsInHanded {} Try.checked os 5 .any (Rows.matrixPicksSpec.pre6 enc Try.prog Try.f5 Rows.matrixPicksRow.domain false) (Rows.matrixPicksSpec.post enc Try.prog Try.f5 false true false false) := by
  refine returnsInHanded_of_change_sized (C := Try.checked) matrixPicks_own started (by kernel_rfl) Try.func5
    (ChangeSpec.witness6 (enc := enc) (C := Try.checked) false ⟨#[], #[.agg #[.int .u8 0, .int .u8 0, .int .u8 0, .int .u8 0, .slice none 0 0, .slice none 0 0, .slice none 0 0], .slice none 0 0, .slice none 0 0], []⟩ 8 (by kernel_rfl) (by kernel_rfl) (by kernel_rfl) (by kernel_rfl)) ?_
  intro W base args ds gs before hval0 hW hcnd hsz0 _
  have hval : ∀ (j : Nat) t v, Try.f5.params[j]? = some t → args[j]? = some v → Value.okWide Try.prog W .any base t v := hval0
  have hsz : (DataW.weightsEach Try.prog (Try.f5.params.toList ++ Rows.matrixPicksSpec.plain.varTypes Try.prog) (ds ++ gs)).all (· ≤ reachBytes) = true := hsz0
  have hW' := hW
  obtain ⟨p, q, hA0, hV, rfl, hfz, hnd⟩ := hW
  have hA : DataW.TrodAll enc Try.prog W 0 (fun _ => true) true Try.f5.params.toList args.toList ds p := hA0
  rw [Try.params5] at hA hval hsz
  obtain ⟨v0, v1, v2, d0, d1, d2, p0, p1, p2, rfl, rfl, rfl, h0, h1, h2⟩ := trodAll_three hA
  obtain ⟨rfl, rfl⟩ := trodVars_none hV
  obtain ⟨n0_0, n1_0, n2_0, n3_0, a_0, b_0, c_0, x0, y0⟩ := rd_three (hval 0 41 _ rfl rfl) h0 (arg_weights hsz 0 rfl rfl)
  obtain ⟨d_1, x1, y1⟩ := rd_d8 (hval 1 22 _ rfl rfl) h1 (arg_weights hsz 1 rfl rfl)
  obtain ⟨d_2, x2, y2⟩ := rd_d8 (hval 2 22 _ rfl rfl) h2 (arg_weights hsz 2 rfl rfl)
  refine (Ok.outside (W := W) (args := #[v0, v1, v2]) (picksLawY_ok n0_0 n1_0 n2_0 n3_0 a_0 b_0 c_0 d_1 d_2 y0 y1 y2) (And.intro x0 (And.intro x1 (And.intro x2 (trivial))))).mono fun e W' ⟨v, he, hv, hw⟩ => ?_
  subst he
  have hv : v = .bool true := hv
  subst hv
  refine ⟨_, rfl, _, [], _, [], _, [], hW', trodAll_mk1 (shut_bool Try.underlying4 true), trodAll_mk3
    (Below.trod matrixPicks_laid (by kernel_rfl) (of_decide_eq_true (by kernel_rfl)) h0 hw (fun x hx => by simpa using hW'.lt x (by simp only [List.mem_append] at hx ⊢; simp [hx])))
    (Below.trod matrixPicks_laid (by kernel_rfl) (of_decide_eq_true (by kernel_rfl)) h1 hw (fun x hx => by simpa using hW'.lt x (by simp only [List.mem_append] at hx ⊢; simp [hx])))
    (Below.trod matrixPicks_laid (by kernel_rfl) (of_decide_eq_true (by kernel_rfl)) h2 hw (fun x hx => by simpa using hW'.lt x (by simp only [List.mem_append] at hx ⊢; simp [hx]))), rfl, hw.frame _, fun h => by cases h⟩
theorem matrixPicks_holds : Rows.MatrixPicksSaid :=
  OpenClaim.holds_of_wide 5 Try.f5 rfl rfl rfl rfl rfl rfl rfl ⟨rfl, rfl, rfl, rfl, rfl⟩ rfl rfl rfl rfl rfl (by kernel_rfl) Try.func5 (by kernel_rfl)
    (of_decide_eq_true (by kernel_rfl)) (by unfold Func.isWrapper; first | (rw [if_pos (by decide +kernel)]; kernel_rfl) | (rw [if_neg (by decide +kernel)]; exact ⟨rfl, rfl⟩))
    (fun os started H enc _ => matrixPicks_lifted os started H enc)
end Go.Proofs.Ytmpnikllhpagcaa
namespace Tor
end Tor
namespace Go.Proofs.Ytmpnikllhpagcaa
open Go.ChangeShapes Go.WideShapes Go.ChangeAt Go.RowKit Go.Joins Tor
theorem matrixRows_own : ownKnob Try.prog.godebug = none := by kernel_rfl
theorem matrixRows_laid : laidOutB Try.prog = true := by kernel_rfl
set_option maxRecDepth 100000 in
theorem matrixRows_lifted (os : Os) (started : os.Started) (H : Type) (enc : TypeId × Value → H) :
    ReturnsInHanded {} Try.checked os 6 .any (Rows.matrixRowsSpec.pre6 enc Try.prog Try.f6 Rows.matrixRowsRow.domain false) (Rows.matrixRowsSpec.post enc Try.prog Try.f6 false true false false) := by
  refine returnsInHanded_of_change_sized (C := Try.checked) matrixRows_own started (by kernel_rfl) Try.func6
    (ChangeSpec.witness6 (enc := enc) (C := Try.checked) false ⟨#[], #[.agg #[.int .u8 0, .int .u8 0, .slice none 0 0], .slice none 0 0, .int .u8 0], []⟩ 8 (by kernel_rfl) (by kernel_rfl) (by kernel_rfl) (by kernel_rfl)) ?_
  intro W base args ds gs before hval0 hW hcnd hsz0 _
  have hval : ∀ (j : Nat) t v, Try.f6.params[j]? = some t → args[j]? = some v → Value.okWide Try.prog W .any base t v := hval0
  have hsz : (DataW.weightsEach Try.prog (Try.f6.params.toList ++ Rows.matrixRowsSpec.plain.varTypes Try.prog) (ds ++ gs)).all (· ≤ reachBytes) = true := hsz0
  have hW' := hW
  obtain ⟨p, q, hA0, hV, rfl, hfz, hnd⟩ := hW
  have hA : DataW.TrodAll enc Try.prog W 0 (fun _ => true) true Try.f6.params.toList args.toList ds p := hA0
  rw [Try.params6] at hA hval hsz
  obtain ⟨v0, v1, v2, d0, d1, d2, p0, p1, p2, rfl, rfl, rfl, h0, h1, h2⟩ := trodAll_three hA
  obtain ⟨rfl, rfl⟩ := trodVars_none hV
  obtain ⟨r_0, c_0, l_0, x0, y0⟩ := rd_raw (hval 0 24 _ rfl rfl) h0 (arg_weights hsz 0 rfl rfl)
  obtain ⟨d_1, x1, y1⟩ := rd_d8 (hval 1 22 _ rfl rfl) h1 (arg_weights hsz 1 rfl rfl)
  obtain ⟨k_2, x2, y2⟩ := rd_k8 (hval 2 5 _ rfl rfl) h2 (arg_weights hsz 2 rfl rfl)
  refine (Ok.outside (W := W) (args := #[v0, v1, v2]) (rowsLaw_ok r_0 c_0 l_0 d_1 k_2) (And.intro x0 (And.intro x1 (And.intro x2 (trivial))))).mono fun e W' ⟨v, he, hv, hw⟩ => ?_
  subst he
  have hv : v = .bool true := hv
  subst hv
  refine ⟨_, rfl, _, [], _, [], _, [], hW', trodAll_mk1 (shut_bool Try.underlying4 true), trodAll_mk3
    (Below.trod matrixRows_laid (by kernel_rfl) (of_decide_eq_true (by kernel_rfl)) h0 hw (fun x hx => by simpa using hW'.lt x (by simp only [List.mem_append] at hx ⊢; simp [hx])))
    (Below.trod matrixRows_laid (by kernel_rfl) (of_decide_eq_true (by kernel_rfl)) h1 hw (fun x hx => by simpa using hW'.lt x (by simp only [List.mem_append] at hx ⊢; simp [hx])))
    (Below.trod matrixRows_laid (by kernel_rfl) (of_decide_eq_true (by kernel_rfl)) h2 hw (fun x hx => by simpa using hW'.lt x (by simp only [List.mem_append] at hx ⊢; simp [hx]))), rfl, hw.frame _, fun h => by cases h⟩
theorem matrixRows_holds : Rows.MatrixRowsSaid :=
  OpenClaim.holds_of_wide 6 Try.f6 rfl rfl rfl rfl rfl rfl rfl ⟨rfl, rfl, rfl, rfl, rfl⟩ rfl rfl rfl rfl rfl (by kernel_rfl) Try.func6 (by kernel_rfl)
    (of_decide_eq_true (by kernel_rfl)) (by unfold Func.isWrapper; first | (rw [if_pos (by decide +kernel)]; kernel_rfl) | (rw [if_neg (by decide +kernel)]; exact ⟨rfl, rfl⟩))
    (fun os started H enc _ => matrixRows_lifted os started H enc)
end Go.Proofs.Ytmpnikllhpagcaa
namespace Tor
end Tor
namespace Go.Proofs.Ytmpnikllhpagcaa
open Go.ChangeShapes Go.WideShapes Go.ChangeAt Go.RowKit Go.Joins Tor
theorem matrixRing_own : ownKnob Try.prog.godebug = none := by kernel_rfl
theorem matrixRing_laid : laidOutB Try.prog = true := by kernel_rfl
set_option maxRecDepth 100000 in
theorem matrixRing_lifted (os : Os) (started : os.Started) (H : Type) (enc : TypeId × Value → H) :
    ReturnsInHanded {} Try.checked os 8 .any (Rows.matrixRingSpec.pre6 enc Try.prog Try.f8 Rows.matrixRingRow.domain false) (Rows.matrixRingSpec.post enc Try.prog Try.f8 false true false false) := by
  refine returnsInHanded_of_change_sized (C := Try.checked) matrixRing_own started (by kernel_rfl) Try.func8
    (ChangeSpec.witness6 (enc := enc) (C := Try.checked) false ⟨#[], #[.agg #[.int .u8 0, .int .u8 0, .int .u8 0, .int .u8 0, .slice none 0 0, .slice none 0 0, .slice none 0 0], .slice none 0 0], []⟩ 8 (by kernel_rfl) (by kernel_rfl) (by kernel_rfl) (by kernel_rfl)) ?_
  intro W base args ds gs before hval0 hW hcnd hsz0 _
  have hval : ∀ (j : Nat) t v, Try.f8.params[j]? = some t → args[j]? = some v → Value.okWide Try.prog W .any base t v := hval0
  have hsz : (DataW.weightsEach Try.prog (Try.f8.params.toList ++ Rows.matrixRingSpec.plain.varTypes Try.prog) (ds ++ gs)).all (· ≤ reachBytes) = true := hsz0
  have hW' := hW
  obtain ⟨p, q, hA0, hV, rfl, hfz, hnd⟩ := hW
  have hA : DataW.TrodAll enc Try.prog W 0 (fun _ => true) true Try.f8.params.toList args.toList ds p := hA0
  rw [Try.params8] at hA hval hsz
  obtain ⟨v0, v1, d0, d1, p0, p1, rfl, rfl, rfl, h0, h1⟩ := trodAll_two hA
  obtain ⟨rfl, rfl⟩ := trodVars_none hV
  obtain ⟨n0_0, n1_0, n2_0, n3_0, a_0, b_0, c_0, x0, y0⟩ := rd_three (hval 0 41 _ rfl rfl) h0 (arg_weights hsz 0 rfl rfl)
  obtain ⟨d_1, x1, y1⟩ := rd_d8 (hval 1 22 _ rfl rfl) h1 (arg_weights hsz 1 rfl rfl)
  refine (Ok.outside (W := W) (args := #[v0, v1]) (ringLaw_ok n0_0 n1_0 n2_0 n3_0 a_0 b_0 c_0 d_1) (And.intro x0 (And.intro x1 (trivial)))).mono fun e W' ⟨v, he, hv, hw⟩ => ?_
  subst he
  have hv : v = .bool true := hv
  subst hv
  refine ⟨_, rfl, _, [], _, [], _, [], hW', trodAll_mk1 (shut_bool Try.underlying4 true), trodAll_mk2
    (Below.trod matrixRing_laid (by kernel_rfl) (of_decide_eq_true (by kernel_rfl)) h0 hw (fun x hx => by simpa using hW'.lt x (by simp only [List.mem_append] at hx ⊢; simp [hx])))
    (Below.trod matrixRing_laid (by kernel_rfl) (of_decide_eq_true (by kernel_rfl)) h1 hw (fun x hx => by simpa using hW'.lt x (by simp only [List.mem_append] at hx ⊢; simp [hx]))), rfl, hw.frame _, fun h => by cases h⟩
theorem matrixRing_holds : Rows.MatrixRingSaid :=
  OpenClaim.holds_of_wide 8 Try.f8 rfl rfl rfl rfl rfl rfl rfl ⟨rfl, rfl, rfl, rfl, rfl⟩ rfl rfl rfl rfl rfl (by kernel_rfl) Try.func8 (by kernel_rfl)
    (of_decide_eq_true (by kernel_rfl)) (by unfold Func.isWrapper; first | (rw [if_pos (by decide +kernel)]; kernel_rfl) | (rw [if_neg (by decide +kernel)]; exact ⟨rfl, rfl⟩))
    (fun os started H enc _ => matrixRing_lifted os started H enc)
end Go.Proofs.Ytmpnikllhpagcaa
namespace Tor
end Tor
namespace Go.Proofs.Ytmpnikllhpagcaa
open Go.ChangeShapes Go.WideShapes Go.ChangeAt Go.RowKit Go.Joins Tor
theorem matrixMatchesReference_own : ownKnob Try.prog.godebug = none := by kernel_rfl
theorem matrixMatchesReference_laid : laidOutB Try.prog = true := by kernel_rfl
set_option maxRecDepth 100000 in
theorem matrixMatchesReference_lifted (os : Os) (started : os.Started) (H : Type) (enc : TypeId × Value → H) :
    ReturnsInHanded {} Try.checked os 9 .any (Rows.matrixMatchesReferenceSpec.pre6 enc Try.prog Try.f9 Rows.matrixMatchesReferenceRow.domain false) (Rows.matrixMatchesReferenceSpec.post enc Try.prog Try.f9 false true false false) := by
  refine returnsInHanded_of_change_sized (C := Try.checked) matrixMatchesReference_own started (by kernel_rfl) Try.func9
    (ChangeSpec.witness6 (enc := enc) (C := Try.checked) false ⟨#[], #[.agg #[.int .u8 0, .int .u8 0, .slice none 0 0], .agg #[.int .u8 0, .int .u8 0, .slice none 0 0], .int .i64 0], []⟩ 8 (by kernel_rfl) (by kernel_rfl) (by kernel_rfl) (by kernel_rfl)) ?_
  intro W base args ds gs before hval0 hW hcnd hsz0 _
  have hval : ∀ (j : Nat) t v, Try.f9.params[j]? = some t → args[j]? = some v → Value.okWide Try.prog W .any base t v := hval0
  have hsz : (DataW.weightsEach Try.prog (Try.f9.params.toList ++ Rows.matrixMatchesReferenceSpec.plain.varTypes Try.prog) (ds ++ gs)).all (· ≤ reachBytes) = true := hsz0
  have hW' := hW
  obtain ⟨p, q, hA0, hV, rfl, hfz, hnd⟩ := hW
  have hA : DataW.TrodAll enc Try.prog W 0 (fun _ => true) true Try.f9.params.toList args.toList ds p := hA0
  rw [Try.params9] at hA hval hsz
  obtain ⟨v0, v1, v2, d0, d1, d2, p0, p1, p2, rfl, rfl, rfl, h0, h1, h2⟩ := trodAll_three hA
  obtain ⟨rfl, rfl⟩ := trodVars_none hV
  obtain ⟨r_0, c_0, l_0, x0, y0⟩ := rd_raw (hval 0 24 _ rfl rfl) h0 (arg_weights hsz 0 rfl rfl)
  obtain ⟨r_1, c_1, l_1, x1, y1⟩ := rd_raw (hval 1 24 _ rfl rfl) h1 (arg_weights hsz 1 rfl rfl)
  obtain ⟨k_2, x2, y2⟩ := rd_k64 (hval 2 2 _ rfl rfl) h2 (arg_weights hsz 2 rfl rfl)
  refine (Ok.outside (W := W) (args := #[v0, v1, v2]) (matchLawY_ok r_0 c_0 l_0 r_1 c_1 l_1 k_2 y0 y1 y2) (And.intro x0 (And.intro x1 (And.intro x2 (trivial))))).mono fun e W' ⟨v, he, hv, hw⟩ => ?_
  subst he
  have hv : v = .bool true := hv
  subst hv
  refine ⟨_, rfl, _, [], _, [], _, [], hW', trodAll_mk1 (shut_bool Try.underlying4 true), trodAll_mk3
    (Below.trod matrixMatchesReference_laid (by kernel_rfl) (of_decide_eq_true (by kernel_rfl)) h0 hw (fun x hx => by simpa using hW'.lt x (by simp only [List.mem_append] at hx ⊢; simp [hx])))
    (Below.trod matrixMatchesReference_laid (by kernel_rfl) (of_decide_eq_true (by kernel_rfl)) h1 hw (fun x hx => by simpa using hW'.lt x (by simp only [List.mem_append] at hx ⊢; simp [hx])))
    (Below.trod matrixMatchesReference_laid (by kernel_rfl) (of_decide_eq_true (by kernel_rfl)) h2 hw (fun x hx => by simpa using hW'.lt x (by simp only [List.mem_append] at hx ⊢; simp [hx]))), rfl, hw.frame _, fun h => by cases h⟩
theorem matrixMatchesReference_holds : Rows.MatrixMatchesReferenceSaid :=
  OpenClaim.holds_of_wide 9 Try.f9 rfl rfl rfl rfl rfl rfl rfl ⟨rfl, rfl, rfl, rfl, rfl⟩ rfl rfl rfl rfl rfl (by kernel_rfl) Try.func9 (by kernel_rfl)
    (of_decide_eq_true (by kernel_rfl)) (by unfold Func.isWrapper; first | (rw [if_pos (by decide +kernel)]; kernel_rfl) | (rw [if_neg (by decide +kernel)]; exact ⟨rfl, rfl⟩))
    (fun os started H enc _ => matrixMatchesReference_lifted os started H enc)
end Go.Proofs.Ytmpnikllhpagcaa
namespace Tor
end Tor
end
