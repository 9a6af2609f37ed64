/-
  Theorems that the proofs of laws of this seat rest on.
  No condition.
-/
import Derived.Test.YtmpnikllhpagcaaZU3
section
set_option linter.unusedVariables false
set_option linter.unusedSimpArgs false
namespace Tor
open Go Go.RowKit Go.Proofs
/-- A number that is not too long. -/
def small (x : Int) : Prop := (digs x.natAbs).length ≤ 1099511627776
/-- Two matrices in a list. -/
def mat2T (φ ψ : VT) : VT := slT (.agg 3) 2 (fun i => if i = 0 then φ else ψ)
theorem two_mat2 {φ ψ : VT} : VT.le (slT (.agg 3) 2 (fun q => [φ, ψ].getD q anyT)) (mat2T φ ψ) := by
  unfold mat2T
  refine slT_le fun i hi => ?_
  rcases i with _ | _ | i
  · exact VT.le_refl _
  · exact VT.le_refl _
  · omega
instance {r c : Nat} {F : Nat → Nat → Int} : Flat (matF r c F) (.agg 3) := by unfold matF; infer_instance
attribute [local irreducible] Tor.J Tor.PJ Tor.StepO Tor.one Tor.slT Tor.ptrT Tor.aggT Tor.tupT Tor.exT Tor.andT Tor.gT Tor.eP Tor.boxO Tor.sliO Tor.slV Tor.VT.le Tor.Ret Tor.anyT
attribute [local irreducible] bigT matF
set_option maxHeartbeats 1000000 in
theorem matValidF_ok (r c : Nat) (F : Nat → Nat → Int) : Ok Try.prog 13 [matF r c F] (one (.bool true)) := by
  have h := matValid_ok r c (rawTab r c F)
  rw [validM_tab] at h
  exact h.le ⟨matF_raw r c F, trivial⟩ (VT.le_refl _)
set_option maxHeartbeats 1000000 in
theorem valid2_ok (ra ca : Nat) (F : Nat → Nat → Int) (rb cb : Nat) (G : Nat → Nat → Int) : Ok Try.prog 56 [mat2T (matF ra ca F) (matF rb cb G)] (one (.bool true)) := by
  unfold mat2T
  refine Ok.enter Try.func56 rfl Try.ntmps56 rfl (fun w O => ?_)
  refine J_seq ?_
  refine J_reg ?_
  refine st (s_assign rfl) rfl ?_
  refine Run.nil ?_
  refine pj_then ?_
  refine J_seq ?_
  refine J_seq ?_
  refine J_reg ?_
  refine st (s_move rfl) rfl ?_
  refine st (s_len rfl) rfl ?_
  refine st (s_move rfl) rfl ?_
  refine Run.nil ?_
  refine pj_then ?_
  refine J_block ?_
  refine J_loop (σ := Nat) (fun i => [(5, slT (.agg 3) 2 (fun i => if i = 0 then matF ra ca F else matF rb cb G)), (6, one (.int .i64 (2 : Nat))), (7, one (.int .i64 (i : Nat)))]) (fun _ => []) (fun i => i ≤ 2) (fun i => 2 - i) 0 (Nat.zero_le _) (by repeat (first | exact SubG.nil | refine SubG.cons rfl (VT.le_refl _) ?_ | (refine SubG.cons rfl (one_le ?_) ?_; (congr 1; first | omega | (simp; omega) | simp)))) (SubM.refl _) (fun i hi => ?_)
  refine J_seq ?_
  refine J_reg ?_
  refine st (s_lt rfl rfl) rfl ?_
  refine Run.nil ?_
  refine pj_then ?_
  refine J_seq ?_
  refine J_cond rfl (fun hc => ?_) (fun hc => ?_) <;> simp only [decide_eq_true_eq, decide_eq_false_iff_not, ne_eq, Decidable.not_not] at hc
  · have h2 : i < 2 := by omega
    have hF : Flat (if i = 0 then matF ra ca F else matF rb cb G) (.agg 3) := by split <;> infer_instance
    refine J_skip ?_
    refine pj_then ?_
    refine J_seq ?_
    refine J_block ?_
    refine J_seq ?_
    refine J_reg ?_
    (refine st (s_indexIN rfl rfl ?_) rfl ?_; omega)
    refine st (s_load rfl) rfl ?_
    refine a_allocS (T := 33) rfl rfl rfl (fun b => ?_)
    refine a_storeV 0 rfl rfl rfl rfl ?_
    refine Run.nil ?_
    refine pj_then ?_
    refine J_seq ?_
    refine J_reg ?_
    refine st (s_loadB 0 rfl rfl rfl) rfl ?_
    have hcall : Ok Try.prog 13 [if i = 0 then matF ra ca F else matF rb cb G] (one (.bool true)) := by
      split
      · exact matValidF_ok _ _ _
      · exact matValidF_ok _ _ _
    refine st (s_callk hcall rfl ⟨VT.le_refl _, trivial⟩) rfl ?_
    refine st (s_not rfl) rfl ?_
    refine Run.nil ?_
    refine pj_then ?_
    refine J_cond rfl (fun hc2 => ?_) (fun hc2 => ?_)
    · cases hc2
    · refine J_skip ?_
      refine pn_block ?_
      refine pj_then ?_
      refine J_reg ?_
      (refine st (s_add rfl rfl (wrap_i64 ?_ ?_)) rfl ?_; omega; omega)
      refine st (s_move rfl) rfl ?_
      refine Run.nil ?_
      exact pj_round (s := i) (i + 1) (show _ from by omega) (by show 2 - (i + 1) < 2 - i; omega) (by repeat (first | exact SubG.nil | refine SubG.cons rfl (VT.le_refl _) ?_ | (refine SubG.cons rfl (one_le ?_) ?_; (congr 1; first | omega | (simp; omega) | simp)))) (.drop .nil)
  · refine J_exit ?_
    refine px_then ?_
    refine px_then ?_
    refine px_block ?_
    refine pj_then ?_
    refine J_seq ?_
    refine J_reg ?_
    refine st (s_assign rfl) rfl ?_
    refine Run.nil ?_
    refine pj_then ?_
    refine J_ret ?_
    exact retc1 Try.results56 (.tmp rfl (VT.le_refl _))
set_option maxHeartbeats 1000000 in
theorem Clone_ok (l : List Nat) (hl : l.length ≤ 1099511627776) : Ok Try.prog 90 [limT l] (limT l) := by
  unfold limT
  refine Ok.enter Try.func90 rfl Try.ntmps90 rfl (fun w O => ?_)
  refine J_seq ?_
  refine J_reg ?_
  refine st (s_assign rfl) rfl ?_
  refine Run.nil ?_
  refine pj_then ?_
  refine J_seq ?_
  refine J_seq ?_
  refine J_reg ?_
  refine st (s_move rfl) rfl ?_
  refine st (s_eqNil rfl) rfl ?_
  refine Run.nil ?_
  refine pj_then ?_
  refine J_ex (t := 4) rfl (fun b => ?_)
  refine J_and (t := 4) rfl (fun hb => ?_)
  refine J_cond rfl (fun hc => ?_) (fun hc => ?_)
  · have h0 := hb hc
    refine J_seq ?_
    refine J_reg ?_
    refine st (s_assign rfl) rfl ?_
    refine Run.nil ?_
    refine pj_then ?_
    refine J_ret ?_
    refine pr_then ?_
    refine retc1 Try.results90 (.tmp rfl ?_)
    rw [h0]; exact nil_slT
  · refine J_skip ?_
    refine pj_then ?_
    refine J_seq ?_
    refine J_reg ?_
    refine stSO (n := 0) rfl rfl rfl rfl rfl ?_
    refine PartsK.nil (fun b => ?_)
    refine st (s_move rfl) rfl ?_
    (refine a_append 0 rfl rfl rfl (leN rfl) ?_ ?_ rfl (ltN rfl) (fun sv cap => ?_); omega; omega)
    refine st (s_assign rfl) rfl ?_
    refine Run.nil ?_
    refine pj_then ?_
    refine J_ret ?_
    refine PJ_freeze (t := 2) (i := 0) rfl rfl ?_
    refine retc1 Try.results90 (.tmp rfl (slT_le' (by simp) (fun i hi => by simp)))
end Tor
end

section
set_option linter.unusedVariables false
set_option linter.unusedSimpArgs false
namespace Tor
open Go Go.RowKit Go.Proofs
theorem small_lt {x : Int} (h : x.natAbs < 2 ^ 2048) : small x := by
  have : (digs x.natAbs).length ≤ 64 := digs_len_le (Nat.lt_of_lt_of_le h (by decide +kernel))
  unfold small; omega
theorem AddI_ok (x y : Int) (hx : small x) (hy : small y) : Ok Try.prog 70 [bigT x, bigT y] (bigT (x + y)) := by
  have h := Add_ok (decide (x < 0)) (decide (y < 0)) x.natAbs y.natAbs hx hy
  rw [sv_big, sv_big] at h
  exact h.le ⟨bigT_sg _, bigT_sg _, trivial⟩ (VT.le_refl _)
theorem SubI_ok (x y : Int) (hx : small x) (hy : small y) : Ok Try.prog 76 [bigT x, bigT y] (bigT (x - y)) := by
  have h := Sub_ok (decide (x < 0)) (decide (y < 0)) x.natAbs y.natAbs hx hy
  rw [sv_big, sv_big] at h
  exact h.le ⟨bigT_sg _, bigT_sg _, trivial⟩ (VT.le_refl _)
theorem MulI_ok (x y : Int) (hx : small x) (hy : small y) : Ok Try.prog 69 [bigT x, bigT y] (bigT (x * y)) := by
  have h := Mul_ok (decide (x < 0)) (decide (y < 0)) x.natAbs y.natAbs hx hy
  rw [sv_big, sv_big] at h
  exact h.le ⟨bigT_sg _, bigT_sg _, trivial⟩ (VT.le_refl _)
theorem SignI_ok (x : Int) : Ok Try.prog 72 [bigT x] (one (.int .i64 (sgnI x))) := by
  have h := Sign_ok (decide (x < 0)) x.natAbs
  rw [sv_big] at h
  exact h.le ⟨bigT_sg _, trivial⟩ (VT.le_refl _)
theorem CmpI_ok (x y : Int) : Ok Try.prog 83 [bigT x, bigT y] (one (.int .i64 (cmpI x y))) := by
  have h := Cmp_ok (decide (x < 0)) (decide (y < 0)) x.natAbs y.natAbs
  rw [sv_big, sv_big] at h
  exact h.le ⟨bigT_sg _, bigT_sg _, trivial⟩ (VT.le_refl _)
theorem rAddI_ok (x y : Int) (hx : small x) (hy : small y) : Ok Try.prog 61 [bigT x, bigT y] (bigT (x + y)) := by
  have h := rAdd_ok (decide (x < 0)) (decide (y < 0)) x.natAbs y.natAbs hx hy
  rw [sv_big, sv_big] at h
  exact h.le ⟨bigT_sg _, bigT_sg _, trivial⟩ (VT.le_refl _)
theorem rMulI_ok (x y : Int) (hx : small x) (hy : small y) : Ok Try.prog 77 [bigT x, bigT y] (bigT (x * y)) := by
  have h := rMul_ok (decide (x < 0)) (decide (y < 0)) x.natAbs y.natAbs hx hy
  rw [sv_big, sv_big] at h
  exact h.le ⟨bigT_sg _, bigT_sg _, trivial⟩ (VT.le_refl _)
attribute [local irreducible] Tor.J Tor.PJ Tor.StepO Tor.one Tor.slT Tor.ptrT Tor.aggT Tor.tupT Tor.exT Tor.andT Tor.gT Tor.eP Tor.boxO Tor.sliO Tor.slV Tor.VT.le Tor.Ret Tor.anyT
set_option maxHeartbeats 1000000 in
theorem own_ok (x : Int) (hx : small x) : Ok Try.prog 65 [bigT x] (bigT x) := by
  unfold bigT
  refine Ok.enter Try.func65 rfl Try.ntmps65 rfl (fun w O => ?_)
  refine J_seq ?_
  refine J_reg ?_
  refine a_boxS rfl rfl (ltN rfl) (fun b => ?_)
  refine a_alloc (T := 29) rfl (ltN rfl) (fun b => ?_)
  refine Run.nil ?_
  refine pj_then ?_
  refine J_seq ?_
  refine J_regd 6 mixed (by kernel_rfl) (by decide) ?_
  refine st (s_fieldAddr rfl) rfl ?_
  refine st (s_loadB 1 rfl rfl rfl) rfl ?_
  refine st (s_fieldAddr rfl) rfl ?_
  refine st (s_loadB 1 rfl rfl rfl) rfl ?_
  refine st (s_callk (Clone_ok _ hx) rfl ⟨VT.le_refl _, trivial⟩) rfl ?_
  refine stB rfl rfl rfl ?_
  refine BuildK.cons rfl rfl rfl ?_
  refine BuildK.cons rfl rfl rfl ?_
  refine BuildK.nil ?_
  refine Run.nil ?_
  refine a_storeB 0 rfl rfl rfl rfl rfl (leN rfl) rfl ?_
  refine Run.nil ?_
  refine pj_then ?_
  refine J_ret ?_
  refine retc1 Try.results65 (.cellB 0 rfl rfl rfl (VT.le_refl _))
attribute [local irreducible] bigT
set_option maxHeartbeats 2000000 in
theorem ownRow_ok (n m : Nat) (f g : Nat → Int) (hn : n ≤ 1048576) (hm : m ≤ 1048576) (hf : ∀ i, small (f i)) (hg : ∀ i, small (g i)) : Ok Try.prog 57 [rowF n f, rowF m g] (rowF (n + m) (fun k => if k < n then f k else g (k - n))) := by
  unfold rowF
  refine Ok.enter Try.func57 rfl Try.ntmps57 rfl (fun w O => ?_)
  refine J_seq ?_
  refine J_reg ?_
  refine st (s_assign rfl) rfl ?_
  refine Run.nil ?_
  refine pj_then ?_
  refine J_seq ?_
  refine J_reg ?_
  refine st (s_move rfl) rfl ?_
  refine st (s_len rfl) rfl ?_
  refine st (s_move rfl) rfl ?_
  refine st (s_len rfl) rfl ?_
  (refine st (s_add rfl rfl (wrap_i64 ?_ ?_)) rfl ?_; omega; omega)
  refine a_makeSlice 0 (n + m) rfl rfl rfl (by simp) (Nat.zero_le _) rfl rfl (by omega) rfl rfl (fun bz => ?_)
  refine st (s_assign rfl) rfl ?_
  refine Run.nil ?_
  refine pj_then ?_
  refine J_seq ?_
  refine J_seq ?_
  refine J_reg ?_
  refine st (s_move rfl) rfl ?_
  refine st (s_len rfl) rfl ?_
  refine st (s_move rfl) rfl ?_
  refine Run.nil ?_
  refine pj_then ?_
  refine J_block ?_
  refine J_loop (σ := Nat × Option Nat × Nat) (fun s => [(1, slT (.agg 2) m (fun j => bigT (g j))), (5, one (slV s.2.1 s.1 s.2.2)), (16, slT (.agg 2) n (fun j => bigT (f j))), (17, one (.int .i64 n)), (18, one (.int .i64 (s.1 : Nat)))])
    (fun s => [sliO s.2.1 29 (.agg 2) s.2.2 s.1 (fun q => bigT (f q))]) (fun s => s.1 ≤ n) (fun s => n - s.1) (0, some bz, n + m) (Nat.zero_le _) (by repeat (first | exact SubG.nil | refine SubG.cons rfl (VT.le_refl _) ?_ | (refine SubG.cons rfl (one_le ?_) ?_; (congr 1; first | omega | (simp; omega) | simp)))) (.keep (sliO_eq fun q hq => by omega) .nil) (fun s hs => ?_)
  obtain ⟨k, sv0, cap0⟩ := s
  simp only at hs ⊢
  refine J_seq ?_
  refine J_reg ?_
  refine st (s_lt rfl rfl) rfl ?_
  refine Run.nil ?_
  refine pj_then ?_
  refine J_seq ?_
  refine J_cond rfl (fun hc => ?_) (fun hc => ?_) <;> simp only [decide_eq_true_eq, decide_eq_false_iff_not, ne_eq, Decidable.not_not] at hc
  · refine J_skip ?_
    refine pj_then ?_
    refine J_seq ?_
    refine J_block ?_
    refine J_seq ?_
    refine J_reg ?_
    (refine st (s_indexIN rfl rfl ?_) rfl ?_; omega)
    refine st (s_load rfl) rfl ?_
    refine a_alloc (T := 29) rfl (ltN rfl) (fun b => ?_)
    refine a_storeB 0 rfl rfl rfl rfl rfl (leN rfl) rfl ?_
    refine Run.nil ?_
    refine pj_then ?_
    refine J_reg ?_
    refine st (s_move rfl) rfl ?_
    refine st (s_loadB 0 rfl rfl rfl) rfl ?_
    refine st (s_callk (own_ok (f k) (hf k)) rfl ⟨VT.le_refl _, trivial⟩) rfl ?_
    refine stS1 rfl rfl rfl rfl ?_
    (refine a_append 1 rfl rfl rfl (leN rfl) ?_ ?_ rfl (ltN rfl) (fun sv cap => ?_); omega; omega)
    refine st (s_assign rfl) rfl ?_
    refine Run.nil ?_
    refine pn_block ?_
    refine pj_then ?_
    refine J_reg ?_
    (refine st (s_add rfl rfl (wrap_i64 ?_ ?_)) rfl ?_; omega; omega)
    refine st (s_move rfl) rfl ?_
    refine Run.nil ?_
    refine pj_round (s := (k, sv0, cap0)) (k + 1, sv, cap) (show _ from by simp only; omega) (by show n - (k + 1) < n - k; omega) (by repeat (first | exact SubG.nil | refine SubG.cons rfl (VT.le_refl _) ?_ | (refine SubG.cons rfl (one_le ?_) ?_; (congr 1; first | omega | (simp; omega) | simp)))) (.drop (.keep (sliO_eq fun q hq => ?_) .nil))
    by_cases h : q < k
    · rw [if_pos h]
    · have : q = k := by omega
      subst this; rw [if_neg h]
  · have hk : k = n := by omega
    subst hk
    refine J_exit ?_
    refine px_then ?_
    refine px_then ?_
    refine px_block ?_
    refine pj_then ?_
    refine J_seq ?_
    refine J_seq ?_
    refine J_reg ?_
    refine st (s_move rfl) rfl ?_
    refine st (s_len rfl) rfl ?_
    refine st (s_move rfl) rfl ?_
    refine Run.nil ?_
    refine pj_then ?_
    refine J_block ?_
    refine J_loop (σ := Nat × Option Nat × Nat) (fun s => [(5, one (slV s.2.1 (k + s.1) s.2.2)), (28, slT (.agg 2) m (fun j => bigT (g j))), (29, one (.int .i64 m)), (30, one (.int .i64 (s.1 : Nat)))])
      (fun s => [sliO s.2.1 29 (.agg 2) s.2.2 (k + s.1) (fun q => bigT (if q < k then f q else g (q - k)))]) (fun s => s.1 ≤ m) (fun s => m - s.1) (0, sv0, cap0) (Nat.zero_le _) (by repeat (first | exact SubG.nil | refine SubG.cons rfl (VT.le_refl _) ?_ | (refine SubG.cons rfl (one_le ?_) ?_; (congr 1; first | omega | (simp; omega) | simp)))) (.keep (sliO_eq fun q hq => by rw [if_pos hq]) .nil) (fun s hs => ?_)
    obtain ⟨j, sv1, cap1⟩ := s
    simp only at hs ⊢
    refine J_seq ?_
    refine J_reg ?_
    refine st (s_lt rfl rfl) rfl ?_
    refine Run.nil ?_
    refine pj_then ?_
    refine J_seq ?_
    refine J_cond rfl (fun hc2 => ?_) (fun hc2 => ?_) <;> simp only [decide_eq_true_eq, decide_eq_false_iff_not] at hc2
    · refine J_skip ?_
      refine pj_then ?_
      refine J_seq ?_
      refine J_block ?_
      refine J_seq ?_
      refine J_reg ?_
      (refine st (s_indexIN rfl rfl ?_) rfl ?_; omega)
      refine st (s_load rfl) rfl ?_
      refine a_alloc (T := 29) rfl (ltN rfl) (fun b => ?_)
      refine a_storeB 0 rfl rfl rfl rfl rfl (leN rfl) rfl ?_
      refine Run.nil ?_
      refine pj_then ?_
      refine J_reg ?_
      refine st (s_move rfl) rfl ?_
      refine st (s_loadB 0 rfl rfl rfl) rfl ?_
      refine st (s_callk (own_ok (g j) (hg j)) rfl ⟨VT.le_refl _, trivial⟩) rfl ?_
      refine stS1 rfl rfl rfl rfl ?_
      (refine a_append 1 rfl rfl rfl (leN rfl) ?_ ?_ rfl (ltN rfl) (fun sv cap => ?_); omega; omega)
      refine st (s_assign rfl) rfl ?_
      refine Run.nil ?_
      refine pn_block ?_
      refine pj_then ?_
      refine J_reg ?_
      (refine st (s_add rfl rfl (wrap_i64 ?_ ?_)) rfl ?_; omega; omega)
      refine st (s_move rfl) rfl ?_
      refine Run.nil ?_
      refine pj_round (s := (j, sv1, cap1)) (j + 1, sv, cap) (show _ from by simp only; omega) (by show m - (j + 1) < m - j; omega) (by repeat (first | exact SubG.nil | refine SubG.cons rfl (VT.le_refl _) ?_ | (refine SubG.cons rfl (one_le ?_) ?_; (congr 1; first | omega | (simp; omega) | simp)))) (.drop (.keep (sliO_eq fun q hq => ?_) .nil))
      by_cases h : q < k + j
      · rw [if_pos h]
      · have : q = k + j := by omega
        subst this; rw [if_neg h, if_neg (by omega)]; simp
    · have hk : j = m := by omega
      subst hk
      refine J_exit ?_
      refine px_then ?_
      refine px_then ?_
      refine px_block ?_
      refine pj_then ?_
      refine J_seq ?_
      refine J_reg ?_
      refine st (s_move rfl) rfl ?_
      refine st (s_assign rfl) rfl ?_
      refine Run.nil ?_
      refine pj_then ?_
      refine J_ret ?_
      refine PJ_freeze (t := 4) (i := 0) rfl rfl ?_
      refine retc1 Try.results57 (.tmp rfl (VT.le_refl _))
end Tor
end

section
set_option linter.unusedVariables false
set_option linter.unusedSimpArgs false
namespace Tor
open Go Go.RowKit Go.Proofs
theorem le_any (φ : VT) : VT.le φ anyT := fun _ _ _ => trivial
attribute [local irreducible] Tor.J Tor.PJ Tor.StepO Tor.one Tor.slT Tor.ptrT Tor.aggT Tor.tupT Tor.exT Tor.andT Tor.gT Tor.eP Tor.boxO Tor.sliO Tor.slV Tor.VT.le Tor.Ret Tor.anyT
set_option maxHeartbeats 1000000 in
theorem combI_ok (n : Nat) (φ ψ χ : Nat → VT) [hF : ∀ i, Flat (χ i) (.agg 2)] (cl : VT) (hn : n ≤ 1048576) (hC : ∀ i, i < n → Callable Try.prog cl [φ i, ψ i] (χ i)) : Ok Try.prog 68 [slT (.agg 2) n φ, slT (.agg 2) n ψ, cl] (slT (.agg 2) n χ) := by
  refine Ok.enter Try.func68 rfl Try.ntmps68 rfl (fun w O => ?_)
  refine J_seq ?_
  refine J_reg ?_
  refine st (s_assign rfl) rfl ?_
  refine Run.nil ?_
  refine pj_then ?_
  refine J_seq ?_
  refine J_reg ?_
  refine st (s_move rfl) rfl ?_
  refine st (s_len rfl) rfl ?_
  refine a_makeSlice n n rfl rfl rfl rfl (Nat.le_refl _) rfl rfl (by omega) rfl rfl (fun bz => ?_)
  refine st (s_assign rfl) rfl ?_
  refine Run.nil ?_
  refine pj_then ?_
  refine J_seq ?_
  refine J_seq ?_
  refine J_reg ?_
  refine st (s_move rfl) rfl ?_
  refine st (s_lenO rfl) rfl ?_
  refine st (s_move rfl) rfl ?_
  refine Run.nil ?_
  refine pj_then ?_
  refine J_block ?_
  refine J_loop (σ := Nat) (fun i => [(0, slT (.agg 2) n φ), (1, slT (.agg 2) n ψ), (2, cl), (7, one (slV (some bz) n n)), (13, one (.int .i64 n)), (14, one (.int .i64 (i : Nat)))])
    (fun i => [sliO (some bz) 29 (.agg 2) n n (fun q => if q < i then χ q else anyT)]) (fun i => i ≤ n) (fun i => n - i) 0 (Nat.zero_le _) (by repeat (first | exact SubG.nil | refine SubG.cons rfl (VT.le_refl _) ?_ | (refine SubG.cons rfl (one_le ?_) ?_; (congr 1; first | omega | (simp; omega) | simp)))) (.keep (sliO_le fun q hq => by rw [if_neg (by omega)]; exact le_any _) .nil) (fun i hi => ?_)
  refine J_seq ?_
  refine J_reg ?_
  refine st (s_lt rfl rfl) rfl ?_
  refine Run.nil ?_
  refine pj_then ?_
  refine J_seq ?_
  refine J_cond rfl (fun hc => ?_) (fun hc => ?_) <;> simp only [decide_eq_true_eq, decide_eq_false_iff_not, ne_eq, Decidable.not_not] at hc
  · refine J_skip ?_
    refine pj_then ?_
    refine J_seq ?_
    refine J_block ?_
    refine J_seq ?_
    refine J_reg ?_
    refine st (s_move rfl) rfl ?_
    refine st (s_assign rfl) rfl ?_
    refine Run.nil ?_
    refine pj_then ?_
    refine J_regd 13 mixed (by kernel_rfl) (by decide) ?_
    refine st (s_move rfl) rfl ?_
    refine st (s_move rfl) rfl ?_
    refine st (s_move rfl) rfl ?_
    refine st (s_move rfl) rfl ?_
    refine st (s_move rfl) rfl ?_
    (refine st (s_indexIN rfl rfl ?_) rfl ?_; omega)
    refine st (s_load rfl) rfl ?_
    refine st (s_move rfl) rfl ?_
    refine st (s_move rfl) rfl ?_
    (refine st (s_indexIN rfl rfl ?_) rfl ?_; omega)
    refine st (s_load rfl) rfl ?_
    refine st (s_callF (hC i (by omega)) rfl rfl ⟨VT.le_refl _, VT.le_refl _, trivial⟩) rfl ?_
    (refine st (s_indexON rfl rfl ?_) rfl ?_; omega)
    refine Run.nil ?_
    (refine a_storeE 0 rfl rfl rfl ?_ rfl ?_; omega)
    refine Run.nil ?_
    refine pn_block ?_
    refine pj_then ?_
    refine J_reg ?_
    (refine st (s_add rfl rfl (wrap_i64 ?_ ?_)) rfl ?_; omega; omega)
    refine st (s_move rfl) rfl ?_
    refine Run.nil ?_
    refine pj_round (s := i) (i + 1) (show _ from by omega) (by show n - (i + 1) < n - i; omega) (by repeat (first | exact SubG.nil | refine SubG.cons rfl (VT.le_refl _) ?_ | (refine SubG.cons rfl (one_le ?_) ?_; (congr 1; first | omega | (simp; omega) | simp)))) (.keep (sliO_eq fun q hq => ?_) .nil)
    unfold upd
    by_cases h : q = i
    · subst h; rw [if_pos rfl, if_pos (by omega)]
    · rw [if_neg h]
      have e : q < i + 1 ↔ q < i := by omega
      simp only [e]
  · have hk : i = n := by omega
    subst hk
    refine J_exit ?_
    refine px_then ?_
    refine px_then ?_
    refine px_block ?_
    refine pj_then ?_
    refine J_seq ?_
    refine J_reg ?_
    refine st (s_move rfl) rfl ?_
    refine st (s_assign rfl) rfl ?_
    refine Run.nil ?_
    refine pj_then ?_
    refine J_ret ?_
    refine PJ_freeze (t := 6) (i := 0) rfl rfl ?_
    refine retc1 Try.results68 (.tmp rfl (slT_le fun q hq => ?_))
    rw [if_pos hq]; exact VT.le_refl _
set_option maxHeartbeats 1000000 in
theorem combR_ok (n : Nat) (φ ψ χ : Nat → VT) [hF : ∀ i, Flat (χ i) .one] (cl : VT) (hn : n ≤ 1048576) (hC : ∀ i, i < n → Callable Try.prog cl [φ i, ψ i] (χ i)) : Ok Try.prog 58 [slT .one n φ, slT .one n ψ, cl] (slT .one n χ) := by
  refine Ok.enter Try.func58 rfl Try.ntmps58 rfl (fun w O => ?_)
  refine J_seq ?_
  refine J_reg ?_
  refine st (s_assign rfl) rfl ?_
  refine Run.nil ?_
  refine pj_then ?_
  refine J_seq ?_
  refine J_reg ?_
  refine st (s_move rfl) rfl ?_
  refine st (s_len rfl) rfl ?_
  refine a_makeSlice n n rfl rfl rfl rfl (Nat.le_refl _) rfl rfl (by omega) rfl rfl (fun bz => ?_)
  refine st (s_assign rfl) rfl ?_
  refine Run.nil ?_
  refine pj_then ?_
  refine J_seq ?_
  refine J_seq ?_
  refine J_reg ?_
  refine st (s_move rfl) rfl ?_
  refine st (s_lenO rfl) rfl ?_
  refine st (s_move rfl) rfl ?_
  refine Run.nil ?_
  refine pj_then ?_
  refine J_block ?_
  refine J_loop (σ := Nat) (fun i => [(0, slT .one n φ), (1, slT .one n ψ), (2, cl), (7, one (slV (some bz) n n)), (13, one (.int .i64 n)), (14, one (.int .i64 (i : Nat)))])
    (fun i => [sliO (some bz) 35 .one n n (fun q => if q < i then χ q else anyT)]) (fun i => i ≤ n) (fun i => n - i) 0 (Nat.zero_le _) (by repeat (first | exact SubG.nil | refine SubG.cons rfl (VT.le_refl _) ?_ | (refine SubG.cons rfl (one_le ?_) ?_; (congr 1; first | omega | (simp; omega) | simp)))) (.keep (sliO_le fun q hq => by rw [if_neg (by omega)]; exact le_any _) .nil) (fun i hi => ?_)
  refine J_seq ?_
  refine J_reg ?_
  refine st (s_lt rfl rfl) rfl ?_
  refine Run.nil ?_
  refine pj_then ?_
  refine J_seq ?_
  refine J_cond rfl (fun hc => ?_) (fun hc => ?_) <;> simp only [decide_eq_true_eq, decide_eq_false_iff_not, ne_eq, Decidable.not_not] at hc
  · refine J_skip ?_
    refine pj_then ?_
    refine J_seq ?_
    refine J_block ?_
    refine J_seq ?_
    refine J_reg ?_
    refine st (s_move rfl) rfl ?_
    refine st (s_assign rfl) rfl ?_
    refine Run.nil ?_
    refine pj_then ?_
    refine J_regd 13 mixed (by kernel_rfl) (by decide) ?_
    refine st (s_move rfl) rfl ?_
    refine st (s_move rfl) rfl ?_
    refine st (s_move rfl) rfl ?_
    refine st (s_move rfl) rfl ?_
    refine st (s_move rfl) rfl ?_
    (refine st (s_indexIN rfl rfl ?_) rfl ?_; omega)
    refine st (s_load rfl) rfl ?_
    refine st (s_move rfl) rfl ?_
    refine st (s_move rfl) rfl ?_
    (refine st (s_indexIN rfl rfl ?_) rfl ?_; omega)
    refine st (s_load rfl) rfl ?_
    refine st (s_callF (hC i (by omega)) rfl rfl ⟨VT.le_refl _, VT.le_refl _, trivial⟩) rfl ?_
    (refine st (s_indexON rfl rfl ?_) rfl ?_; omega)
    refine Run.nil ?_
    (refine a_storeE 0 rfl rfl rfl ?_ rfl ?_; omega)
    refine Run.nil ?_
    refine pn_block ?_
    refine pj_then ?_
    refine J_reg ?_
    (refine st (s_add rfl rfl (wrap_i64 ?_ ?_)) rfl ?_; omega; omega)
    refine st (s_move rfl) rfl ?_
    refine Run.nil ?_
    refine pj_round (s := i) (i + 1) (show _ from by omega) (by show n - (i + 1) < n - i; omega) (by repeat (first | exact SubG.nil | refine SubG.cons rfl (VT.le_refl _) ?_ | (refine SubG.cons rfl (one_le ?_) ?_; (congr 1; first | omega | (simp; omega) | simp)))) (.keep (sliO_eq fun q hq => ?_) .nil)
    unfold upd
    by_cases h : q = i
    · subst h; rw [if_pos rfl, if_pos (by omega)]
    · rw [if_neg h]
      have e : q < i + 1 ↔ q < i := by omega
      simp only [e]
  · have hk : i = n := by omega
    subst hk
    refine J_exit ?_
    refine px_then ?_
    refine px_then ?_
    refine px_block ?_
    refine pj_then ?_
    refine J_seq ?_
    refine J_reg ?_
    refine st (s_move rfl) rfl ?_
    refine st (s_assign rfl) rfl ?_
    refine Run.nil ?_
    refine pj_then ?_
    refine J_ret ?_
    refine PJ_freeze (t := 6) (i := 0) rfl rfl ?_
    refine retc1 Try.results58 (.tmp rfl (slT_le fun q hq => ?_))
    rw [if_pos hq]; exact VT.le_refl _
set_option maxHeartbeats 1000000 in
theorem combB_ok (n : Nat) (φ ψ χ : Nat → VT) [hF : ∀ i, Flat (χ i) .one] (cl : VT) (hn : n ≤ 1048576) (hC : ∀ i, i < n → Callable Try.prog cl [φ i, ψ i] (χ i)) : Ok Try.prog 85 [slT (.agg 2) n φ, slT (.agg 2) n ψ, cl] (slT .one n χ) := by
  refine Ok.enter Try.func85 rfl Try.ntmps85 rfl (fun w O => ?_)
  refine J_seq ?_
  refine J_reg ?_
  refine st (s_assign rfl) rfl ?_
  refine Run.nil ?_
  refine pj_then ?_
  refine J_seq ?_
  refine J_reg ?_
  refine st (s_move rfl) rfl ?_
  refine st (s_len rfl) rfl ?_
  refine a_makeSlice n n rfl rfl rfl rfl (Nat.le_refl _) rfl rfl (by omega) rfl rfl (fun bz => ?_)
  refine st (s_assign rfl) rfl ?_
  refine Run.nil ?_
  refine pj_then ?_
  refine J_seq ?_
  refine J_seq ?_
  refine J_reg ?_
  refine st (s_move rfl) rfl ?_
  refine st (s_lenO rfl) rfl ?_
  refine st (s_move rfl) rfl ?_
  refine Run.nil ?_
  refine pj_then ?_
  refine J_block ?_
  refine J_loop (σ := Nat) (fun i => [(0, slT (.agg 2) n φ), (1, slT (.agg 2) n ψ), (2, cl), (7, one (slV (some bz) n n)), (13, one (.int .i64 n)), (14, one (.int .i64 (i : Nat)))])
    (fun i => [sliO (some bz) 4 .one n n (fun q => if q < i then χ q else anyT)]) (fun i => i ≤ n) (fun i => n - i) 0 (Nat.zero_le _) (by repeat (first | exact SubG.nil | refine SubG.cons rfl (VT.le_refl _) ?_ | (refine SubG.cons rfl (one_le ?_) ?_; (congr 1; first | omega | (simp; omega) | simp)))) (.keep (sliO_le fun q hq => by rw [if_neg (by omega)]; exact le_any _) .nil) (fun i hi => ?_)
  refine J_seq ?_
  refine J_reg ?_
  refine st (s_lt rfl rfl) rfl ?_
  refine Run.nil ?_
  refine pj_then ?_
  refine J_seq ?_
  refine J_cond rfl (fun hc => ?_) (fun hc => ?_) <;> simp only [decide_eq_true_eq, decide_eq_false_iff_not, ne_eq, Decidable.not_not] at hc
  · refine J_skip ?_
    refine pj_then ?_
    refine J_seq ?_
    refine J_block ?_
    refine J_seq ?_
    refine J_reg ?_
    refine st (s_move rfl) rfl ?_
    refine st (s_assign rfl) rfl ?_
    refine Run.nil ?_
    refine pj_then ?_
    refine J_regd 13 mixed (by kernel_rfl) (by decide) ?_
    refine st (s_move rfl) rfl ?_
    refine st (s_move rfl) rfl ?_
    refine st (s_move rfl) rfl ?_
    refine st (s_move rfl) rfl ?_
    refine st (s_move rfl) rfl ?_
    (refine st (s_indexIN rfl rfl ?_) rfl ?_; omega)
    refine st (s_load rfl) rfl ?_
    refine st (s_move rfl) rfl ?_
    refine st (s_move rfl) rfl ?_
    (refine st (s_indexIN rfl rfl ?_) rfl ?_; omega)
    refine st (s_load rfl) rfl ?_
    refine st (s_callF (hC i (by omega)) rfl rfl ⟨VT.le_refl _, VT.le_refl _, trivial⟩) rfl ?_
    (refine st (s_indexON rfl rfl ?_) rfl ?_; omega)
    refine Run.nil ?_
    (refine a_storeE 0 rfl rfl rfl ?_ rfl ?_; omega)
    refine Run.nil ?_
    refine pn_block ?_
    refine pj_then ?_
    refine J_reg ?_
    (refine st (s_add rfl rfl (wrap_i64 ?_ ?_)) rfl ?_; omega; omega)
    refine st (s_move rfl) rfl ?_
    refine Run.nil ?_
    refine pj_round (s := i) (i + 1) (show _ from by omega) (by show n - (i + 1) < n - i; omega) (by repeat (first | exact SubG.nil | refine SubG.cons rfl (VT.le_refl _) ?_ | (refine SubG.cons rfl (one_le ?_) ?_; (congr 1; first | omega | (simp; omega) | simp)))) (.keep (sliO_eq fun q hq => ?_) .nil)
    unfold upd
    by_cases h : q = i
    · subst h; rw [if_pos rfl, if_pos (by omega)]
    · rw [if_neg h]
      have e : q < i + 1 ↔ q < i := by omega
      simp only [e]
  · have hk : i = n := by omega
    subst hk
    refine J_exit ?_
    refine px_then ?_
    refine px_then ?_
    refine px_block ?_
    refine pj_then ?_
    refine J_seq ?_
    refine J_reg ?_
    refine st (s_move rfl) rfl ?_
    refine st (s_assign rfl) rfl ?_
    refine Run.nil ?_
    refine pj_then ?_
    refine J_ret ?_
    refine PJ_freeze (t := 6) (i := 0) rfl rfl ?_
    refine retc1 Try.results85 (.tmp rfl (slT_le fun q hq => ?_))
    rw [if_pos hq]; exact VT.le_refl _
set_option maxHeartbeats 1000000 in
theorem IndexFunc_ok (l : List Int) (p : Int → Bool) (cl : VT) (hC : ∀ x ∈ l, Callable Try.prog cl [one (.int .i64 x)] (one (.bool (p x)))) : Ok Try.prog 89 [numT .i64 l, cl] (exT fun k : Int => andT ((0 ≤ k ↔ l.any p = true) ∧ -1 ≤ k ∧ k ≤ 2 ^ 48) (one (.int .i64 k))) := by
  unfold numT
  refine Ok.enter Try.func89 rfl Try.ntmps89 rfl (fun w O => ?_)
  refine J_fact (t := 0) rfl (fun _ _ => slT_bound) (fun hb => ?_)
  refine J_seq ?_
  refine J_reg ?_
  refine st (s_assign rfl) rfl ?_
  refine Run.nil ?_
  refine pj_then ?_
  refine J_seq ?_
  refine J_seq ?_
  refine J_reg ?_
  refine st (s_move rfl) rfl ?_
  refine st (s_len rfl) rfl ?_
  refine st (s_move rfl) rfl ?_
  refine Run.nil ?_
  refine pj_then ?_
  refine J_block ?_
  refine J_loop (σ := Nat) (fun i => [(0, slT .one l.length (fun i => one (.int .i64 (l.getD i 0)))), (1, cl), (7, one (.int .i64 l.length)), (8, one (.int .i64 (i : Nat)))]) (fun _ => []) (fun i => i ≤ l.length ∧ (l.take i).any p = false) (fun i => l.length - i) 0 ⟨Nat.zero_le _, rfl⟩ (by repeat (first | exact SubG.nil | refine SubG.cons rfl (VT.le_refl _) ?_ | (refine SubG.cons rfl (one_le ?_) ?_; (congr 1; first | omega | (simp; omega) | simp)))) (SubM.refl _) (fun i ⟨hi, ht⟩ => ?_)
  refine J_seq ?_
  refine J_reg ?_
  refine st (s_lt rfl rfl) rfl ?_
  refine Run.nil ?_
  refine pj_then ?_
  refine J_seq ?_
  refine J_cond rfl (fun hc => ?_) (fun hc => ?_) <;> simp only [decide_eq_true_eq, decide_eq_false_iff_not, Int.ofNat_lt] at hc
  · refine J_skip ?_
    refine pj_then ?_
    refine J_seq ?_
    refine J_block ?_
    refine J_seq ?_
    refine J_reg ?_
    refine st (s_move rfl) rfl ?_
    refine st (s_assign rfl) rfl ?_
    refine Run.nil ?_
    refine pj_then ?_
    refine J_seq ?_
    refine J_reg ?_
    refine st (s_move rfl) rfl ?_
    refine st (s_move rfl) rfl ?_
    refine st (s_move rfl) rfl ?_
    (refine st (s_indexIN rfl rfl ?_) rfl ?_; omega)
    refine st (s_load rfl) rfl ?_
    have hm : l.getD i 0 ∈ l := by
      simp only [List.getD, List.getElem?_eq_getElem hc, Option.getD_some]; exact List.getElem_mem hc
    refine st (s_callF (hC _ hm) rfl rfl ⟨VT.le_refl _, trivial⟩) rfl ?_
    refine Run.nil ?_
    refine pj_then ?_
    refine J_cond rfl (fun hc2 => ?_) (fun hc2 => ?_)
    · refine J_seq ?_
      refine J_reg ?_
      refine st (s_move rfl) rfl ?_
      refine st (s_assign rfl) rfl ?_
      refine Run.nil ?_
      refine pj_then ?_
      refine J_ret ?_
      refine pr_block ?_
      refine pr_then ?_
      refine pr_then ?_
      refine pr_block ?_
      refine pr_then ?_
      refine retc1 Try.results89 (.tmp rfl (le_exT (i : Int) (le_andT ⟨?_, by omega, by omega⟩ (VT.le_refl _))))
      have : l.any p = true := List.any_eq_true.2 ⟨_, hm, hc2⟩
      simp [this]
    · refine J_skip ?_
      refine pn_block ?_
      refine pj_then ?_
      refine J_reg ?_
      (refine st (s_add rfl rfl (wrap_i64 ?_ ?_)) rfl ?_; omega; omega)
      refine st (s_move rfl) rfl ?_
      refine Run.nil ?_
      refine pj_round (s := i) (i + 1) ⟨by omega, ?_⟩ (by show l.length - (i + 1) < l.length - i; omega) (by repeat (first | exact SubG.nil | refine SubG.cons rfl (VT.le_refl _) ?_ | (refine SubG.cons rfl (one_le ?_) ?_; (congr 1; first | omega | (simp; omega) | simp)))) .nil
      rw [List.take_add_one, List.any_append, ht, List.getElem?_eq_getElem hc]
      simp only [List.getD, List.getElem?_eq_getElem hc, Option.getD_some] at hc2
      simp [hc2]
  · refine J_exit ?_
    refine px_then ?_
    refine px_then ?_
    refine px_block ?_
    refine pj_then ?_
    refine J_seq ?_
    refine J_reg ?_
    refine st (s_assign rfl) rfl ?_
    refine Run.nil ?_
    refine pj_then ?_
    refine J_ret ?_
    refine retc1 Try.results89 (.tmp rfl (le_exT (-1 : Int) (le_andT ⟨?_, by omega, by omega⟩ (VT.le_refl _))))
    rw [List.take_of_length_le (by omega)] at ht
    simp [ht]
set_option maxHeartbeats 1000000 in
theorem ContainsFunc_ok (l : List Int) (p : Int → Bool) (cl : VT) (hC : ∀ x ∈ l, Callable Try.prog cl [one (.int .i64 x)] (one (.bool (p x)))) : Ok Try.prog 64 [numT .i64 l, cl] (one (.bool (l.any p))) := by
  refine Ok.enter Try.func64 rfl Try.ntmps64 rfl (fun w O => ?_)
  refine J_seq ?_
  refine J_reg ?_
  refine st (s_assign rfl) rfl ?_
  refine Run.nil ?_
  refine pj_then ?_
  refine J_seq ?_
  refine J_reg ?_
  refine st (s_move rfl) rfl ?_
  refine st (s_move rfl) rfl ?_
  refine a_callM (IndexFunc_ok l p cl hC).toM rfl ⟨VT.le_refl _, VT.le_refl _, trivial⟩ rfl rfl (fun k => ?_)
  obtain ⟨k, hk⟩ := k
  refine st (s_ge rfl rfl) rfl ?_
  refine st (s_assign rfl) rfl ?_
  refine Run.nil ?_
  refine pj_then ?_
  refine J_ret ?_
  refine retc1 Try.results64 (.tmp rfl (one_le ?_))
  have := hk.1
  show Value.bool (decide (0 ≤ k)) = _
  cases h : l.any p
  · rw [h] at this; simp at this; simp [this]
  · rw [h] at this; simp at this; simp [this]
/-- What the inner closure of Pick captures: the number that bounds the indices. -/
def capT (n : Int) : VT := ptrT .one (one (.int .i64 n))
set_option maxHeartbeats 1000000 in
theorem Pick11_ok (x n : Int) : Ok Try.prog 63 [one (.int .i64 x), capT n] (one (.bool (decide (x < 0 ∨ n ≤ x)))) := by
  unfold capT
  refine Ok.enter Try.func63 rfl Try.ntmps63 rfl (fun w O => ?_)
  refine J_seq ?_
  refine J_reg ?_
  refine st (s_assign rfl) rfl ?_
  refine Run.nil ?_
  refine pj_then ?_
  refine J_seq ?_
  refine J_reg ?_
  refine st (s_move rfl) rfl ?_
  refine st (s_lt rfl rfl) rfl ?_
  refine st (s_move rfl) rfl ?_
  refine bsel (t := 6) rfl (fun b h1 => ?_)
  rw [h1]
  cases b
  · simp at h1
    refine sg1 rfl rfl (s_move rfl) rfl ?_
    refine sg1 rfl rfl (s_load rfl) rfl ?_
    refine sg1 rfl rfl (s_ge rfl rfl) rfl ?_
    refine st (s_pickF rfl rfl) rfl ?_
    refine st (s_assign rfl) rfl ?_
    refine Run.nil ?_
    refine pj_then ?_
    refine J_ret ?_
    refine retc1 Try.results63 (.tmp rfl (one_le ?_))
    congr 1; rw [decide_eq_decide]; omega
  · simp at h1
    refine sg0 rfl rfl rfl rfl ?_
    refine sg0 rfl rfl rfl rfl ?_
    refine sg0 rfl rfl rfl rfl ?_
    refine st (s_pickT rfl rfl) rfl ?_
    refine st (s_assign rfl) rfl ?_
    refine Run.nil ?_
    refine pj_then ?_
    refine J_ret ?_
    refine retc1 Try.results63 (.tmp rfl (one_le ?_))
    congr 1; symm; rw [decide_eq_true_eq]; omega
set_option maxHeartbeats 1000000 in
theorem Pick1_ok (n : Int) : Ok Try.prog 62 [one (.int .i64 n)] (cloT 63 [capT n]) := by
  refine Ok.enter Try.func62 rfl Try.ntmps62 rfl (fun w O => ?_)
  refine J_seq ?_
  refine J_reg ?_
  refine a_box rfl rfl (ltN rfl) (fun b => ?_)
  refine st (s_assign rfl) rfl ?_
  refine Run.nil ?_
  refine pj_then ?_
  refine J_seq ?_
  refine J_reg ?_
  refine st (s_makeFunc rfl) rfl ?_
  refine st (s_assign rfl) rfl ?_
  refine Run.nil ?_
  refine pj_then ?_
  refine J_ret ?_
  refine PJ_open [boxO b 3 1 [(0, .one, one (.int .i64 n))]] (List.Perm.refl _) .nil (EntG.set (t := 2) rfl (Ent.clo1 (Ent.ptr (T := 3) (L := .one) List.mem_cons_self List.mem_cons_self))) ?_
  refine retc1 Try.results62 (.tmp rfl (VT.le_refl _))
end Tor
end

section
set_option linter.unusedVariables false
set_option linter.unusedSimpArgs false
namespace Tor
open Go Go.RowKit Go.Proofs
/-- The sum of the first n values. -/
def sumF : Nat → (Nat → Int) → Int
  | 0, _ => 0
  | n + 1, f => sumF n f + f n
theorem sumF_congr {n : Nat} {f g : Nat → Int} (h : ∀ i, i < n → f i = g i) : sumF n f = sumF n g := by
  induction n with
  | zero => rfl
  | succ n ih => rw [sumF, sumF, ih (fun i hi => h i (by omega)), h n (by omega)]
theorem sumF_bound {n B : Nat} {f : Nat → Int} (h : ∀ i, (f i).natAbs ≤ B) : (sumF n f).natAbs ≤ n * B := by
  induction n with
  | zero => simp [sumF]
  | succ n ih =>
    rw [sumF, Nat.succ_mul]
    have := h n
    omega
/-- A number of modest size. -/
def mod4 (x : Int) : Prop := x.natAbs ≤ 2 ^ 400
theorem mod4_mul {x y : Int} (hx : mod4 x) (hy : mod4 y) : (x * y).natAbs ≤ 2 ^ 800 := by
  rw [Int.natAbs_mul]
  exact Nat.le_trans (Nat.mul_le_mul hx hy) (by decide +kernel)
theorem small_le {x : Int} {n : Nat} (h : x.natAbs ≤ n) (hn : n < 2 ^ 2048) : small x := small_lt (Nat.lt_of_le_of_lt h hn)
theorem mod4_small {x : Int} (hx : mod4 x) : small x := small_le hx (by decide +kernel)
theorem sum_small {n : Nat} {f : Nat → Int} (hn : n ≤ 1048576) (h : ∀ i, (f i).natAbs ≤ 2 ^ 800) : small (sumF n f) :=
  small_le (sumF_bound h) (Nat.lt_of_le_of_lt (Nat.mul_le_mul_right _ hn) (by decide +kernel))
/-- A product of matrices. -/
def mulF (n : Nat) (F G : Nat → Nat → Int) : Nat → Nat → Int := fun i j => sumF n (fun k => F i k * G k j)
theorem sumF_step {n : Nat} {f : Nat → Int} : sumF (n + 1) f = sumF n f + f n := rfl
attribute [local irreducible] Tor.J Tor.PJ Tor.StepO Tor.one Tor.slT Tor.ptrT Tor.aggT Tor.tupT Tor.exT Tor.andT Tor.gT Tor.eP Tor.boxO Tor.sliO Tor.slV Tor.VT.le Tor.Ret Tor.anyT
attribute [local irreducible] bigT
set_option maxHeartbeats 4000000 in
theorem mtimes_ok (r c : Nat) (v : Nat → Int) (G : Nat → Nat → Int) (hr : r ≤ 1048576) (hc0 : c ≤ 1048576) (hv : ∀ i, mod4 (v i)) (hG : ∀ i j, mod4 (G i j)) :
    Ok Try.prog 60 [rowF r v, matF r c G] (rowF c (fun j => sumF r (fun k => v k * G k j))) := by
  unfold rowF matF
  refine Ok.enter Try.func60 rfl Try.ntmps60 rfl (fun w O => ?_)
  refine J_seq ?_
  refine J_reg ?_
  refine a_boxS rfl rfl (ltN rfl) (fun b => ?_)
  refine st (s_assign rfl) rfl ?_
  refine Run.nil ?_
  refine pj_then ?_
  refine J_seq ?_
  refine J_reg ?_
  refine st (s_fieldAddr rfl) rfl ?_
  refine st (s_loadB 0 rfl rfl rfl) rfl ?_
  refine a_makeSlice c c rfl rfl rfl rfl (Nat.le_refl _) rfl rfl (by omega) rfl rfl (fun bz => ?_)
  refine st (s_assign rfl) rfl ?_
  refine Run.nil ?_
  refine pj_then ?_
  refine J_seq ?_
  refine J_seq ?_
  refine J_reg ?_
  refine st (s_move rfl) rfl ?_
  refine st (s_len rfl) rfl ?_
  refine st (s_move rfl) rfl ?_
  refine Run.nil ?_
  refine pj_then ?_
  refine J_block ?_
  refine J_loop (σ := Nat) (fun i => [(3, one (.pointer (some ⟨b, 0, none⟩))), (5, one (slV (some bz) c c)), (13, slT (.agg 2) r (fun j => bigT (v j))), (14, one (.int .i64 r)), (15, one (.int .i64 (i : Nat)))])
    (fun i => [sliO (some bz) 29 (.agg 2) c c (fun q => bigT (sumF i (fun k => v k * G k q))), boxO b 33 3 [(0, .one, one (.int .i64 r)), (1, .one, one (.int .i64 c)), (2, .one, slT .one r (fun i => rowF c (G i)))]])
    (fun i => i ≤ r) (fun i => r - i) 0 (Nat.zero_le _) (by repeat (first | exact SubG.nil | refine SubG.cons rfl (VT.le_refl _) ?_ | (refine SubG.cons rfl (one_le ?_) ?_; (congr 1; first | omega | (simp; omega) | simp)))) (.keep (sliO_le fun q hq => zero_big) (SubM.refl _)) (fun i hi => ?_)
  unfold rowF
  refine J_seq ?_
  refine J_reg ?_
  refine st (s_lt rfl rfl) rfl ?_
  refine Run.nil ?_
  refine pj_then ?_
  refine J_seq ?_
  refine J_cond rfl (fun hc => ?_) (fun hc => ?_) <;> simp only [decide_eq_true_eq, decide_eq_false_iff_not, ne_eq, Decidable.not_not] at hc
  · refine J_skip ?_
    refine pj_then ?_
    refine J_seq ?_
    refine J_block ?_
    refine J_seq ?_
    refine J_reg ?_
    refine st (s_move rfl) rfl ?_
    (refine st (s_indexIN rfl rfl ?_) rfl ?_; omega)
    refine st (s_load rfl) rfl ?_
    refine a_alloc (T := 29) rfl (ltN rfl) (fun b => ?_)
    refine st (s_assign rfl) rfl ?_
    refine a_storeB 0 rfl rfl rfl rfl rfl (leN rfl) rfl ?_
    refine Run.nil ?_
    refine pj_then ?_
    refine J_seq ?_
    refine J_seq ?_
    refine J_reg ?_
    refine st (s_loadB 0 rfl rfl rfl) rfl ?_
    rename_i ba
    refine st (s_callk (SignI_ok (v i)) rfl ⟨VT.le_refl _, trivial⟩) rfl ?_
    refine st (s_eq rfl rfl) rfl ?_
    refine Run.nil ?_
    refine pj_then ?_
    refine J_cond rfl (fun hc2 => ?_) (fun hc2 => ?_) <;> simp only [decide_eq_true_eq, decide_eq_false_iff_not, sgnI_zero] at hc2
    · refine J_exit ?_
      refine px_then ?_
      refine px_block ?_
      refine pj_then ?_
      refine J_reg ?_
      (refine st (s_add rfl rfl (wrap_i64 ?_ ?_)) rfl ?_; omega; omega)
      refine st (s_move rfl) rfl ?_
      refine Run.nil ?_
      refine pj_round (s := i) (i + 1) (show _ from by omega) (by show r - (i + 1) < r - i; omega) (by repeat (first | exact SubG.nil | refine SubG.cons rfl (VT.le_refl _) ?_ | (refine SubG.cons rfl (one_le ?_) ?_; (congr 1; first | omega | (simp; omega) | simp)))) (.drop (.keep (sliO_eq fun q hq => ?_) (SubM.refl _)))
      rw [sumF_step, hc2]; simp
    · refine J_skip ?_
      refine pj_then ?_
      refine J_seq ?_
      refine J_reg ?_
      refine st (s_fieldAddr rfl) rfl ?_
      refine st (s_loadB 2 rfl rfl rfl) rfl ?_
      refine st (s_move rfl) rfl ?_
      (refine st (s_indexIN rfl rfl ?_) rfl ?_; omega)
      refine st (s_load rfl) rfl ?_
      refine st (s_len rfl) rfl ?_
      refine st (s_move rfl) rfl ?_
      refine Run.nil ?_
      refine pj_then ?_
      refine J_block ?_
      refine J_loop (σ := Nat) (fun j => [(3, one (.pointer (some ⟨ba, 0, none⟩))), (5, one (slV (some bz) c c)), (6, one (.int .i64 (i : Nat))), (7, one (.pointer (some ⟨b, 0, none⟩))), (13, slT (.agg 2) r (fun j => bigT (v j))), (14, one (.int .i64 r)), (15, one (.int .i64 (i : Nat))), (27, slT (.agg 2) c (fun j => bigT (G i j))), (28, one (.int .i64 c)), (29, one (.int .i64 (j : Nat)))])
        (fun j => [boxO b 29 2 [(0, .agg 2, bigT (v i))], sliO (some bz) 29 (.agg 2) c c (fun q => bigT (if q < j then sumF (i + 1) (fun k => v k * G k q) else sumF i (fun k => v k * G k q))), boxO ba 33 3 [(0, .one, one (.int .i64 r)), (1, .one, one (.int .i64 c)), (2, .one, slT .one r (fun i => slT (.agg 2) c (fun j => bigT (G i j))))]])
        (fun j => j ≤ c) (fun j => c - j) 0 (Nat.zero_le _) (by repeat (first | exact SubG.nil | refine SubG.cons rfl (VT.le_refl _) ?_ | (refine SubG.cons rfl (one_le ?_) ?_; (congr 1; first | omega | (simp; omega) | simp)))) (.keep (Own.le_refl _) (.keep (sliO_eq fun q hq => by rw [if_neg (by omega)]) (SubM.refl _))) (fun j hj => ?_)
      refine J_seq ?_
      refine J_reg ?_
      refine st (s_lt rfl rfl) rfl ?_
      refine Run.nil ?_
      refine pj_then ?_
      refine J_seq ?_
      refine J_cond rfl (fun hc3 => ?_) (fun hc3 => ?_) <;> simp only [decide_eq_true_eq, decide_eq_false_iff_not, Int.ofNat_lt] at hc3
      · refine J_skip ?_
        refine pj_then ?_
        refine J_seq ?_
        refine J_block ?_
        refine J_seq ?_
        refine J_reg ?_
        refine st (s_move rfl) rfl ?_
        (refine st (s_indexIN rfl rfl ?_) rfl ?_; omega)
        refine st (s_load rfl) rfl ?_
        refine a_alloc (T := 29) rfl (ltN rfl) (fun b => ?_)
        refine st (s_assign rfl) rfl ?_
        refine a_storeB 0 rfl rfl rfl rfl rfl (leN rfl) rfl ?_
        refine Run.nil ?_
        refine pj_then ?_
        refine J_seq ?_
        refine J_reg ?_
        refine st (s_loadB 0 rfl rfl rfl) rfl ?_
        refine st (s_callk (SignI_ok (G i j)) rfl ⟨VT.le_refl _, trivial⟩) rfl ?_
        refine st (s_ne rfl rfl) rfl ?_
        refine Run.nil ?_
        refine pj_then ?_
        refine J_cond rfl (fun hc4 => ?_) (fun hc4 => ?_) <;> simp only [decide_eq_true_eq, decide_eq_false_iff_not, ne_eq, Decidable.not_not, sgnI_zero] at hc4
        · skip
          refine J_regd 11 mixed (by kernel_rfl) (by decide) ?_
          refine st (s_move rfl) rfl ?_
          refine st (s_move rfl) rfl ?_
          refine st (s_move rfl) rfl ?_
          refine st (s_move rfl) rfl ?_
          (refine st (s_indexON rfl rfl ?_) rfl ?_; omega)
          (refine st (s_loadE 2 rfl rfl ?_) rfl ?_; omega)
          refine st (s_loadB 1 rfl rfl rfl) rfl ?_
          refine st (s_loadB 0 rfl rfl rfl) rfl ?_
          refine st (s_callk (MulI_ok (v i) (G i j) (mod4_small (hv i)) (mod4_small (hG i j))) rfl ⟨VT.le_refl _, VT.le_refl _, trivial⟩) rfl ?_
          rw [if_neg (Nat.lt_irrefl j)]
          refine st (s_callk (AddI_ok (sumF i (fun k => v k * G k j)) (v i * G i j) (sum_small (by omega) (fun k => mod4_mul (hv k) (hG k j))) (small_le (mod4_mul (hv i) (hG i j)) (by decide +kernel))) rfl ⟨VT.le_refl _, VT.le_refl _, trivial⟩) rfl ?_
          (refine st (s_indexON rfl rfl ?_) rfl ?_; omega)
          refine Run.nil ?_
          (refine a_storeE 2 rfl rfl rfl ?_ rfl ?_; omega)
          refine Run.nil ?_
          refine pn_block ?_
          refine pj_then ?_
          refine J_reg ?_
          (refine st (s_add rfl rfl (wrap_i64 ?_ ?_)) rfl ?_; omega; omega)
          refine st (s_move rfl) rfl ?_
          refine Run.nil ?_
          refine pj_round (s := j) (j + 1) (show _ from by omega) (by show c - (j + 1) < c - j; omega) (by repeat (first | exact SubG.nil | refine SubG.cons rfl (VT.le_refl _) ?_ | (refine SubG.cons rfl (one_le ?_) ?_; (congr 1; first | omega | (simp; omega) | simp)))) (.drop (.keep (Own.le_refl _) (.keep (sliO_eq fun q hq => ?_) (SubM.refl _))))
          unfold upd
          by_cases h : q = j
          · subst h; rw [if_pos rfl, if_pos (by omega)]; rfl
          · rw [if_neg h]
            have e : q < j + 1 ↔ q < j := by omega
            simp only [e]
        · refine J_skip ?_
          refine pn_block ?_
          refine pj_then ?_
          refine J_reg ?_
          (refine st (s_add rfl rfl (wrap_i64 ?_ ?_)) rfl ?_; omega; omega)
          refine st (s_move rfl) rfl ?_
          refine Run.nil ?_
          refine pj_round (s := j) (j + 1) (show _ from by omega) (by show c - (j + 1) < c - j; omega) (by repeat (first | exact SubG.nil | refine SubG.cons rfl (VT.le_refl _) ?_ | (refine SubG.cons rfl (one_le ?_) ?_; (congr 1; first | omega | (simp; omega) | simp)))) (.drop (.keep (Own.le_refl _) (.keep (sliO_eq fun q hq => ?_) (SubM.refl _))))
          by_cases h : q = j
          · subst h; rw [if_neg (Nat.lt_irrefl _), if_pos (by omega), sumF_step, hc4]; simp
          · have e : q < j + 1 ↔ q < j := by omega
            simp only [e]
      · refine J_exit ?_
        refine px_then ?_
        refine px_then ?_
        refine px_block ?_
        refine pn_block ?_
        refine pj_then ?_
        refine J_reg ?_
        (refine st (s_add rfl rfl (wrap_i64 ?_ ?_)) rfl ?_; omega; omega)
        refine st (s_move rfl) rfl ?_
        refine Run.nil ?_
        refine pj_round (s := i) (i + 1) (show _ from by omega) (by show r - (i + 1) < r - i; omega) (by repeat (first | exact SubG.nil | refine SubG.cons rfl (VT.le_refl _) ?_ | (refine SubG.cons rfl (one_le ?_) ?_; (congr 1; first | omega | (simp; omega) | simp)))) (.drop (.keep (sliO_eq fun q hq => ?_) (SubM.refl _)))
        rw [if_pos (by omega)]
  · have hk : i = r := by omega
    subst hk
    refine J_exit ?_
    refine px_then ?_
    refine px_then ?_
    refine px_block ?_
    refine pj_then ?_
    refine J_seq ?_
    refine J_reg ?_
    refine st (s_move rfl) rfl ?_
    refine st (s_assign rfl) rfl ?_
    refine Run.nil ?_
    refine pj_then ?_
    refine J_ret ?_
    refine PJ_freeze (t := 4) (i := 0) rfl rfl ?_
    exact retc1 Try.results60 (.tmp rfl (VT.le_refl _))
end Tor
end

section
set_option linter.unusedVariables false
set_option linter.unusedSimpArgs false
namespace Tor
open Go Go.RowKit Go.Proofs
instance : Idle Try.prog 78 := Idle.of Try.func78 rfl Try.ntmps78 Try.results78
instance : Idle Try.prog 59 := Idle.of Try.func59 rfl Try.ntmps59 Try.results59
instance : Idle Try.prog 67 := Idle.of Try.func67 rfl Try.ntmps67 Try.results67
/-- A row and an error number. -/
def resV (ok : Bool) (e : Int) (n : Nat) (f : Nat → Int) : VT := tupT [rowF (if ok then n else 0) f, one (.int .i64 (if ok then 0 else e))]
attribute [local irreducible] Tor.J Tor.PJ Tor.StepO Tor.one Tor.slT Tor.ptrT Tor.aggT Tor.tupT Tor.exT Tor.andT Tor.gT Tor.eP Tor.boxO Tor.sliO Tor.slV Tor.VT.le Tor.Ret Tor.anyT
attribute [local irreducible] Tor.rowsO
set_option maxHeartbeats 2000000 in
theorem New_ok (r c : Nat) (hr : r ≤ 1048576) (hc0 : c ≤ 1048576) : OkM Try.prog 46 [one (.int .i64 r), one (.int .i64 c)] (newT r c) (fun s => [outO s.1.2.1 s.1.2.2 r c s.1.1, ownR c s.1.1 (fun _ _ => 0)]) := by
  refine OkM.enterD Try.func46 rfl Try.ntmps46 rfl (fun w O => ?_)
  have e1 : max (r : Int) 0 = r := by omega
  have e2 : max (c : Int) 0 = c := by omega
  refine J_seq ?_
  refine J_reg ?_
  refine a_allocS (T := 33) rfl rfl rfl (fun b => ?_)
  refine Run.nil ?_
  refine pj_then ?_
  refine J_seq ?_
  refine J_reg ?_
  refine a_defer rfl ?_
  refine Run.nil ?_
  refine pj_then ?_
  refine J_seq ?_
  refine J_reg ?_
  refine st (s_move rfl) rfl ?_
  refine st (s_max rfl rfl) rfl ?_
  refine st (s_move rfl) rfl ?_
  refine st (s_max rfl rfl) rfl ?_
  refine st (s_assign rfl) rfl ?_
  refine st (s_assign rfl) rfl ?_
  refine Run.nil ?_
  refine pj_then ?_
  refine J_seq ?_
  refine J_reg ?_
  refine st (s_move rfl) rfl ?_
  rw [e1, e2]
  refine a_makeSlice r r rfl rfl rfl rfl (Nat.le_refl _) rfl rfl (by omega) rfl rfl (fun bo => ?_)
  refine st (s_assign rfl) rfl ?_
  refine Run.nil ?_
  refine pj_then ?_
  refine J_seq ?_
  refine J_seq ?_
  refine J_reg ?_
  refine st (s_move rfl) rfl ?_
  refine st (s_lenO rfl) rfl ?_
  refine st (s_move rfl) rfl ?_
  refine Run.nil ?_
  refine pj_then ?_
  refine J_block ?_
  refine J_conv (ConvM.rows0 (T := 29) (L := .agg 2) (c := c) (φ := fun _ _ => bigT 0) _) ?_
  refine J_loop (σ := List Nat) (fun s => [(0, one (.int .i64 r)), (1, one (.int .i64 c)), (4, one (.pointer (some ⟨b, 0, none⟩))), (5, one (slV (some bo) r r)), (14, one (.int .i64 r)), (15, one (.int .i64 s.length))])
    (fun s => [sliO (some bo) 35 .one r r (fun q => if q < s.length then one (slV (some (s.getD q 0)) c c) else anyT), boxO b 33 3 (zeroC #[Value.int IntKind.i64 0, Value.int IntKind.i64 0, Value.slice none 0 0] [(0, Lay.one), (1, Lay.one), (2, Lay.one)]), ownR c s (fun _ _ => 0)])
    (fun s => s.length ≤ r) (fun s => r - s.length) [] (Nat.zero_le _) (by repeat (first | exact SubG.nil | refine SubG.cons rfl (VT.le_refl _) ?_ | (refine SubG.cons rfl (one_le ?_) ?_; (congr 1; first | omega | (simp; omega) | simp)))) (.keep (sliO_le fun q hq => by rw [if_neg (by simp)]; exact le_any _) (SubM.refl _)) (fun bs hk => ?_)
  refine J_seq ?_
  refine J_reg ?_
  refine st (s_lt rfl rfl) rfl ?_
  refine Run.nil ?_
  refine pj_then ?_
  refine J_seq ?_
  refine J_cond rfl (fun hc => ?_) (fun hc => ?_) <;> simp only [decide_eq_true_eq, decide_eq_false_iff_not, ne_eq, Decidable.not_not] at hc
  · refine J_skip ?_
    refine pj_then ?_
    refine J_seq ?_
    refine J_block ?_
    refine J_seq ?_
    refine J_reg ?_
    refine st (s_move rfl) rfl ?_
    refine st (s_assign rfl) rfl ?_
    refine Run.nil ?_
    refine pj_then ?_
    refine J_reg ?_
    refine st (s_move rfl) rfl ?_
    refine st (s_move rfl) rfl ?_
    refine st (s_move rfl) rfl ?_
    refine a_makeSlice c c rfl rfl rfl rfl (Nat.le_refl _) rfl rfl (by omega) rfl rfl (fun bz => ?_)
    (refine st (s_indexON rfl rfl ?_) rfl ?_; omega)
    (refine a_storeE 1 rfl rfl rfl ?_ rfl ?_; omega)
    refine Run.nil ?_
    refine pn_block ?_
    refine pj_then ?_
    refine J_reg ?_
    (refine st (s_add rfl rfl (wrap_i64 ?_ ?_)) rfl ?_; omega; omega)
    refine st (s_move rfl) rfl ?_
    refine Run.nil ?_
    refine PJ_conv (ConvM.row (k := 2) rfl) ?_
    refine pj_round (s := bs) (bs ++ [bz]) (by simp; omega) (by simp; omega) (.cons rfl (VT.le_refl _) (.cons rfl (VT.le_refl _) (.cons rfl (VT.le_refl _) (.cons rfl (VT.le_refl _) (.cons rfl (VT.le_refl _) (.cons rfl (one_le (by simp)) .nil)))))) ?_
    refine .keep (sliO_eq (fun q hq => ?_)) (.keep (Own.le_refl _) (.keep (rowsO_le fun i j hi hj => ?_) .nil))
    · unfold upd
      by_cases h : q = bs.length
      · subst h; simp
      · rw [if_neg h]
        show (if q < bs.length then one (slV (some (bs.getD q 0)) c c) else anyT) = _
        by_cases h2 : q < bs.length
        · rw [if_pos h2, if_pos (by simp; omega)]; simp [List.getElem?_append_left h2]
        · rw [if_neg h2, if_neg (by simp; omega)]
    · simp only
      split
      · exact VT.le_refl _
      · exact zero_big
  · have hlen : bs.length = r := by omega
    subst hlen
    refine J_exit ?_
    refine px_then ?_
    refine px_then ?_
    refine px_block ?_
    refine pj_then ?_
    refine J_seq ?_
    refine J_reg ?_
    refine st (s_move rfl) rfl ?_
    refine st (s_move rfl) rfl ?_
    refine st (s_move rfl) rfl ?_
    refine stB rfl rfl rfl ?_
    refine BuildK.cons rfl rfl rfl ?_
    refine BuildK.cons rfl rfl rfl ?_
    refine BuildK.cons rfl rfl rfl ?_
    refine BuildK.nil ?_
    refine a_storeW 1 rfl rfl rfl rfl ?_
    refine Run.nil ?_
    refine pj_then ?_
    refine J_ret ?_
    refine pj_idle (retM1 ⟨(bs, some bo, bs.length), rfl, fun h => by cases h⟩ Try.results46 (.cellW 1 rfl rfl (VT.le_refl _)) ?_)
    refine .keep (sliO_eq fun q hq => ?_) (.drop (SubM.refl _))
    rw [if_pos hq]
attribute [local irreducible] bigT
set_option maxHeartbeats 2000000 in
theorem Identity_ok (n : Nat) (hn : n ≤ 1048576) : Ok Try.prog 40 [one (.int .i64 n)] (matF n n (fun i j => if i = j then 1 else 0)) := by
  refine Ok.enter Try.func40 rfl Try.ntmps40 rfl (fun w O => ?_)
  refine J_seq ?_
  refine J_reg ?_
  refine a_allocS (T := 33) rfl rfl rfl (fun b => ?_)
  refine Run.nil ?_
  refine pj_then ?_
  refine J_seq ?_
  refine J_reg ?_
  refine st (s_move rfl) rfl ?_
  refine st (s_move rfl) rfl ?_
  refine a_callM (New_ok n n hn hn) rfl ⟨VT.le_refl _, VT.le_refl _, trivial⟩ rfl rfl (fun s => ?_)
  obtain ⟨⟨bs, sv1, cap1⟩, hlen, hsv⟩ := s
  simp only at hlen hsv
  unfold newT
  refine a_allocS (T := 33) rfl rfl rfl (fun b => ?_)
  refine a_storeW 0 rfl rfl rfl rfl ?_
  refine Run.nil ?_
  refine pj_then ?_
  refine J_seq ?_
  refine J_seq ?_
  refine J_reg ?_
  refine st (s_fieldAddr rfl) rfl ?_
  refine st (s_loadB 0 rfl rfl rfl) rfl ?_
  refine st (s_lenO rfl) rfl ?_
  refine st (s_move rfl) rfl ?_
  refine Run.nil ?_
  refine pj_then ?_
  refine J_block ?_
  rename_i b2
  refine J_loop (σ := Nat) (fun i => [(2, one (.pointer (some ⟨b2, 0, none⟩))), (3, one (.pointer (some ⟨b, 0, none⟩))), (10, one (.int .i64 n)), (11, one (.int .i64 (i : Nat)))])
    (fun i => [boxO b 33 3 [(0, .one, one (.int .i64 n)), (1, .one, one (.int .i64 n)), (2, .one, one (slV sv1 n cap1))], outO sv1 cap1 n n bs, ownR n bs (fun q k => if q < i then (if q = k then 1 else 0) else 0),
      boxO b2 33 3 (zeroC #[Value.int IntKind.i64 0, Value.int IntKind.i64 0, Value.slice none 0 0] [(0, Lay.one), (1, Lay.one), (2, Lay.one)])])
    (fun i => i ≤ n) (fun i => n - i) 0 (Nat.zero_le _) (by repeat (first | exact SubG.nil | refine SubG.cons rfl (VT.le_refl _) ?_ | (refine SubG.cons rfl (one_le ?_) ?_; (congr 1; first | omega | (simp; omega) | simp)))) (.keep (Own.le_refl _) (.keep (Own.le_refl _) (.keep (ownR_le fun i j hi hj => by simp) (SubM.refl _)))) (fun i hi => ?_)
  refine J_seq ?_
  refine J_reg ?_
  refine st (s_lt rfl rfl) rfl ?_
  refine Run.nil ?_
  refine pj_then ?_
  refine J_seq ?_
  refine J_cond rfl (fun hc => ?_) (fun hc => ?_) <;> simp only [decide_eq_true_eq, decide_eq_false_iff_not, ne_eq, Decidable.not_not] at hc
  · obtain ⟨bo, rfl⟩ := sv_some hsv (by omega)
    refine J_skip ?_
    refine pj_then ?_
    refine J_seq ?_
    refine J_block ?_
    refine J_seq ?_
    refine J_reg ?_
    refine st (s_move rfl) rfl ?_
    refine st (s_assign rfl) rfl ?_
    refine Run.nil ?_
    refine pj_then ?_
    refine J_regd 8 mixed (by kernel_rfl) (by decide) ?_
    refine st (s_fieldAddr rfl) rfl ?_
    refine st (s_loadB 0 rfl rfl rfl) rfl ?_
    refine st (s_move rfl) rfl ?_
    (refine st (s_indexON rfl rfl ?_) rfl ?_; omega)
    (refine st (s_loadE 1 rfl rfl ?_) rfl ?_; omega)
    refine st (s_move rfl) rfl ?_
    refine st (s_callk (Of_ok 1 (by decide) (by decide)) rfl ⟨VT.le_refl _, trivial⟩) rfl ?_
    (refine st (s_indexON rfl rfl ?_) rfl ?_; omega)
    refine Run.nil ?_
    (refine a_storeR 2 rfl rfl rfl (getq ?_) ?_ rfl ?_; omega; omega)
    refine Run.nil ?_
    refine pn_block ?_
    refine pj_then ?_
    refine J_reg ?_
    (refine st (s_add rfl rfl (wrap_i64 ?_ ?_)) rfl ?_; omega; omega)
    refine st (s_move rfl) rfl ?_
    refine Run.nil ?_
    refine pj_round (s := i) (i + 1) (show _ from by omega) (by omega) (by repeat (first | exact SubG.nil | refine SubG.cons rfl (VT.le_refl _) ?_ | (refine SubG.cons rfl (one_le ?_) ?_; (congr 1; first | omega | (simp; omega) | simp)))) (.keep (Own.le_refl _) (.keep (Own.le_refl _) (.keep (rowsO_eq fun q k hq hk => ?_) (SubM.refl _))))
    unfold upd2
    by_cases h : q = i
    · subst h
      by_cases h2 : k = q
      · subst h2; simp
      · have h3 : ¬ q = k := fun e => h2 e.symm
        simp [h2, h3]
    · have h3 : q < i + 1 ↔ q < i := by omega
      simp [h, h3]
  · have hin : i = n := by omega
    subst hin
    refine J_exit ?_
    refine px_then ?_
    refine px_then ?_
    refine px_block ?_
    refine pj_then ?_
    refine J_seq ?_
    refine J_reg ?_
    refine st (s_loadW 0 rfl rfl) rfl ?_
    refine a_storeW 3 rfl rfl rfl rfl ?_
    refine Run.nil ?_
    refine pj_then ?_
    refine J_ret ?_
    have hperm : ∀ (x y z u : Own), [x, y, z, u].Perm ([y, z] ++ [x, u]) := fun x y z u => (List.Perm.swap y x _).trans (List.Perm.cons y (List.Perm.swap z x _))
    refine PJ_open [outO sv1 cap1 i i bs, ownR i bs (fun q k => if q < i then (if q = k then 1 else 0) else 0)] (hperm _ _ _ _) (.keep (EntO.refl _) (.keep (EntO.box (newT_open hlen ⟨by simp, by simp, by simp⟩)) .nil)) (EntG.refl _) ?_
    refine retc1 Try.results40 (.cellW 1 rfl rfl ?_)
    exact matF_le fun a b ha hb => by simp [ha]
set_option maxHeartbeats 2000000 in
theorem Times_ok (n : Nat) (v : Nat → Int) (r c : Nat) (G : Nat → Nat → Int) (hr : r ≤ 1048576) (hc0 : c ≤ 1048576) (hv : ∀ i, mod4 (v i)) (hG : ∀ i j, mod4 (G i j)) :
    Ok Try.prog 30 [rowF n v, matF r c G] (resV (decide (n = r)) 50 c (fun j => sumF r (fun k => v k * G k j))) := by
  unfold resV
  refine Ok.enterD Try.func30 rfl Try.ntmps30 rfl (fun w O => ?_)
  refine J_fact (t := 0) rfl (fun _ _ => slT_bound) (fun hb => ?_)
  unfold matF
  refine J_seq ?_
  refine J_reg ?_
  refine a_boxS rfl rfl (ltN rfl) (fun b => ?_)
  refine st (s_assign rfl) rfl ?_
  refine st (s_assign rfl) rfl ?_
  refine Run.nil ?_
  refine pj_then ?_
  refine J_seq ?_
  refine J_reg ?_
  refine a_defer rfl ?_
  refine Run.nil ?_
  refine pj_then ?_
  refine J_seq ?_
  refine J_seq ?_
  refine J_reg ?_
  refine st (s_loadW 0 rfl rfl) rfl ?_
  refine st (s_callk (matValidF_ok r c G) rfl ⟨VT.le_refl _, trivial⟩) rfl ?_
  unfold rowF
  refine st (s_not rfl) rfl ?_
  refine st (s_move rfl) rfl ?_
  refine sg1 rfl rfl (s_move rfl) rfl ?_
  refine sg1 rfl rfl (s_len rfl) rfl ?_
  refine sg1 rfl rfl (s_fieldAddr rfl) rfl ?_
  refine sg1 rfl rfl (s_loadB 0 rfl rfl rfl) rfl ?_
  refine sg1 rfl rfl (s_ne rfl rfl) rfl ?_
  refine st (s_pickF rfl rfl) rfl ?_
  refine Run.nil ?_
  refine pj_then ?_
  refine J_cond rfl (fun hc => ?_) (fun hc => ?_) <;> simp only [decide_eq_true_eq, decide_eq_false_iff_not, ne_eq, Decidable.not_not] at hc
  · have hne : ¬ n = r := by omega
    refine J_seq ?_
    refine J_reg ?_
    refine st (s_assign rfl) rfl ?_
    refine st (s_assign rfl) rfl ?_
    refine Run.nil ?_
    refine pj_then ?_
    refine J_ret ?_
    refine pr_then ?_
    refine pj_idle (retc2 Try.results30 (.tmp rfl ?_) (.tmp rfl (one_le ?_)))
    · rw [decide_eq_false hne]; exact nil_slT
    · rw [decide_eq_false hne]; rfl
  · have he : n = r := by omega
    subst he
    refine J_skip ?_
    refine pj_then ?_
    refine J_seq ?_
    refine J_reg ?_
    refine st (s_move rfl) rfl ?_
    refine st (s_loadW 0 rfl rfl) rfl ?_
    refine st (s_callk (mtimes_ok n c v G hr hc0 hv hG) rfl ⟨VT.le_refl _, VT.le_refl _, trivial⟩) rfl ?_
    refine st (s_assign rfl) rfl ?_
    refine st (s_assign rfl) rfl ?_
    refine Run.nil ?_
    refine pj_then ?_
    refine J_ret ?_
    refine pj_idle (retc2 Try.results30 (.tmp rfl ?_) (.tmp rfl (one_le ?_)))
    · simp only [decide_true]; exact VT.le_refl _
    · simp
end Tor
end

section
set_option linter.unusedVariables false
set_option linter.unusedSimpArgs false
namespace Tor
open Go Go.RowKit Go.Proofs
/-- A matrix and an error number. -/
def resT (ok : Bool) (e : Int) (r c : Nat) (F : Nat → Nat → Int) : VT := tupT [matF (if ok then r else 0) (if ok then c else 0) F, one (.int .i64 (if ok then 0 else e))]
theorem zero_mat (F : Nat → Nat → Int) : VT.le (aggT 3 (zeroC #[Value.int IntKind.i64 0, Value.int IntKind.i64 0, Value.slice none 0 0] [(0, Lay.one), (1, Lay.one), (2, Lay.one)])) (matF 0 0 F) := by
  unfold matF
  refine aggT_le (fun q hq => ?_)
  rcases List.mem_cons.1 hq with rfl | hq
  · exact ⟨_, List.mem_cons_self, VT.le_refl _⟩
  rcases List.mem_cons.1 hq with rfl | hq
  · exact ⟨_, List.mem_cons_of_mem _ List.mem_cons_self, VT.le_refl _⟩
  rcases List.mem_cons.1 hq with rfl | hq
  · exact ⟨_, List.mem_cons_of_mem _ (List.mem_cons_of_mem _ List.mem_cons_self), nil_slT⟩
  · cases hq
theorem zero_bigC : VT.le (aggT 2 (zeroC #[Value.bool false, Value.slice none 0 0] [(0, Lay.one), (1, Lay.one)])) (bigT 0) := by
  unfold bigT
  refine aggT_le (fun q hq => ?_)
  rcases List.mem_cons.1 hq with rfl | hq
  · exact ⟨_, List.mem_cons_self, VT.le_refl _⟩
  rcases List.mem_cons.1 hq with rfl | hq
  · exact ⟨_, List.mem_cons_of_mem _ List.mem_cons_self, nil_slT⟩
  · cases hq
attribute [local irreducible] Tor.J Tor.PJ Tor.StepO Tor.one Tor.slT Tor.ptrT Tor.aggT Tor.tupT Tor.exT Tor.andT Tor.gT Tor.eP Tor.boxO Tor.sliO Tor.slV Tor.VT.le Tor.Ret Tor.anyT
attribute [local irreducible] bigT
set_option maxHeartbeats 2000000 in
theorem Dot_ok (n m : Nat) (f g : Nat → Int) (hn : n ≤ 1048576) (hm : m ≤ 1048576) (hf : ∀ i, mod4 (f i)) (hg : ∀ i, mod4 (g i)) :
    Ok Try.prog 33 [rowF n f, rowF m g] (tupT [bigT (if n = m then sumF n (fun k => f k * g k) else 0), one (.int .i64 (if n = m then 0 else 50))]) := by
  unfold rowF
  refine Ok.enter Try.func33 rfl Try.ntmps33 rfl (fun w O => ?_)
  refine J_seq ?_
  refine J_reg ?_
  refine a_alloc (T := 29) rfl (ltN rfl) (fun b => ?_)
  refine st (s_assign rfl) rfl ?_
  refine Run.nil ?_
  refine pj_then ?_
  refine J_seq ?_
  refine J_seq ?_
  refine J_reg ?_
  refine st (s_move rfl) rfl ?_
  refine st (s_len rfl) rfl ?_
  refine st (s_move rfl) rfl ?_
  refine st (s_len rfl) rfl ?_
  refine st (s_ne rfl rfl) rfl ?_
  refine Run.nil ?_
  refine pj_then ?_
  refine J_cond rfl (fun hc => ?_) (fun hc => ?_) <;> simp only [decide_eq_true_eq, decide_eq_false_iff_not, ne_eq, Decidable.not_not] at hc
  · have hne : ¬ n = m := by omega
    refine J_seq ?_
    refine J_reg ?_
    refine stB rfl rfl rfl ?_
    refine BuildK.nil ?_
    refine a_storeB 0 rfl rfl rfl rfl rfl (leN rfl) rfl ?_
    refine st (s_assign rfl) rfl ?_
    refine Run.nil ?_
    refine pj_then ?_
    refine J_ret ?_
    refine pr_then ?_
    refine retc2 Try.results33 (.cellB 0 rfl rfl rfl ?_) (.tmp rfl (one_le ?_))
    · rw [if_neg hne]; exact zero_bigC
    · rw [if_neg hne]
  · have he : n = m := by omega
    subst he
    refine J_skip ?_
    refine pj_then ?_
    refine J_seq ?_
    refine J_reg ?_
    refine a_alloc (T := 29) rfl (ltN rfl) (fun b => ?_)
    refine Run.nil ?_
    refine pj_then ?_
    refine J_seq ?_
    refine J_seq ?_
    refine J_reg ?_
    refine st (s_move rfl) rfl ?_
    refine st (s_move rfl) rfl ?_
    rename_i b4
    refine st (s_callk (combI_ok n (fun j => bigT (f j)) (fun j => bigT (g j)) (fun j => bigT (f j * g j)) (one (.func (.func 69) #[] #[])) hn (fun i hi => Callable.fn (MulI_ok _ _ (mod4_small (hf i)) (mod4_small (hg i))))) rfl ⟨VT.le_refl _, VT.le_refl _, VT.le_refl _, trivial⟩) rfl ?_
    refine st (s_len rfl) rfl ?_
    refine st (s_move rfl) rfl ?_
    refine Run.nil ?_
    refine pj_then ?_
    refine J_block ?_
    refine J_loop (σ := Nat) (fun i => [(4, one (.pointer (some ⟨b4, 0, none⟩))), (6, one (.pointer (some ⟨b, 0, none⟩))), (17, slT (.agg 2) n (fun j => bigT (f j * g j))), (18, one (.int .i64 n)), (19, one (.int .i64 (i : Nat)))])
      (fun i => [boxO b 29 2 [(0, .agg 2, bigT (sumF i (fun k => f k * g k)))], boxO b4 29 2 [(0, .agg 2, one (.agg #[.bool false, .slice none 0 0]))]])
      (fun i => i ≤ n) (fun i => n - i) 0 (Nat.zero_le _) (by repeat (first | exact SubG.nil | refine SubG.cons rfl (VT.le_refl _) ?_ | (refine SubG.cons rfl (one_le ?_) ?_; (congr 1; first | omega | (simp; omega) | simp)))) (.keep (boxO_le fun q hq => by rcases List.mem_cons.1 hq with rfl | hq; exact ⟨_, List.mem_cons_self, zero_big⟩; cases hq) (SubM.refl _)) (fun i hi => ?_)
    refine J_seq ?_
    refine J_reg ?_
    refine st (s_lt rfl rfl) rfl ?_
    refine Run.nil ?_
    refine pj_then ?_
    refine J_seq ?_
    refine J_cond rfl (fun hc => ?_) (fun hc => ?_) <;> simp only [decide_eq_true_eq, decide_eq_false_iff_not, Int.ofNat_lt] at hc
    · refine J_skip ?_
      refine pj_then ?_
      refine J_seq ?_
      refine J_block ?_
      refine J_seq ?_
      refine J_reg ?_
      (refine st (s_indexIN rfl rfl ?_) rfl ?_; omega)
      refine st (s_load rfl) rfl ?_
      refine a_alloc (T := 29) rfl (ltN rfl) (fun b => ?_)
      refine a_storeB 0 rfl rfl rfl rfl rfl (leN rfl) rfl ?_
      refine Run.nil ?_
      refine pj_then ?_
      refine J_reg ?_
      refine st (s_loadB 1 rfl rfl rfl) rfl ?_
      refine st (s_loadB 0 rfl rfl rfl) rfl ?_
      refine st (s_callk (AddI_ok (sumF i (fun k => f k * g k)) (f i * g i) (sum_small (by omega) (fun k => mod4_mul (hf k) (hg k))) (small_le (mod4_mul (hf i) (hg i)) (by decide +kernel))) rfl ⟨VT.le_refl _, VT.le_refl _, trivial⟩) rfl ?_
      refine a_storeB 1 rfl rfl rfl rfl rfl (leN rfl) rfl ?_
      refine Run.nil ?_
      refine pn_block ?_
      refine pj_then ?_
      refine J_reg ?_
      (refine st (s_add rfl rfl (wrap_i64 ?_ ?_)) rfl ?_; omega; omega)
      refine st (s_move rfl) rfl ?_
      refine Run.nil ?_
      exact pj_round (s := i) (i + 1) (show _ from by omega) (by show n - (i + 1) < n - i; omega) (by repeat (first | exact SubG.nil | refine SubG.cons rfl (VT.le_refl _) ?_ | (refine SubG.cons rfl (one_le ?_) ?_; (congr 1; first | omega | (simp; omega) | simp)))) (.drop (.keep (Own.le_refl _) (SubM.refl _)))
    · have hin : i = n := by omega
      subst hin
      refine J_exit ?_
      refine px_then ?_
      refine px_then ?_
      refine px_block ?_
      refine pj_then ?_
      refine J_seq ?_
      refine J_reg ?_
      refine st (s_loadB 0 rfl rfl rfl) rfl ?_
      refine a_storeB 1 rfl rfl rfl rfl rfl (leN rfl) rfl ?_
      refine st (s_assign rfl) rfl ?_
      refine Run.nil ?_
      refine pj_then ?_
      refine J_ret ?_
      refine retc2 Try.results33 (.cellB 1 rfl rfl rfl ?_) (.tmp rfl (one_le ?_))
      · rw [if_pos rfl]; exact VT.le_refl _
      · rw [if_pos rfl]
set_option maxHeartbeats 2000000 in
theorem Beside_ok (ra ca : Nat) (F : Nat → Nat → Int) (rb cb : Nat) (G : Nat → Nat → Int) (h1 : ra ≤ 1048576) (h2 : ca ≤ 1048576) (h4 : cb ≤ 1048576) (hF : ∀ i j, small (F i j)) (hG : ∀ i j, small (G i j)) :
    Ok Try.prog 18 [matF ra ca F, matF rb cb G] (resT (decide (ra = rb)) 50 ra (ca + cb) (fun i k => if k < ca then F i k else G i (k - ca))) := by
  unfold resT
  refine Ok.enter Try.func18 rfl Try.ntmps18 rfl (fun w O => ?_)
  have hI : ∀ (φ : VT), φ = φ := fun _ => rfl
  unfold matF
  refine J_seq ?_
  refine J_reg ?_
  refine a_boxS rfl rfl (ltN rfl) (fun b => ?_)
  refine a_boxS rfl rfl (ltN rfl) (fun b => ?_)
  refine a_allocS (T := 33) rfl rfl rfl (fun b => ?_)
  refine st (s_assign rfl) rfl ?_
  refine Run.nil ?_
  refine pj_then ?_
  refine J_seq ?_
  refine J_seq ?_
  refine J_reg ?_
  refine st (s_loadW 2 rfl rfl) rfl ?_
  refine st (s_loadW 1 rfl rfl) rfl ?_
  refine stS rfl rfl rfl rfl ?_
  refine PartsK.cons rfl ?_
  refine PartsK.cons rfl ?_
  refine PartsK.nil ?_
  refine st (s_callk (valid2_ok ra ca F rb cb G) rfl ⟨two_mat2, trivial⟩) rfl ?_
  refine st (s_not rfl) rfl ?_
  refine st (s_move rfl) rfl ?_
  refine sg1 rfl rfl (s_fieldAddr rfl) rfl ?_
  refine sg1 rfl rfl (s_loadB 2 rfl rfl rfl) rfl ?_
  refine sg1 rfl rfl (s_fieldAddr rfl) rfl ?_
  refine sg1 rfl rfl (s_loadB 1 rfl rfl rfl) rfl ?_
  refine sg1 rfl rfl (s_ne rfl rfl) rfl ?_
  refine st (s_pickF rfl rfl) rfl ?_
  refine Run.nil ?_
  refine pj_then ?_
  refine J_cond rfl (fun hc => ?_) (fun hc => ?_) <;> simp only [decide_eq_true_eq, decide_eq_false_iff_not, ne_eq, Decidable.not_not] at hc
  · have hne : ¬ ra = rb := by omega
    refine J_seq ?_
    refine J_reg ?_
    refine stB rfl rfl rfl ?_
    refine BuildK.nil ?_
    refine a_storeW 0 rfl rfl rfl rfl ?_
    refine st (s_assign rfl) rfl ?_
    refine Run.nil ?_
    refine pj_then ?_
    refine J_ret ?_
    refine pr_then ?_
    refine retc2 Try.results18 (.cellW 0 rfl rfl ?_) (.tmp rfl (one_le ?_))
    · rw [decide_eq_false hne]; exact zero_mat _
    · rw [decide_eq_false hne]; rfl
  · have he : ra = rb := by omega
    subst he
    refine J_skip ?_
    refine pj_then ?_
    refine J_seq ?_
    refine J_regd 13 mixed (by kernel_rfl) (by decide) ?_
    refine st (s_fieldAddr rfl) rfl ?_
    refine st (s_loadB 2 rfl rfl rfl) rfl ?_
    refine st (s_fieldAddr rfl) rfl ?_
    refine st (s_loadB 2 rfl rfl rfl) rfl ?_
    refine st (s_fieldAddr rfl) rfl ?_
    refine st (s_loadB 1 rfl rfl rfl) rfl ?_
    (refine st (s_add rfl rfl (wrap_i64 ?_ ?_)) rfl ?_; omega; omega)
    refine st (s_fieldAddr rfl) rfl ?_
    refine st (s_loadB 2 rfl rfl rfl) rfl ?_
    refine st (s_fieldAddr rfl) rfl ?_
    refine st (s_loadB 1 rfl rfl rfl) rfl ?_
    refine st (s_callk (combR_ok ra (fun i => rowF ca (F i)) (fun i => rowF cb (G i)) (fun i => rowF (ca + cb) (fun k => if k < ca then F i k else G i (k - ca))) (hF := fun i => by unfold rowF; infer_instance) (one (.func (.func 57) #[] #[])) h1 (fun i hi => Callable.fn (ownRow_ok ca cb (F i) (G i) h2 h4 (hF i) (hG i)))) rfl ⟨VT.le_refl _, VT.le_refl _, VT.le_refl _, trivial⟩) rfl ?_
    refine stB rfl rfl rfl ?_
    refine BuildK.cons rfl rfl rfl ?_
    refine BuildK.cons rfl rfl rfl ?_
    refine BuildK.cons rfl rfl rfl ?_
    refine BuildK.nil ?_
    refine Run.nil ?_
    refine a_storeW 0 rfl rfl rfl rfl ?_
    refine st (s_assign rfl) rfl ?_
    refine Run.nil ?_
    refine pj_then ?_
    refine J_ret ?_
    refine retc2 Try.results18 (.cellW 0 rfl rfl ?_) (.tmp rfl (one_le ?_))
    · simp only [decide_true, if_true]
      exact VT.le_refl _
    · simp
end Tor
end

section
set_option linter.unusedVariables false
set_option linter.unusedSimpArgs false
namespace Tor
open Go Go.RowKit Go.Proofs
/-- Some index is negative or not below n. -/
def outs (n : Nat) (l : List Int) : Bool := l.any fun x => decide (x < 0 ∨ (n : Int) ≤ x)
theorem outs_at {n : Nat} {l : List Int} (h : outs n l = false) {i : Nat} (hi : i < l.length) : 0 ≤ l.getD i 0 ∧ l.getD i 0 < n := by
  have := List.any_eq_false.1 h (l.getD i 0) (by simp only [List.getD, List.getElem?_eq_getElem hi, Option.getD_some]; exact List.getElem_mem hi)
  simp only [decide_eq_true_eq] at this; omega
/-- The picked elements. -/
def pickF (l m : List Int) (F : Nat → Nat → Int) : Nat → Nat → Int := fun i j => F (l.getD i 0).toNat (m.getD j 0).toNat
theorem getD_cast {l : List Int} {n i : Nat} (h : outs n l = false) (hi : i < l.length) : ∃ k : Nat, k < n ∧ l.getD i 0 = (k : Int) := ⟨(l.getD i 0).toNat, by have := outs_at h hi; omega, by have := outs_at h hi; omega⟩
/-- What is filled in up to the place (i, j), row by row. -/
def fill2 (F : Nat → Nat → Int) (i j : Nat) : Nat → Nat → Int := fun q k => if q < i ∨ (q = i ∧ k < j) then F q k else 0
theorem upd_fill2 {T : TypeId} {c : Nat} {bs : List Nat} {F : Nat → Nat → Int} {i j : Nat} (x : Int) (hx : x = F i j) :
    Own.le (rowsO T (.agg 2) c bs (upd2 (fun q k => bigT (fill2 F i j q k)) i j (bigT x))) (rowsO T (.agg 2) c bs (fun q k => bigT (fill2 F i (j + 1) q k))) := by
  subst hx
  refine rowsO_eq fun q k hq hk => ?_
  unfold upd2 fill2
  by_cases h : q = i ∧ k = j
  · obtain ⟨rfl, rfl⟩ := h; simp
  · rw [if_neg h]
    have e : (q < i ∨ q = i ∧ k < j + 1) ↔ (q < i ∨ q = i ∧ k < j) := by omega
    simp only [e]
theorem next_fill2 {c : Nat} {bs : List Nat} {F : Nat → Nat → Int} {i : Nat} : Own.le (ownR c bs (fill2 F i c)) (ownR c bs (fill2 F (i + 1) 0)) := by
  refine ownR_le fun q k hq hk => ?_
  unfold fill2
  have e : (q < i ∨ q = i ∧ k < c) ↔ (q < i + 1 ∨ q = i + 1 ∧ k < 0) := by omega
  simp only [e]
attribute [local irreducible] Tor.J Tor.PJ Tor.StepO Tor.one Tor.slT Tor.ptrT Tor.aggT Tor.tupT Tor.exT Tor.andT Tor.gT Tor.eP Tor.boxO Tor.sliO Tor.slV Tor.VT.le Tor.Ret Tor.anyT
attribute [local irreducible] bigT Tor.rowsO
set_option maxHeartbeats 8000000 in
theorem Pick_ok (r c : Nat) (F : Nat → Nat → Int) (l m : List Int) (hl : l.length ≤ 1048576) (hm : m.length ≤ 1048576) (hF : ∀ i j, small (F i j)) :
    Ok Try.prog 25 [matF r c F, numT .i64 l, numT .i64 m] (resT (!(outs r l || outs c m)) 1 l.length m.length (pickF l m F)) := by
  unfold resT matF numT
  refine Ok.enter Try.func25 rfl Try.ntmps25 rfl (fun w O => ?_)
  have hcl : ∀ (n : Nat) (l : List Int), ∀ x ∈ l, Callable Try.prog (cloT 63 [capT (n : Int)]) [one (.int .i64 x)] (one (.bool (decide (x < 0 ∨ (n : Int) ≤ x)))) := fun n l x hx => Callable.clo (Pick11_ok x n)
  have hcont : ∀ (n : Nat) (l : List Int), Ok Try.prog 64 [slT .one l.length (fun i => one (.int .i64 (l.getD i 0))), cloT 63 [capT (n : Int)]] (one (.bool (outs n l))) := fun n l => ContainsFunc_ok l _ _ (hcl n l)
  refine J_seq ?_
  refine J_reg ?_
  refine a_boxS rfl rfl (ltN rfl) (fun b => ?_)
  refine a_allocS (T := 33) rfl rfl rfl (fun b => ?_)
  refine st (s_assign rfl) rfl ?_
  refine Run.nil ?_
  refine pj_then ?_
  refine J_seq ?_
  refine J_reg ?_
  refine st (s_assign rfl) rfl ?_
  refine Run.nil ?_
  refine pj_then ?_
  refine J_seq ?_
  refine J_seq ?_
  refine J_reg ?_
  refine st (s_loadW 1 rfl rfl) rfl ?_
  rename_i ba
  refine st (s_callk (matValidF_ok r c F) rfl ⟨VT.le_refl _, trivial⟩) rfl ?_
  refine st (s_not rfl) rfl ?_
  refine st (s_move rfl) rfl ?_
  refine sg1 rfl rfl (s_move rfl) rfl ?_
  refine sg1 rfl rfl (s_move rfl) rfl ?_
  refine sg1 rfl rfl (s_fieldAddr rfl) rfl ?_
  refine sg1 rfl rfl (s_loadB 1 rfl rfl rfl) rfl ?_
  refine sg1 rfl rfl (s_callF (Callable.fn (Pick1_ok (r : Int))) rfl rfl ⟨VT.le_refl _, trivial⟩) rfl ?_
  refine sg1 rfl rfl (s_callk (hcont r l) rfl ⟨VT.le_refl _, VT.le_refl _, trivial⟩) rfl ?_
  refine st (s_pickF rfl rfl) rfl ?_
  refine st (s_move rfl) rfl ?_
  refine bsel (t := 25) rfl (fun o1 h1 => ?_)
  rw [h1]
  cases o1
  · refine sg1 rfl rfl (s_move rfl) rfl ?_
    refine sg1 rfl rfl (s_move rfl) rfl ?_
    refine sg1 rfl rfl (s_fieldAddr rfl) rfl ?_
    refine sg1 rfl rfl (s_loadB 1 rfl rfl rfl) rfl ?_
    refine sg1 rfl rfl (s_callF (Callable.fn (Pick1_ok (c : Int))) rfl rfl ⟨VT.le_refl _, trivial⟩) rfl ?_
    refine sg1 rfl rfl (s_callk (hcont c m) rfl ⟨VT.le_refl _, VT.le_refl _, trivial⟩) rfl ?_
    refine st (s_pickF rfl rfl) rfl ?_
    refine Run.nil ?_
    refine pj_then ?_
    refine J_cond rfl (fun h2 => ?_) (fun h2 => ?_)
    · refine J_seq ?_
      refine J_reg ?_
      refine stB rfl rfl rfl ?_
      refine BuildK.nil ?_
      refine a_storeW 0 rfl rfl rfl rfl ?_
      refine st (s_assign rfl) rfl ?_
      refine Run.nil ?_
      refine pj_then ?_
      refine J_ret ?_
      refine pr_then ?_
      refine retc2 Try.results25 (.cellW 0 rfl rfl ?_) (.tmp rfl (one_le ?_))
      · rw [h2]; simp only [Bool.or_true, Bool.not_true, Bool.false_eq_true, if_false]; exact zero_mat _
      · rw [h2]; simp
    · refine J_skip ?_
      refine pj_then ?_
      refine J_seq ?_
      refine J_reg ?_
      refine st (s_move rfl) rfl ?_
      refine st (s_len rfl) rfl ?_
      refine st (s_move rfl) rfl ?_
      refine st (s_len rfl) rfl ?_
      refine a_callM (New_ok l.length m.length hl hm) rfl ⟨VT.le_refl _, VT.le_refl _, trivial⟩ rfl rfl (fun s => ?_)
      obtain ⟨⟨bs, sv1, cap1⟩, hlen, hsv⟩ := s
      simp only at hlen hsv
      unfold newT
      refine a_allocS (T := 33) rfl rfl rfl (fun b => ?_)
      refine a_storeW 0 rfl rfl rfl rfl ?_
      refine Run.nil ?_
      refine pj_then ?_
      refine J_seq ?_
      refine J_seq ?_
      refine J_reg ?_
      refine st (s_move rfl) rfl ?_
      refine st (s_len rfl) rfl ?_
      refine st (s_move rfl) rfl ?_
      refine Run.nil ?_
      refine pj_then ?_
      refine J_block ?_
      rename_i b6
      refine J_loop (σ := Nat) (fun i => [(2, slT .one m.length (fun i => one (.int .i64 (m.getD i 0)))), (3, one (.pointer (some ⟨ba, 0, none⟩))), (6, one (.pointer (some ⟨b6, 0, none⟩))), (9, one (.pointer (some ⟨b, 0, none⟩))), (39, slT .one l.length (fun i => one (.int .i64 (l.getD i 0)))), (40, one (.int .i64 l.length)), (41, one (.int .i64 (i : Nat)))])
        (fun i => [boxO b 33 3 [(0, .one, one (.int .i64 l.length)), (1, .one, one (.int .i64 m.length)), (2, .one, one (slV sv1 l.length cap1))], outO sv1 cap1 l.length m.length bs, ownR m.length bs (fill2 (pickF l m F) i 0),
          boxO b6 33 3 (zeroC #[Value.int IntKind.i64 0, Value.int IntKind.i64 0, Value.slice none 0 0] [(0, Lay.one), (1, Lay.one), (2, Lay.one)]),
          boxO ba 33 3 [(0, .one, one (.int .i64 r)), (1, .one, one (.int .i64 c)), (2, .one, slT .one r (fun i => rowF c (F i)))]])
        (fun i => i ≤ l.length) (fun i => l.length - i) 0 (Nat.zero_le _) (by repeat (first | exact SubG.nil | refine SubG.cons rfl (VT.le_refl _) ?_ | (refine SubG.cons rfl (one_le ?_) ?_; (congr 1; first | omega | (simp; omega) | simp)))) (.keep (Own.le_refl _) (.keep (Own.le_refl _) (.keep (ownR_le fun i j hi hj => by simp [fill2]) (SubM.refl _)))) (fun i hi => ?_)
      refine J_seq ?_
      refine J_reg ?_
      refine st (s_lt rfl rfl) rfl ?_
      refine Run.nil ?_
      refine pj_then ?_
      refine J_seq ?_
      refine J_cond rfl (fun hc => ?_) (fun hc => ?_) <;> simp only [decide_eq_true_eq, decide_eq_false_iff_not, Int.ofNat_lt] at hc
      · obtain ⟨bo, rfl⟩ := sv_some hsv (by omega)
        obtain ⟨x, hx, ex⟩ := getD_cast h1 hc
        refine J_skip ?_
        refine pj_then ?_
        refine J_seq ?_
        refine J_block ?_
        refine J_seq ?_
        refine J_reg ?_
        refine st (s_move rfl) rfl ?_
        (refine st (s_indexIN rfl rfl ?_) rfl ?_; omega)
        refine st (s_load rfl) rfl ?_
        refine st (s_assign rfl) rfl ?_
        refine st (s_assign rfl) rfl ?_
        refine Run.nil ?_
        refine pj_then ?_
        refine J_seq ?_
        refine J_reg ?_
        refine st (s_move rfl) rfl ?_
        refine st (s_len rfl) rfl ?_
        refine st (s_move rfl) rfl ?_
        refine Run.nil ?_
        refine pj_then ?_
        refine J_block ?_
        rw [ex]
        skip
        refine J_loop (σ := Nat) (fun j => [(2, slT .one m.length (fun i => one (.int .i64 (m.getD i 0)))), (3, one (.pointer (some ⟨ba, 0, none⟩))), (6, one (.pointer (some ⟨b6, 0, none⟩))), (9, one (.pointer (some ⟨b, 0, none⟩))), (10, one (.int .i64 (i : Nat))), (11, one (.int .i64 (x : Nat))), (39, slT .one l.length (fun i => one (.int .i64 (l.getD i 0)))), (40, one (.int .i64 l.length)), (41, one (.int .i64 (i : Nat))), (46, slT .one m.length (fun i => one (.int .i64 (m.getD i 0)))), (47, one (.int .i64 m.length)), (48, one (.int .i64 (j : Nat)))])
          (fun j => [boxO b 33 3 [(0, .one, one (.int .i64 l.length)), (1, .one, one (.int .i64 m.length)), (2, .one, one (slV (some bo) l.length cap1))], outO (some bo) cap1 l.length m.length bs, ownR m.length bs (fill2 (pickF l m F) i j),
          boxO b6 33 3 (zeroC #[Value.int IntKind.i64 0, Value.int IntKind.i64 0, Value.slice none 0 0] [(0, Lay.one), (1, Lay.one), (2, Lay.one)]),
          boxO ba 33 3 [(0, .one, one (.int .i64 r)), (1, .one, one (.int .i64 c)), (2, .one, slT .one r (fun i => rowF c (F i)))]])
          (fun j => j ≤ m.length) (fun j => m.length - j) 0 (Nat.zero_le _) (by repeat (first | exact SubG.nil | refine SubG.cons rfl (VT.le_refl _) ?_ | (refine SubG.cons rfl (one_le ?_) ?_; (congr 1; first | omega | (simp; omega) | simp)))) (SubM.refl _) (fun j hj => ?_)
        refine J_seq ?_
        refine J_reg ?_
        refine st (s_lt rfl rfl) rfl ?_
        refine Run.nil ?_
        refine pj_then ?_
        refine J_seq ?_
        refine J_cond rfl (fun hc2 => ?_) (fun hc2 => ?_) <;> simp only [decide_eq_true_eq, decide_eq_false_iff_not, Int.ofNat_lt] at hc2
        · obtain ⟨y, hy, ey⟩ := getD_cast h2 hc2
          refine J_skip ?_
          refine pj_then ?_
          refine J_seq ?_
          refine J_block ?_
          refine J_seq ?_
          refine J_reg ?_
          refine st (s_move rfl) rfl ?_
          (refine st (s_indexIN rfl rfl ?_) rfl ?_; omega)
          refine st (s_load rfl) rfl ?_
          refine st (s_assign rfl) rfl ?_
          refine st (s_assign rfl) rfl ?_
          refine Run.nil ?_
          refine pj_then ?_
          rw [ey]
          skip
          refine J_regd 16 mixed (by kernel_rfl) (by decide) ?_
          unfold rowF
          refine st (s_fieldAddr rfl) rfl ?_
          refine st (s_loadB 0 rfl rfl rfl) rfl ?_
          refine st (s_move rfl) rfl ?_
          (refine st (s_indexON rfl rfl ?_) rfl ?_; omega)
          (refine st (s_loadE 1 rfl rfl ?_) rfl ?_; omega)
          refine st (s_move rfl) rfl ?_
          refine st (s_fieldAddr rfl) rfl ?_
          refine st (s_loadB 4 rfl rfl rfl) rfl ?_
          refine st (s_move rfl) rfl ?_
          (refine st (s_indexIN rfl rfl ?_) rfl ?_; omega)
          refine st (s_load rfl) rfl ?_
          refine st (s_move rfl) rfl ?_
          (refine st (s_indexIN rfl rfl ?_) rfl ?_; omega)
          refine st (s_load rfl) rfl ?_
          refine st (s_callk (own_ok (F x y) (hF x y)) rfl ⟨VT.le_refl _, trivial⟩) rfl ?_
          (refine st (s_indexON rfl rfl ?_) rfl ?_; omega)
          refine Run.nil ?_
          (refine a_storeR 2 rfl rfl rfl (getq ?_) ?_ rfl ?_; omega; omega)
          refine Run.nil ?_
          refine pn_block ?_
          refine pj_then ?_
          refine J_reg ?_
          (refine st (s_add rfl rfl (wrap_i64 ?_ ?_)) rfl ?_; omega; omega)
          refine st (s_move rfl) rfl ?_
          refine Run.nil ?_
          refine pj_round (s := j) (j + 1) (show _ from by omega) (by show m.length - (j + 1) < m.length - j; omega) (by repeat (first | exact SubG.nil | refine SubG.cons rfl (VT.le_refl _) ?_ | (refine SubG.cons rfl (one_le ?_) ?_; (congr 1; first | omega | (simp; omega) | simp)))) (.keep (Own.le_refl _) (.keep (Own.le_refl _) (.keep (upd_fill2 _ ?_) (SubM.refl _))))
          unfold pickF; rw [ex, ey]; rfl
        · have hjm : j = m.length := by omega
          subst hjm
          refine J_exit ?_
          refine px_then ?_
          refine px_then ?_
          refine px_block ?_
          refine pn_block ?_
          refine pj_then ?_
          refine J_reg ?_
          (refine st (s_add rfl rfl (wrap_i64 ?_ ?_)) rfl ?_; omega; omega)
          refine st (s_move rfl) rfl ?_
          refine Run.nil ?_
          exact pj_round (s := i) (i + 1) (show _ from by omega) (by show l.length - (i + 1) < l.length - i; omega) (by repeat (first | exact SubG.nil | refine SubG.cons rfl (VT.le_refl _) ?_ | (refine SubG.cons rfl (one_le ?_) ?_; (congr 1; first | omega | (simp; omega) | simp)))) (.keep (Own.le_refl _) (.keep (Own.le_refl _) (.keep next_fill2 (SubM.refl _))))
      · have hin : i = l.length := by omega
        subst hin
        refine J_exit ?_
        refine px_then ?_
        refine px_then ?_
        refine px_block ?_
        refine pj_then ?_
        refine J_seq ?_
        refine J_reg ?_
        refine st (s_loadW 0 rfl rfl) rfl ?_
        refine a_storeW 3 rfl rfl rfl rfl ?_
        refine st (s_assign rfl) rfl ?_
        refine Run.nil ?_
        refine pj_then ?_
        refine J_ret ?_
        have hperm : ∀ (x y z u t : Own), [x, y, z, u, t].Perm ([y, z] ++ [x, u, t]) := fun x y z u t => (List.Perm.swap y x _).trans (List.Perm.cons y (List.Perm.swap z x _))
        refine PJ_open [outO sv1 cap1 l.length m.length bs, ownR m.length bs (fill2 (pickF l m F) l.length 0)] (hperm _ _ _ _ _) (.keep (EntO.refl _) (.keep (EntO.box (newT_open hlen ⟨by simp, by simp, by simp⟩)) (.keep (EntO.refl _) .nil))) (EntG.refl _) ?_
        refine retc2 Try.results25 (.cellW 1 rfl rfl ?_) (.tmp rfl (one_le ?_))
        · rw [h2]; simp only [h1, Bool.or_self, Bool.not_false, if_true]; exact matF_le fun a b ha hb => by simp [fill2, ha]
        · rw [h2]; simp [h1]
  · refine sg0 rfl rfl rfl rfl ?_
    refine sg0 rfl rfl rfl rfl ?_
    refine sg0 rfl rfl rfl rfl ?_
    refine sg0 rfl rfl rfl rfl ?_
    refine sg0 rfl rfl rfl rfl ?_
    refine sg0 rfl rfl rfl rfl ?_
    refine st (s_pickT rfl rfl) rfl ?_
    refine Run.nil ?_
    refine pj_then ?_
    refine J_cond rfl (fun h2 => ?_) (fun h2 => ?_)
    · refine J_seq ?_
      refine J_reg ?_
      refine stB rfl rfl rfl ?_
      refine BuildK.nil ?_
      refine a_storeW 0 rfl rfl rfl rfl ?_
      refine st (s_assign rfl) rfl ?_
      refine Run.nil ?_
      refine pj_then ?_
      refine J_ret ?_
      refine pr_then ?_
      refine retc2 Try.results25 (.cellW 0 rfl rfl ?_) (.tmp rfl (one_le ?_))
      · simp only [Bool.true_or, Bool.not_true, Bool.false_eq_true, if_false]; exact zero_mat _
      · simp
    · cases h2
end Tor
end

section
set_option linter.unusedVariables false
set_option linter.unusedSimpArgs false
namespace Tor
open Go Go.RowKit Go.Proofs
attribute [local irreducible] Tor.J Tor.PJ Tor.StepO Tor.one Tor.slT Tor.ptrT Tor.aggT Tor.tupT Tor.exT Tor.andT Tor.gT Tor.eP Tor.boxO Tor.sliO Tor.slV Tor.VT.le Tor.Ret Tor.anyT
set_option maxHeartbeats 4000000 in
theorem MMul_ok (ra ca : Nat) (F : Nat → Nat → Int) (rb cb : Nat) (G : Nat → Nat → Int) (h1 : ra ≤ 1048576) (h2 : ca ≤ 1048576) (h4 : cb ≤ 1048576) (hF : ∀ i j, mod4 (F i j)) (hG : ∀ i j, mod4 (G i j)) :
    Ok Try.prog 20 [matF ra ca F, matF rb cb G] (resT (decide (ca = rb)) 50 ra cb (mulF ca F G)) := by
  unfold resT
  refine Ok.enterD Try.func20 rfl Try.ntmps20 rfl (fun w O => ?_)
  unfold matF
  refine J_seq ?_
  refine J_reg ?_
  refine a_boxS rfl rfl (ltN rfl) (fun b => ?_)
  refine a_boxS rfl rfl (ltN rfl) (fun b => ?_)
  refine a_allocS (T := 33) rfl rfl rfl (fun b => ?_)
  refine st (s_assign rfl) rfl ?_
  refine Run.nil ?_
  refine pj_then ?_
  refine J_seq ?_
  refine J_reg ?_
  refine a_defer rfl ?_
  refine Run.nil ?_
  refine pj_then ?_
  refine J_seq ?_
  refine J_seq ?_
  refine J_reg ?_
  refine st (s_loadW 2 rfl rfl) rfl ?_
  refine st (s_loadW 1 rfl rfl) rfl ?_
  refine stS rfl rfl rfl rfl ?_
  refine PartsK.cons rfl ?_
  refine PartsK.cons rfl ?_
  refine PartsK.nil ?_
  refine st (s_callk (valid2_ok ra ca F rb cb G) rfl ⟨two_mat2, trivial⟩) rfl ?_
  refine st (s_not rfl) rfl ?_
  refine st (s_move rfl) rfl ?_
  refine sg1 rfl rfl (s_fieldAddr rfl) rfl ?_
  refine sg1 rfl rfl (s_loadB 2 rfl rfl rfl) rfl ?_
  refine sg1 rfl rfl (s_fieldAddr rfl) rfl ?_
  refine sg1 rfl rfl (s_loadB 1 rfl rfl rfl) rfl ?_
  refine sg1 rfl rfl (s_ne rfl rfl) rfl ?_
  refine st (s_pickF rfl rfl) rfl ?_
  refine Run.nil ?_
  refine pj_then ?_
  rename_i ba bb
  refine J_cond rfl (fun hc => ?_) (fun hc => ?_) <;> simp only [decide_eq_true_eq, decide_eq_false_iff_not, ne_eq, Decidable.not_not] at hc
  · have hne : ¬ ca = rb := by omega
    refine J_seq ?_
    refine J_reg ?_
    refine stB rfl rfl rfl ?_
    refine BuildK.nil ?_
    refine a_storeW 0 rfl rfl rfl rfl ?_
    refine st (s_assign rfl) rfl ?_
    refine Run.nil ?_
    refine pj_then ?_
    refine J_ret ?_
    refine pr_then ?_
    refine pj_idle (retc2 Try.results20 (.cellW 0 rfl rfl ?_) (.tmp rfl (one_le ?_)))
    · rw [decide_eq_false hne]; exact zero_mat _
    · rw [decide_eq_false hne]; rfl
  · have he : ca = rb := by omega
    subst he
    refine J_skip ?_
    refine pj_then ?_
    refine J_seq ?_
    refine J_regF mixed (by kernel_rfl) (by kernel_rfl) (fun a1 w1 hS1 => ?_)
    refine ux (fun B => s_fieldAddr rfl) rfl rfl ?_
    refine ux (fun B => s_loadB 2 rfl rfl rfl) rfl rfl ?_
    refine ux (fun B => s_fieldAddr rfl) rfl rfl ?_
    refine ux (fun B => s_loadB 1 rfl rfl rfl) rfl rfl ?_
    refine ux (fun B => s_fieldAddr rfl) rfl rfl ?_
    refine ux (fun B => s_loadB 2 rfl rfl rfl) rfl rfl ?_
    refine ux (fun B => s_makeSliceF w1.heap.size ra rfl rfl rfl rfl rfl rfl rfl ?_) rfl rfl ?_
    · omega
    refine uB rfl rfl rfl ?_
    refine BuildK.cons rfl rfl rfl ?_
    refine BuildK.cons rfl rfl rfl ?_
    refine BuildK.cons rfl rfl rfl ?_
    refine BuildK.nil ?_
    refine ua rfl ?_
    refine us rfl ?_
    refine .nil (fun γ a2 w2 hS2 hx hk2 => ?_)
    obtain ⟨b2, hS3⟩ := St_claimBR (t := 6) (b := γ 6) (T := 33) (m := 3) (k := 2) (n := ra) (cs1 := [(0, .one, one (.int .i64 ra)), (1, .one, one (.int .i64 cb))])
      (Γk := [(2, one (.pointer (some ⟨ba, 0, none⟩))), (3, one (.pointer (some ⟨bb, 0, none⟩))), (4, one (.pointer (some ⟨b, 0, none⟩)))])
      hS1 rfl hS2 hx hk2 (.cons rfl (by kernel_rfl) (.cons rfl (by kernel_rfl) (.cons rfl (by kernel_rfl) .nil))) rfl rfl (fun q hq => by
        rcases List.mem_cons.1 hq with rfl | hq
        · exact ⟨_, rfl, rfl⟩
        rcases List.mem_cons.1 hq with rfl | hq
        · exact ⟨_, rfl, rfl⟩
        cases hq)
    generalize γ 6 = b6 at hS3
    refine PJ_app ?_ hS3
    clear hS3 hS2 hx hk2 hS1
    refine pj_then ?_
    refine J_seq ?_
    refine J_seq ?_
    refine J_reg ?_
    refine st (s_fieldAddr rfl) rfl ?_
    refine st (s_loadB 4 rfl rfl rfl) rfl ?_
    refine st (s_len rfl) rfl ?_
    refine st (s_move rfl) rfl ?_
    refine Run.nil ?_
    refine pj_then ?_
    refine J_block ?_
    refine J_loop (σ := Nat) (fun i => [(3, one (.pointer (some ⟨bb, 0, none⟩))), (4, one (.pointer (some ⟨b, 0, none⟩))), (6, one (.pointer (some ⟨b6, 0, none⟩))), (31, slT .one ra (fun i => rowF ca (F i))), (32, one (.int .i64 ra)), (33, one (.int .i64 (i : Nat)))])
      (fun i => [boxO b6 33 3 [(2, .one, one (slV (some b2) ra ra)), (0, .one, one (.int .i64 ra)), (1, .one, one (.int .i64 cb))], sliO (some b2) 35 .one ra ra (fun q => if q < i then rowF cb (mulF ca F G q) else anyT),
        boxO b 33 3 (zeroC #[Value.int IntKind.i64 0, Value.int IntKind.i64 0, Value.slice none 0 0] [(0, Lay.one), (1, Lay.one), (2, Lay.one)]),
        boxO bb 33 3 [(0, .one, one (.int .i64 ca)), (1, .one, one (.int .i64 cb)), (2, .one, slT .one ca fun i => rowF cb (G i))]])
      (fun i => i ≤ ra) (fun i => ra - i) 0 (Nat.zero_le _) (by repeat (first | exact SubG.nil | refine SubG.cons rfl (VT.le_refl _) ?_ | (refine SubG.cons rfl (one_le ?_) ?_; (congr 1; first | omega | (simp; omega) | simp)))) (.keep (Own.le_refl _) (.keep (sliO_le fun q hq => by rw [if_neg (by omega)]; exact le_any _) (.keep (Own.le_refl _) (.keep (Own.le_refl _) (.drop .nil))))) (fun i hi => ?_)
    refine J_seq ?_
    refine J_reg ?_
    refine st (s_lt rfl rfl) rfl ?_
    refine Run.nil ?_
    refine pj_then ?_
    refine J_seq ?_
    refine J_cond rfl (fun hc => ?_) (fun hc => ?_) <;> simp only [decide_eq_true_eq, decide_eq_false_iff_not, Int.ofNat_lt] at hc
    · refine J_skip ?_
      refine pj_then ?_
      refine J_seq ?_
      refine J_block ?_
      refine J_seq ?_
      refine J_reg ?_
      refine st (s_move rfl) rfl ?_
      (refine st (s_indexIN rfl rfl ?_) rfl ?_; omega)
      refine st (s_load rfl) rfl ?_
      refine st (s_assign rfl) rfl ?_
      refine st (s_assign rfl) rfl ?_
      refine Run.nil ?_
      refine pj_then ?_
      refine J_regd 7 mixed (by kernel_rfl) (by decide) ?_
      refine st (s_fieldAddr rfl) rfl ?_
      refine st (s_loadB 0 rfl rfl rfl) rfl ?_
      refine st (s_move rfl) rfl ?_
      refine st (s_move rfl) rfl ?_
      refine st (s_loadW 3 rfl rfl) rfl ?_
      refine st (s_callk (mtimes_ok ca cb (F i) G h2 h4 (hF i) hG) rfl ⟨VT.le_refl _, VT.le_refl _, trivial⟩) rfl ?_
      have hfl : Flat (rowF cb fun j => sumF ca fun k => F i k * G k j) .one := by unfold rowF; infer_instance
      (refine st (s_indexON rfl rfl ?_) rfl ?_; omega)
      refine Run.nil ?_
      (refine a_storeE 1 rfl rfl rfl ?_ rfl ?_; omega)
      refine Run.nil ?_
      refine pn_block ?_
      refine pj_then ?_
      refine J_reg ?_
      (refine st (s_add rfl rfl (wrap_i64 ?_ ?_)) rfl ?_; omega; omega)
      refine st (s_move rfl) rfl ?_
      refine Run.nil ?_
      refine pj_round (s := i) (i + 1) (show _ from by omega) (by show ra - (i + 1) < ra - i; omega) (by repeat (first | exact SubG.nil | refine SubG.cons rfl (VT.le_refl _) ?_ | (refine SubG.cons rfl (one_le ?_) ?_; (congr 1; first | omega | (simp; omega) | simp)))) (.keep (Own.le_refl _) (.keep (sliO_eq fun q hq => ?_) (SubM.refl _)))
      unfold upd
      by_cases h : q = i
      · subst h; rw [if_pos rfl, if_pos (by omega)]; rfl
      · rw [if_neg h]
        have e : q < i + 1 ↔ q < i := by omega
        simp only [e]
    · have hin : i = ra := by omega
      subst hin
      refine J_exit ?_
      refine px_then ?_
      refine px_then ?_
      refine px_block ?_
      refine pj_then ?_
      refine J_seq ?_
      refine J_reg ?_
      refine st (s_loadW 0 rfl rfl) rfl ?_
      refine a_storeW 2 rfl rfl rfl rfl ?_
      refine st (s_assign rfl) rfl ?_
      refine Run.nil ?_
      refine pj_then ?_
      refine J_ret ?_
      have hperm : ∀ (x y z u : Own), [x, y, z, u].Perm ([y] ++ [x, z, u]) := fun x y z u => List.Perm.swap y x _
      refine PJ_open [sliO (some b2) 35 .one i i (fun q => if q < i then rowF cb (mulF ca F G q) else anyT)] (hperm _ _ _ _) (.keep (EntO.refl _) (.keep (EntO.box (cs' := [(0, .one, one (.int .i64 i)), (1, .one, one (.int .i64 cb)), (2, .one, slT .one i (fun q => rowF cb (mulF ca F G q)))]) (.cons (by simp) (Ent.refl _) (.cons (by simp) (Ent.refl _) (.cons List.mem_cons_self (Ent.slE List.mem_cons_self (fun q hq => Ent.le (by rw [if_pos hq]; exact VT.le_refl _))) .nil)))) (.keep (EntO.refl _) .nil))) (EntG.refl _) ?_
      refine pj_idle (retc2 Try.results20 (.cellW 1 rfl rfl ?_) (.tmp rfl (one_le ?_)))
      · simp only [decide_true, if_true]
        exact VT.le_refl _
      · simp
end Tor
end

section
set_option linter.unusedVariables false
set_option linter.unusedSimpArgs false
namespace Tor
open Go Go.RowKit Go.Proofs
theorem ConvM.nilSl {T : TypeId} {L : Lay} {φ : Nat → VT} (M : Mem) : ConvM M (sliO none T L 0 0 φ :: M) :=
  ⟨by simp [sliO], fun g h H o ho => by
    rcases List.mem_cons.1 ho with rfl | ho
    · exact ⟨Nat.le_refl _, by decide, fun _ => rfl, fun b hb => by cases hb⟩
    · exact H o ho⟩
/-- The rows that lie ahead of the i-th matrix. -/
def upTo (ra rb i : Nat) : Nat := if i = 0 then 0 else if i = 1 then ra else ra + rb
/-- Stacked matrices. -/
def stackF (ra : Nat) (F G : Nat → Nat → Int) : Nat → Nat → Int := fun i k => if i < ra then F i k else G (i - ra) k
attribute [local irreducible] Tor.J Tor.PJ Tor.StepO Tor.one Tor.slT Tor.ptrT Tor.aggT Tor.tupT Tor.exT Tor.andT Tor.gT Tor.eP Tor.boxO Tor.sliO Tor.slV Tor.VT.le Tor.Ret Tor.anyT
set_option maxHeartbeats 8000000 in
theorem Stack_ok (ra ca : Nat) (F : Nat → Nat → Int) (rb cb : Nat) (G : Nat → Nat → Int) (h1 : ra ≤ 1048576) (h2 : ca ≤ 1048576) (h3 : rb ≤ 1048576) (hF : ∀ i j, small (F i j)) (hG : ∀ i j, small (G i j)) :
    Ok Try.prog 17 [matF ra ca F, matF rb cb G] (resT (decide (ca = cb)) 50 (ra + rb) ca (stackF ra F G)) := by
  unfold resT
  refine Ok.enter Try.func17 rfl Try.ntmps17 rfl (fun w O => ?_)
  unfold matF
  refine J_seq ?_
  refine J_reg ?_
  refine a_boxS rfl rfl (ltN rfl) (fun b => ?_)
  refine a_boxS rfl rfl (ltN rfl) (fun b => ?_)
  refine a_allocS (T := 33) rfl rfl rfl (fun b => ?_)
  refine st (s_assign rfl) rfl ?_
  refine Run.nil ?_
  refine pj_then ?_
  refine J_seq ?_
  refine J_seq ?_
  refine J_reg ?_
  refine st (s_loadW 2 rfl rfl) rfl ?_
  refine st (s_loadW 1 rfl rfl) rfl ?_
  refine stS rfl rfl rfl rfl ?_
  refine PartsK.cons rfl ?_
  refine PartsK.cons rfl ?_
  refine PartsK.nil ?_
  refine st (s_callk (valid2_ok ra ca F rb cb G) rfl ⟨two_mat2, trivial⟩) rfl ?_
  refine st (s_not rfl) rfl ?_
  refine st (s_move rfl) rfl ?_
  refine sg1 rfl rfl (s_fieldAddr rfl) rfl ?_
  refine sg1 rfl rfl (s_loadB 2 rfl rfl rfl) rfl ?_
  refine sg1 rfl rfl (s_fieldAddr rfl) rfl ?_
  refine sg1 rfl rfl (s_loadB 1 rfl rfl rfl) rfl ?_
  refine sg1 rfl rfl (s_ne rfl rfl) rfl ?_
  refine st (s_pickF rfl rfl) rfl ?_
  refine Run.nil ?_
  refine pj_then ?_
  refine J_cond rfl (fun hc => ?_) (fun hc => ?_) <;> simp only [decide_eq_true_eq, decide_eq_false_iff_not, ne_eq, Decidable.not_not] at hc
  · have hne : ¬ ca = cb := by omega
    refine J_seq ?_
    refine J_reg ?_
    refine stB rfl rfl rfl ?_
    refine BuildK.nil ?_
    refine a_storeW 0 rfl rfl rfl rfl ?_
    refine st (s_assign rfl) rfl ?_
    refine Run.nil ?_
    refine pj_then ?_
    refine J_ret ?_
    refine pr_then ?_
    refine retc2 Try.results17 (.cellW 0 rfl rfl ?_) (.tmp rfl (one_le ?_))
    · rw [decide_eq_false hne]; exact zero_mat _
    · rw [decide_eq_false hne]; rfl
  · have he : ca = cb := by omega
    subst he
    refine J_skip ?_
    refine pj_then ?_
    refine J_seq ?_
    refine J_reg ?_
    refine st (s_fieldAddr rfl) rfl ?_
    refine st (s_loadB 2 rfl rfl rfl) rfl ?_
    refine st (s_fieldAddr rfl) rfl ?_
    refine st (s_loadB 1 rfl rfl rfl) rfl ?_
    (refine st (s_add rfl rfl (wrap_i64 ?_ ?_)) rfl ?_; omega; omega)
    refine st (s_fieldAddr rfl) rfl ?_
    refine st (s_loadB 2 rfl rfl rfl) rfl ?_
    refine stB rfl rfl rfl ?_
    refine BuildK.cons rfl rfl rfl ?_
    refine BuildK.cons rfl rfl rfl ?_
    refine BuildK.nil ?_
    refine a_allocS (T := 33) rfl rfl rfl (fun b => ?_)
    refine a_storeW 0 rfl rfl rfl rfl ?_
    refine Run.nil ?_
    refine pj_then ?_
    refine J_seq ?_
    refine J_seq ?_
    refine J_reg ?_
    refine st (s_loadW 3 rfl rfl) rfl ?_
    refine st (s_loadW 2 rfl rfl) rfl ?_
    refine stB rfl rfl rfl ?_
    refine BuildK.cons rfl rfl rfl ?_
    refine BuildK.cons rfl rfl rfl ?_
    refine BuildK.nil ?_
    refine st (s_move rfl) rfl ?_
    refine Run.nil ?_
    refine pj_then ?_
    refine J_block ?_
    rename_i b2 b3 b4
    have hlk1 : ∀ i, i < 2 → lookC [(0, Lay.agg 3, matF ra ca F), (3, Lay.agg 3, matF rb ca G)] (i * (Lay.agg 3).sz) = some (.agg 3, matF (if i = 0 then ra else rb) ca (if i = 0 then F else G)) := fun i hi => by
      rcases i with _ | _ | i
      · rfl
      · rfl
      · omega
    have hsm1 : ∀ i j k, small ((if i = 0 then F else G) j k) := fun i j k => by split <;> first | exact hF _ _ | exact hG _ _
    revert b
    intro b6
    refine J_conv (ConvM.nilSl (T := 35) (L := .one) (φ := fun q => rowF ca (stackF ra F G q)) _) ?_
    refine J_loop (σ := Nat × Option Nat × Nat) (fun s => [(4, one (.pointer (some ⟨b4, 0, none⟩))), (6, one (.pointer (some ⟨b6, 0, none⟩))), (34, aggT 6 [(0, .agg 3, matF ra ca F), (3, .agg 3, matF rb ca G)]), (35, one (.int .i64 (s.1 : Nat)))])
      (fun s => [sliO s.2.1 35 .one s.2.2 (upTo ra rb s.1) (fun q => rowF ca (stackF ra F G q)), boxO b6 33 3 [(0, .one, one (.int .i64 ((ra : Int) + rb))), (1, .one, one (.int .i64 ca)), (2, .one, one (slV s.2.1 (upTo ra rb s.1) s.2.2))],
        boxO b4 33 3 (zeroC #[Value.int IntKind.i64 0, Value.int IntKind.i64 0, Value.slice none 0 0] [(0, Lay.one), (1, Lay.one), (2, Lay.one)])])
      (fun s => s.1 ≤ 2) (fun s => 2 - s.1) (0, none, 0) (Nat.zero_le _) (by repeat (first | exact SubG.nil | refine SubG.cons rfl (VT.le_refl _) ?_ | (refine SubG.cons rfl (one_le ?_) ?_; (congr 1; first | omega | (simp; omega) | simp)))) (.keep (Own.le_refl _) (.keep (boxO_le fun q hq => ?_) (.keep (Own.le_refl _) (SubM.nilR _)))) (fun s hs => ?_)
    · rcases List.mem_cons.1 hq with rfl | hq
      · exact ⟨_, List.mem_cons_self, VT.le_refl _⟩
      rcases List.mem_cons.1 hq with rfl | hq
      · exact ⟨_, List.mem_cons_of_mem _ List.mem_cons_self, VT.le_refl _⟩
      rcases List.mem_cons.1 hq with rfl | hq
      · exact ⟨one (.slice none 0 0), List.mem_cons_of_mem _ (List.mem_cons_of_mem _ List.mem_cons_self), one_le (by simp [upTo, slV])⟩
      · cases hq
    obtain ⟨i, sv0, cap0⟩ := s
    simp only at hs ⊢
    refine J_seq ?_
    refine J_reg ?_
    refine st (s_lt rfl rfl) rfl ?_
    refine Run.nil ?_
    refine pj_then ?_
    refine J_seq ?_
    refine J_cond rfl (fun hc => ?_) (fun hc => ?_) <;> simp only [decide_eq_true_eq, decide_eq_false_iff_not] at hc
    · have hi2 : i < 2 := by omega
      have hup : upTo ra rb i ≤ 2097152 ∧ upTo ra rb i + (if i = 0 then ra else rb) = upTo ra rb (i + 1) ∧ upTo ra rb i + (if i = 0 then ra else rb) ≤ 2097152 := by
        unfold upTo
        rcases i with _ | _ | i
        · simp; omega
        · simp; omega
        · omega
      have hrow : ∀ j, j < (if i = 0 then ra else rb) → (if i = 0 then F else G) j = stackF ra F G (upTo ra rb i + j) := fun j hj => by
        unfold upTo stackF
        rcases i with _ | _ | i
        · simp at hj ⊢; funext k; rw [if_pos hj]
        · simp; funext k; rw [if_neg (by omega)]
        · omega
      have hlk := hlk1 i hi2
      have hsm := fun j k => hsm1 i j k
      generalize (if i = 0 then F else G) = H at *
      generalize (if i = 0 then ra else rb) = R at *
      refine J_skip ?_
      refine pj_then ?_
      refine J_seq ?_
      refine J_block ?_
      refine J_seq ?_
      refine J_reg ?_
      refine st (s_indexA rfl rfl hi2 hlk) rfl ?_
      unfold matF
      refine a_allocS (T := 33) rfl rfl rfl (fun b => ?_)
      refine a_storeW 0 rfl rfl rfl rfl ?_
      refine Run.nil ?_
      refine pj_then ?_
      refine J_seq ?_
      refine J_reg ?_
      refine st (s_fieldAddr rfl) rfl ?_
      refine st (s_loadB 0 rfl rfl rfl) rfl ?_
      refine st (s_len rfl) rfl ?_
      refine st (s_move rfl) rfl ?_
      refine Run.nil ?_
      refine pj_then ?_
      refine J_block ?_
      refine J_loop (σ := Nat × Option Nat × Nat) (fun s => [(4, one (.pointer (some ⟨b4, 0, none⟩))), (6, one (.pointer (some ⟨b6, 0, none⟩))), (34, aggT 6 [(0, .agg 3, matF ra ca F), (3, .agg 3, matF rb ca G)]), (35, one (.int .i64 (i : Nat))), (39, slT .one R (fun q => rowF ca (H q))), (40, one (.int .i64 R)), (41, one (.int .i64 (s.1 : Nat)))])
        (fun s => [sliO s.2.1 35 .one s.2.2 (upTo ra rb i + s.1) (fun q => rowF ca (stackF ra F G q)), boxO b6 33 3 [(0, .one, one (.int .i64 ((ra : Int) + rb))), (1, .one, one (.int .i64 ca)), (2, .one, one (slV s.2.1 (upTo ra rb i + s.1) s.2.2))],
          boxO b4 33 3 (zeroC #[Value.int IntKind.i64 0, Value.int IntKind.i64 0, Value.slice none 0 0] [(0, Lay.one), (1, Lay.one), (2, Lay.one)])])
        (fun s => s.1 ≤ R) (fun s => R - s.1) (0, sv0, cap0) (Nat.zero_le _) (by unfold matF; repeat (first | exact SubG.nil | refine SubG.cons rfl (VT.le_refl _) ?_ | (refine SubG.cons rfl (one_le ?_) ?_; (congr 1; first | omega | (simp; omega) | simp)))) (.drop (.keep (Own.le_refl _) (.keep (Own.le_refl _) (SubM.refl _)))) (fun s hs2 => ?_)
      obtain ⟨j, sv1, cap1⟩ := s
      simp only at hs2 ⊢
      refine J_seq ?_
      refine J_reg ?_
      refine st (s_lt rfl rfl) rfl ?_
      refine Run.nil ?_
      refine pj_then ?_
      refine J_seq ?_
      refine J_cond rfl (fun hc2 => ?_) (fun hc2 => ?_) <;> simp only [decide_eq_true_eq, decide_eq_false_iff_not, Int.ofNat_lt] at hc2
      · refine J_skip ?_
        refine pj_then ?_
        refine J_seq ?_
        refine J_block ?_
        refine J_seq ?_
        refine J_reg ?_
        (refine st (s_indexIN rfl rfl ?_) rfl ?_; omega)
        refine st (s_load rfl) rfl ?_
        refine st (s_assign rfl) rfl ?_
        refine Run.nil ?_
        refine pj_then ?_
        refine J_regdT 5 mixed (by kernel_rfl) (by decide) ?_
        refine st (s_fieldAddr rfl) rfl ?_
        refine st (s_loadB 1 rfl rfl rfl) rfl ?_
        refine st (s_move rfl) rfl ?_
        refine st (s_callk (ownRow_ok ca 0 (H j) (fun _ => 0) h2 (by decide) (hsm j) (fun _ => small_lt (by decide +kernel))) rfl ⟨VT.le_refl _, nil_slT, trivial⟩) rfl ?_
        have hfl : Flat (rowF (ca + 0) fun k => if k < ca then H j k else 0) .one := by unfold rowF; infer_instance
        have hfl2 : ∀ q, Flat (rowF ca (stackF ra F G q)) .one := fun q => by unfold rowF; infer_instance
        refine stS1 rfl rfl rfl rfl ?_
        refine Run.nil ?_
        (refine a_append 0 rfl rfl rfl (leN rfl) ?_ ?_ rfl (ltN rfl) (fun sv cap => ?_); omega; omega)
        refine st (s_fieldAddr rfl) rfl ?_
        refine a_storeB 1 rfl rfl rfl rfl rfl (leN rfl) rfl ?_
        refine Run.nil ?_
        refine pn_block ?_
        refine pj_then ?_
        refine J_reg ?_
        (refine st (s_add rfl rfl (wrap_i64 ?_ ?_)) rfl ?_; omega; omega)
        refine st (s_move rfl) rfl ?_
        refine Run.nil ?_
        refine pj_round (s := (j, sv1, cap1)) (j + 1, sv, cap) (show _ from by simp only; omega) (by show R - (j + 1) < R - j; omega) (by unfold matF; repeat (first | exact SubG.nil | refine SubG.cons rfl (VT.le_refl _) ?_ | (refine SubG.cons rfl (one_le ?_) ?_; (congr 1; first | omega | (simp; omega) | simp)))) (.keep (sliO_le fun q hq => ?_) (.keep (Own.le_refl _) (SubM.refl _)))
        by_cases h : q < upTo ra rb i + j
        · rw [if_pos h]; exact VT.le_refl _
        · have e : q = upTo ra rb i + j := by omega
          subst e
          rw [if_neg h, ← hrow j hc2]
          unfold rowF
          exact slT_le' (by simp) (fun k hk => by show bigT (if k < ca then H j k else 0) = _; rw [if_pos (by omega)])
      · have hj : j = R := by omega
        subst hj
        refine J_exit ?_
        refine px_then ?_
        refine px_then ?_
        refine px_block ?_
        refine pn_block ?_
        refine pj_then ?_
        refine J_reg ?_
        (refine st (s_add rfl rfl (wrap_i64 ?_ ?_)) rfl ?_; omega; omega)
        refine st (s_move rfl) rfl ?_
        refine Run.nil ?_
        have e := hup.2.1
        rw [e]
        exact pj_round (s := (i, sv0, cap0)) (i + 1, sv1, cap1) (show _ from by simp only; omega) (by show 2 - (i + 1) < 2 - i; omega) (by unfold matF; repeat (first | exact SubG.nil | refine SubG.cons rfl (VT.le_refl _) ?_ | (refine SubG.cons rfl (one_le ?_) ?_; (congr 1; first | omega | (simp; omega) | simp)))) (.keep (Own.le_refl _) (.keep (Own.le_refl _) (SubM.refl _)))
    · have hi2 : i = 2 := by omega
      subst hi2
      refine J_exit ?_
      refine px_then ?_
      refine px_then ?_
      refine px_block ?_
      refine pj_then ?_
      refine J_seq ?_
      refine J_reg ?_
      refine st (s_loadW 1 rfl rfl) rfl ?_
      refine a_storeW 2 rfl rfl rfl rfl ?_
      refine st (s_assign rfl) rfl ?_
      refine Run.nil ?_
      refine pj_then ?_
      refine J_ret ?_
      have e2 : upTo ra rb 2 = ra + rb := by simp [upTo]
      rw [e2]
      refine PJ_open [sliO sv0 35 .one cap0 (ra + rb) (fun q => rowF ca (stackF ra F G q))] (List.Perm.refl _) (.keep (EntO.refl _) (.keep (EntO.box (cs' := [(0, .one, one (.int .i64 ((ra + rb : Nat) : Int))), (1, .one, one (.int .i64 ca)), (2, .one, slT .one (ra + rb) (fun q => rowF ca (stackF ra F G q)))])
        (.cons List.mem_cons_self (Ent.le (one_le (by simp))) (.cons (List.mem_cons_of_mem _ List.mem_cons_self) (Ent.refl _) (.cons (List.mem_cons_of_mem _ (List.mem_cons_of_mem _ List.mem_cons_self)) (Ent.sl List.mem_cons_self) .nil)))) .nil)) (EntG.refl _) ?_
      refine retc2 Try.results17 (.cellW 1 rfl rfl ?_) (.tmp rfl (one_le ?_))
      · simp only [decide_true, if_true]
        exact VT.le_refl _
      · simp
end Tor
end

section
set_option linter.unusedVariables false
set_option linter.unusedSimpArgs false
namespace Tor
open Go Go.RowKit Go.Proofs
attribute [local irreducible] Tor.J Tor.PJ Tor.StepO Tor.one Tor.slT Tor.ptrT Tor.aggT Tor.tupT Tor.exT Tor.andT Tor.gT Tor.eP Tor.boxO Tor.sliO Tor.slV Tor.VT.le Tor.Ret Tor.anyT
attribute [local irreducible] bigT Tor.rowsO
set_option maxHeartbeats 4000000 in
theorem rScale_ok (r c : Nat) (F : Nat → Nat → Int) (k : Int) (hr0 : r ≤ 1048576) (hc0 : c ≤ 1048576) (hF : ∀ i j, small (F i j)) (hk : small k) : Ok Try.prog 49 [matF r c F, bigT k] (matF r c (fun i j => F i j * k)) := by
  unfold matF
  refine Ok.enter Try.func49 rfl Try.ntmps49 rfl (fun w O => ?_)
  refine J_seq ?_
  refine J_reg ?_
  refine a_boxS rfl rfl (ltN rfl) (fun b => ?_)
  refine a_box rfl rfl (ltN rfl) (fun b => ?_)
  refine a_allocS (T := 33) rfl rfl rfl (fun b => ?_)
  refine Run.nil ?_
  refine pj_then ?_
  refine J_seq ?_
  refine J_reg ?_
  refine st (s_fieldAddr rfl) rfl ?_
  refine st (s_loadB 2 rfl rfl rfl) rfl ?_
  refine st (s_fieldAddr rfl) rfl ?_
  refine st (s_loadB 2 rfl rfl rfl) rfl ?_
  refine a_callM (rNew_ok r c hr0 hc0) rfl ⟨VT.le_refl _, VT.le_refl _, trivial⟩ rfl rfl (fun s => ?_)
  obtain ⟨⟨bs, sv1, cap1⟩, hlen, hsv⟩ := s
  simp only at hlen hsv
  unfold newT
  refine a_allocS (T := 33) rfl rfl rfl (fun b => ?_)
  refine a_storeW 0 rfl rfl rfl rfl ?_
  refine Run.nil ?_
  refine pj_then ?_
  refine J_seq ?_
  refine J_seq ?_
  refine J_reg ?_
  refine st (s_assign rfl) rfl ?_
  refine Run.nil ?_
  refine pj_then ?_
  refine J_block ?_
  rename_i b2 b3 b4
  refine J_loop (σ := Nat) (fun i => [(2, one (.pointer (some ⟨b2, 0, none⟩))), (3, one (.pointer (some ⟨b3, 0, none⟩))), (4, one (.pointer (some ⟨b4, 0, none⟩))), (5, one (.pointer (some ⟨b, 0, none⟩))), (6, one (.int .i64 (i : Nat)))])
    (fun i => [boxO b 33 3 [(0, .one, one (.int .i64 r)), (1, .one, one (.int .i64 c)), (2, .one, one (slV sv1 r cap1))], outO sv1 cap1 r c bs, ownR c bs (fill2 (fun i j => F i j * k) i 0),
      boxO b4 33 3 (zeroC #[Value.int IntKind.i64 0, Value.int IntKind.i64 0, Value.slice none 0 0] [(0, Lay.one), (1, Lay.one), (2, Lay.one)]),
      boxO b3 29 2 [(0, .agg 2, bigT k)],
      boxO b2 33 3 [(0, .one, one (.int .i64 r)), (1, .one, one (.int .i64 c)), (2, .one, slT .one r (fun i => rowF c (F i)))]])
    (fun i => i ≤ r) (fun i => r - i) 0 (Nat.zero_le _) (by repeat (first | exact SubG.nil | refine SubG.cons rfl (VT.le_refl _) ?_ | (refine SubG.cons rfl (one_le ?_) ?_; (congr 1; first | omega | (simp; omega) | simp)))) (.keep (Own.le_refl _) (.keep (Own.le_refl _) (.keep (ownR_le fun i j hi hj => by simp [fill2]) (SubM.refl _)))) (fun i hi => ?_)
  refine J_seq ?_
  refine J_seq ?_
  refine J_reg ?_
  refine st (s_move rfl) rfl ?_
  refine st (s_fieldAddr rfl) rfl ?_
  refine st (s_loadB 5 rfl rfl rfl) rfl ?_
  refine st (s_lt rfl rfl) rfl ?_
  refine Run.nil ?_
  refine pj_then ?_
  refine J_cond rfl (fun hc => ?_) (fun hc => ?_) <;> simp only [decide_eq_true_eq, decide_eq_false_iff_not, Int.ofNat_lt] at hc
  · obtain ⟨bo, rfl⟩ := sv_some hsv (by omega)
    refine J_skip ?_
    refine pj_then ?_
    refine J_seq ?_
    refine J_block ?_
    refine J_seq ?_
    refine J_reg ?_
    refine st (s_assign rfl) rfl ?_
    refine Run.nil ?_
    refine pj_then ?_
    refine J_block ?_
    refine J_loop (σ := Nat) (fun j => [(2, one (.pointer (some ⟨b2, 0, none⟩))), (3, one (.pointer (some ⟨b3, 0, none⟩))), (4, one (.pointer (some ⟨b4, 0, none⟩))), (5, one (.pointer (some ⟨b, 0, none⟩))), (6, one (.int .i64 (i : Nat))), (7, one (.int .i64 (j : Nat)))])
      (fun j => [boxO b 33 3 [(0, .one, one (.int .i64 r)), (1, .one, one (.int .i64 c)), (2, .one, one (slV (some bo) r cap1))], outO (some bo) cap1 r c bs, ownR c bs (fill2 (fun i j => F i j * k) i j),
      boxO b4 33 3 (zeroC #[Value.int IntKind.i64 0, Value.int IntKind.i64 0, Value.slice none 0 0] [(0, Lay.one), (1, Lay.one), (2, Lay.one)]),
      boxO b3 29 2 [(0, .agg 2, bigT k)],
      boxO b2 33 3 [(0, .one, one (.int .i64 r)), (1, .one, one (.int .i64 c)), (2, .one, slT .one r (fun i => rowF c (F i)))]])
      (fun j => j ≤ c) (fun j => c - j) 0 (Nat.zero_le _) (by repeat (first | exact SubG.nil | refine SubG.cons rfl (VT.le_refl _) ?_ | (refine SubG.cons rfl (one_le ?_) ?_; (congr 1; first | omega | (simp; omega) | simp)))) (SubM.refl _) (fun j hj => ?_)
    refine J_seq ?_
    refine J_seq ?_
    refine J_reg ?_
    refine st (s_move rfl) rfl ?_
    refine st (s_fieldAddr rfl) rfl ?_
    refine st (s_loadB 5 rfl rfl rfl) rfl ?_
    refine st (s_lt rfl rfl) rfl ?_
    refine Run.nil ?_
    refine pj_then ?_
    refine J_cond rfl (fun hc2 => ?_) (fun hc2 => ?_) <;> simp only [decide_eq_true_eq, decide_eq_false_iff_not, Int.ofNat_lt] at hc2
    · refine J_skip ?_
      refine pj_then ?_
      refine J_seq ?_
      refine J_block ?_
      refine J_regd 17 mixed (by kernel_rfl) (by decide) ?_
      unfold rowF
      refine st (s_fieldAddr rfl) rfl ?_
      refine st (s_loadB 0 rfl rfl rfl) rfl ?_
      refine st (s_move rfl) rfl ?_
      (refine st (s_indexON rfl rfl ?_) rfl ?_; omega)
      (refine st (s_loadE 1 rfl rfl ?_) rfl ?_; omega)
      refine st (s_move rfl) rfl ?_
      refine st (s_fieldAddr rfl) rfl ?_
      refine st (s_loadB 5 rfl rfl rfl) rfl ?_
      refine st (s_move rfl) rfl ?_
      (refine st (s_indexIN rfl rfl ?_) rfl ?_; omega)
      refine st (s_load rfl) rfl ?_
      refine st (s_move rfl) rfl ?_
      (refine st (s_indexIN rfl rfl ?_) rfl ?_; omega)
      refine st (s_load rfl) rfl ?_
      refine st (s_loadB 4 rfl rfl rfl) rfl ?_
      refine st (s_callk (rMulI_ok (F i j) k (hF i j) hk) rfl ⟨VT.le_refl _, VT.le_refl _, trivial⟩) rfl ?_
      (refine st (s_indexON rfl rfl ?_) rfl ?_; omega)
      refine Run.nil ?_
      (refine a_storeR 2 rfl rfl rfl (getq ?_) ?_ rfl ?_; omega; omega)
      refine Run.nil ?_
      refine pn_block ?_
      refine pj_then ?_
      refine J_reg ?_
      refine st (s_move rfl) rfl ?_
      (refine st (s_add rfl rfl (wrap_i64 ?_ ?_)) rfl ?_; omega; omega)
      refine st (s_assign rfl) rfl ?_
      refine Run.nil ?_
      exact pj_round (s := j) (j + 1) (show _ from by omega) (by show c - (j + 1) < c - j; omega) (by repeat (first | exact SubG.nil | refine SubG.cons rfl (VT.le_refl _) ?_ | (refine SubG.cons rfl (one_le ?_) ?_; (congr 1; first | omega | (simp; omega) | simp)))) (.keep (Own.le_refl _) (.keep (Own.le_refl _) (.keep (upd_fill2 _ rfl) (SubM.refl _))))
    · have hjm : j = c := by omega
      subst hjm
      refine J_exit ?_
      refine px_then ?_
      refine px_then ?_
      refine px_block ?_
      refine pn_block ?_
      refine pj_then ?_
      refine J_reg ?_
      refine st (s_move rfl) rfl ?_
      (refine st (s_add rfl rfl (wrap_i64 ?_ ?_)) rfl ?_; omega; omega)
      refine st (s_assign rfl) rfl ?_
      refine Run.nil ?_
      exact pj_round (s := i) (i + 1) (show _ from by omega) (by show r - (i + 1) < r - i; omega) (by repeat (first | exact SubG.nil | refine SubG.cons rfl (VT.le_refl _) ?_ | (refine SubG.cons rfl (one_le ?_) ?_; (congr 1; first | omega | (simp; omega) | simp)))) (.keep (Own.le_refl _) (.keep (Own.le_refl _) (.keep next_fill2 (SubM.refl _))))
  · have hin : i = r := by omega
    subst hin
    refine J_exit ?_
    refine px_then ?_
    refine px_then ?_
    refine px_block ?_
    refine pj_then ?_
    refine J_seq ?_
    refine J_reg ?_
    refine st (s_loadW 0 rfl rfl) rfl ?_
    refine a_storeW 3 rfl rfl rfl rfl ?_
    refine Run.nil ?_
    refine pj_then ?_
    refine J_ret ?_
    have hperm : ∀ (x y z u t s : Own), [x, y, z, u, t, s].Perm ([y, z] ++ [x, u, t, s]) := fun x y z u t s => (List.Perm.swap y x _).trans (List.Perm.cons y (List.Perm.swap z x _))
    refine PJ_open [outO sv1 cap1 i c bs, ownR c bs (fill2 (fun i j => F i j * k) i 0)] (hperm _ _ _ _ _ _) (.keep (EntO.refl _) (.keep (EntO.box (newT_open hlen ⟨by simp, by simp, by simp⟩)) (.keep (EntO.refl _) (.keep (EntO.refl _) .nil)))) (EntG.refl _) ?_
    refine retc1 Try.results49 (.cellW 1 rfl rfl ?_)
    exact matF_le fun a b ha hb => by simp [fill2, ha]
end Tor
end

section
set_option linter.unusedVariables false
set_option linter.unusedSimpArgs false
namespace Tor
open Go Go.RowKit Go.Proofs
attribute [local irreducible] Tor.J Tor.PJ Tor.StepO Tor.one Tor.slT Tor.ptrT Tor.aggT Tor.tupT Tor.exT Tor.andT Tor.gT Tor.eP Tor.boxO Tor.sliO Tor.slV Tor.VT.le Tor.Ret Tor.anyT
attribute [local irreducible] bigT Tor.rowsO
set_option maxHeartbeats 8000000 in
theorem rAddM_ok (ra ca : Nat) (F : Nat → Nat → Int) (rb cb : Nat) (G : Nat → Nat → Int) (hr0 : ra ≤ 1048576) (hc0 : ca ≤ 1048576) (hF : ∀ i j, small (F i j)) (hG : ∀ i j, small (G i j)) :
    Ok Try.prog 22 [matF ra ca F, matF rb cb G] (resT (decide (ra = rb ∧ ca = cb)) 50 ra ca (fun i j => F i j + G i j)) := by
  unfold resT matF
  refine Ok.enter Try.func22 rfl Try.ntmps22 rfl (fun w O => ?_)
  refine J_seq ?_
  refine J_reg ?_
  refine a_boxS rfl rfl (ltN rfl) (fun b => ?_)
  refine a_boxS rfl rfl (ltN rfl) (fun b => ?_)
  refine a_allocS (T := 33) rfl rfl rfl (fun b => ?_)
  refine st (s_assign rfl) rfl ?_
  refine Run.nil ?_
  refine pj_then ?_
  refine J_seq ?_
  refine J_seq ?_
  refine J_reg ?_
  refine st (s_fieldAddr rfl) rfl ?_
  refine st (s_loadB 2 rfl rfl rfl) rfl ?_
  refine st (s_fieldAddr rfl) rfl ?_
  refine st (s_loadB 1 rfl rfl rfl) rfl ?_
  refine st (s_ne rfl rfl) rfl ?_
  refine st (s_move rfl) rfl ?_
  refine bsel (t := 13) rfl (fun o1 h1 => ?_)
  rw [h1]
  cases o1
  · have e1 : ra = rb := by simp at h1; omega
    subst e1
    refine sg1 rfl rfl (s_fieldAddr rfl) rfl ?_
    refine sg1 rfl rfl (s_loadB 2 rfl rfl rfl) rfl ?_
    refine sg1 rfl rfl (s_fieldAddr rfl) rfl ?_
    refine sg1 rfl rfl (s_loadB 1 rfl rfl rfl) rfl ?_
    refine sg1 rfl rfl (s_ne rfl rfl) rfl ?_
    refine st (s_pickF rfl rfl) rfl ?_
    refine Run.nil ?_
    refine pj_then ?_
    refine J_cond rfl (fun hc => ?_) (fun hc => ?_) <;> simp only [decide_eq_true_eq, decide_eq_false_iff_not, ne_eq, Decidable.not_not] at hc
    · have hne : ¬ (ra = ra ∧ ca = cb) := by omega
      refine J_seq ?_
      refine J_reg ?_
      refine stB rfl rfl rfl ?_
      refine BuildK.nil ?_
      refine a_storeW 0 rfl rfl rfl rfl ?_
      refine st (s_assign rfl) rfl ?_
      refine Run.nil ?_
      refine pj_then ?_
      refine J_ret ?_
      refine pr_then ?_
      refine retc2 Try.results22 (.cellW 0 rfl rfl ?_) (.tmp rfl (one_le ?_))
      · rw [decide_eq_false hne]; exact zero_mat _
      · rw [decide_eq_false hne]; rfl
    · have e2 : ca = cb := by omega
      subst e2
      refine J_skip ?_
      refine pj_then ?_
      refine J_seq ?_
      refine J_reg ?_
      refine st (s_fieldAddr rfl) rfl ?_
      refine st (s_loadB 2 rfl rfl rfl) rfl ?_
      refine st (s_fieldAddr rfl) rfl ?_
      refine st (s_loadB 2 rfl rfl rfl) rfl ?_
      refine a_callM (rNew_ok ra ca hr0 hc0) rfl ⟨VT.le_refl _, VT.le_refl _, trivial⟩ rfl rfl (fun s => ?_)
      obtain ⟨⟨bs, sv1, cap1⟩, hlen, hsv⟩ := s
      simp only at hlen hsv
      unfold newT
      refine a_allocS (T := 33) rfl rfl rfl (fun b => ?_)
      refine a_storeW 0 rfl rfl rfl rfl ?_
      refine Run.nil ?_
      refine pj_then ?_
      refine J_seq ?_
      refine J_seq ?_
      refine J_reg ?_
      refine st (s_assign rfl) rfl ?_
      refine Run.nil ?_
      refine pj_then ?_
      refine J_block ?_
      rename_i b2 b3 b4
      refine J_loop (σ := Nat) (fun i => [(2, one (.pointer (some ⟨b2, 0, none⟩))), (3, one (.pointer (some ⟨b3, 0, none⟩))), (4, one (.pointer (some ⟨b4, 0, none⟩))), (6, one (.pointer (some ⟨b, 0, none⟩))), (7, one (.int .i64 (i : Nat)))])
        (fun i => [boxO b 33 3 [(0, .one, one (.int .i64 ra)), (1, .one, one (.int .i64 ca)), (2, .one, one (slV sv1 ra cap1))], outO sv1 cap1 ra ca bs, ownR ca bs (fill2 (fun i j => F i j + G i j) i 0), boxO b4 33 3 (zeroC #[Value.int IntKind.i64 0, Value.int IntKind.i64 0, Value.slice none 0 0] [(0, Lay.one), (1, Lay.one), (2, Lay.one)]), boxO b3 33 3 [(0, .one, one (.int .i64 ra)), (1, .one, one (.int .i64 ca)), (2, .one, slT .one ra (fun i => rowF ca (G i)))], boxO b2 33 3 [(0, .one, one (.int .i64 ra)), (1, .one, one (.int .i64 ca)), (2, .one, slT .one ra (fun i => rowF ca (F i)))]])
        (fun i => i ≤ ra) (fun i => ra - i) 0 (Nat.zero_le _) (by repeat (first | exact SubG.nil | refine SubG.cons rfl (VT.le_refl _) ?_ | (refine SubG.cons rfl (one_le ?_) ?_; (congr 1; first | omega | (simp; omega) | simp)))) (.keep (Own.le_refl _) (.keep (Own.le_refl _) (.keep (ownR_le fun i j hi hj => by simp [fill2]) (SubM.refl _)))) (fun i hi => ?_)
      refine J_seq ?_
      refine J_seq ?_
      refine J_reg ?_
      refine st (s_move rfl) rfl ?_
      refine st (s_fieldAddr rfl) rfl ?_
      refine st (s_loadB 5 rfl rfl rfl) rfl ?_
      refine st (s_lt rfl rfl) rfl ?_
      refine Run.nil ?_
      refine pj_then ?_
      refine J_cond rfl (fun hc => ?_) (fun hc => ?_) <;> simp only [decide_eq_true_eq, decide_eq_false_iff_not, Int.ofNat_lt] at hc
      · obtain ⟨bo, rfl⟩ := sv_some hsv (by omega)
        refine J_skip ?_
        refine pj_then ?_
        refine J_seq ?_
        refine J_block ?_
        refine J_seq ?_
        refine J_reg ?_
        refine st (s_assign rfl) rfl ?_
        refine Run.nil ?_
        refine pj_then ?_
        refine J_block ?_
        refine J_loop (σ := Nat) (fun j => [(2, one (.pointer (some ⟨b2, 0, none⟩))), (3, one (.pointer (some ⟨b3, 0, none⟩))), (4, one (.pointer (some ⟨b4, 0, none⟩))), (6, one (.pointer (some ⟨b, 0, none⟩))), (7, one (.int .i64 (i : Nat))), (8, one (.int .i64 (j : Nat)))])
          (fun j => [boxO b 33 3 [(0, .one, one (.int .i64 ra)), (1, .one, one (.int .i64 ca)), (2, .one, one (slV (some bo) ra cap1))], outO (some bo) cap1 ra ca bs, ownR ca bs (fill2 (fun i j => F i j + G i j) i j), boxO b4 33 3 (zeroC #[Value.int IntKind.i64 0, Value.int IntKind.i64 0, Value.slice none 0 0] [(0, Lay.one), (1, Lay.one), (2, Lay.one)]), boxO b3 33 3 [(0, .one, one (.int .i64 ra)), (1, .one, one (.int .i64 ca)), (2, .one, slT .one ra (fun i => rowF ca (G i)))], boxO b2 33 3 [(0, .one, one (.int .i64 ra)), (1, .one, one (.int .i64 ca)), (2, .one, slT .one ra (fun i => rowF ca (F i)))]])
          (fun j => j ≤ ca) (fun j => ca - j) 0 (Nat.zero_le _) (by repeat (first | exact SubG.nil | refine SubG.cons rfl (VT.le_refl _) ?_ | (refine SubG.cons rfl (one_le ?_) ?_; (congr 1; first | omega | (simp; omega) | simp)))) (SubM.refl _) (fun j hj => ?_)
        refine J_seq ?_
        refine J_seq ?_
        refine J_reg ?_
        refine st (s_move rfl) rfl ?_
        refine st (s_fieldAddr rfl) rfl ?_
        refine st (s_loadB 5 rfl rfl rfl) rfl ?_
        refine st (s_lt rfl rfl) rfl ?_
        refine Run.nil ?_
        refine pj_then ?_
        refine J_cond rfl (fun hc2 => ?_) (fun hc2 => ?_) <;> simp only [decide_eq_true_eq, decide_eq_false_iff_not, Int.ofNat_lt] at hc2
        · refine J_skip ?_
          refine pj_then ?_
          refine J_seq ?_
          refine J_block ?_
          refine J_regd 24 mixed (by kernel_rfl) (by decide) ?_
          unfold rowF
          refine st (s_fieldAddr rfl) rfl ?_
          refine st (s_loadB 0 rfl rfl rfl) rfl ?_
          refine st (s_move rfl) rfl ?_
          (refine st (s_indexON rfl rfl ?_) rfl ?_; omega)
          (refine st (s_loadE 1 rfl rfl ?_) rfl ?_; omega)
          refine st (s_move rfl) rfl ?_
          refine st (s_fieldAddr rfl) rfl ?_
          refine st (s_loadB 5 rfl rfl rfl) rfl ?_
          refine st (s_move rfl) rfl ?_
          (refine st (s_indexIN rfl rfl ?_) rfl ?_; omega)
          refine st (s_load rfl) rfl ?_
          refine st (s_move rfl) rfl ?_
          (refine st (s_indexIN rfl rfl ?_) rfl ?_; omega)
          refine st (s_load rfl) rfl ?_
          refine st (s_fieldAddr rfl) rfl ?_
          refine st (s_loadB 4 rfl rfl rfl) rfl ?_
          refine st (s_move rfl) rfl ?_
          (refine st (s_indexIN rfl rfl ?_) rfl ?_; omega)
          refine st (s_load rfl) rfl ?_
          refine st (s_move rfl) rfl ?_
          (refine st (s_indexIN rfl rfl ?_) rfl ?_; omega)
          refine st (s_load rfl) rfl ?_
          refine st (s_callk (rAddI_ok (F i j) (G i j) (hF i j) (hG i j)) rfl ⟨VT.le_refl _, VT.le_refl _, trivial⟩) rfl ?_
          (refine st (s_indexON rfl rfl ?_) rfl ?_; omega)
          refine Run.nil ?_
          (refine a_storeR 2 rfl rfl rfl (getq ?_) ?_ rfl ?_; omega; omega)
          refine Run.nil ?_
          refine pn_block ?_
          refine pj_then ?_
          refine J_reg ?_
          refine st (s_move rfl) rfl ?_
          (refine st (s_add rfl rfl (wrap_i64 ?_ ?_)) rfl ?_; omega; omega)
          refine st (s_assign rfl) rfl ?_
          refine Run.nil ?_
          exact pj_round (s := j) (j + 1) (show _ from by omega) (by show ca - (j + 1) < ca - j; omega) (by repeat (first | exact SubG.nil | refine SubG.cons rfl (VT.le_refl _) ?_ | (refine SubG.cons rfl (one_le ?_) ?_; (congr 1; first | omega | (simp; omega) | simp)))) (.keep (Own.le_refl _) (.keep (Own.le_refl _) (.keep (upd_fill2 _ rfl) (SubM.refl _))))
        · have hjm : j = ca := by omega
          subst hjm
          refine J_exit ?_
          refine px_then ?_
          refine px_then ?_
          refine px_block ?_
          refine pn_block ?_
          refine pj_then ?_
          refine J_reg ?_
          refine st (s_move rfl) rfl ?_
          (refine st (s_add rfl rfl (wrap_i64 ?_ ?_)) rfl ?_; omega; omega)
          refine st (s_assign rfl) rfl ?_
          refine Run.nil ?_
          exact pj_round (s := i) (i + 1) (show _ from by omega) (by show ra - (i + 1) < ra - i; omega) (by repeat (first | exact SubG.nil | refine SubG.cons rfl (VT.le_refl _) ?_ | (refine SubG.cons rfl (one_le ?_) ?_; (congr 1; first | omega | (simp; omega) | simp)))) (.keep (Own.le_refl _) (.keep (Own.le_refl _) (.keep next_fill2 (SubM.refl _))))
      · have hin : i = ra := by omega
        subst hin
        refine J_exit ?_
        refine px_then ?_
        refine px_then ?_
        refine px_block ?_
        refine pj_then ?_
        refine J_seq ?_
        refine J_reg ?_
        refine st (s_loadW 0 rfl rfl) rfl ?_
        refine a_storeW 3 rfl rfl rfl rfl ?_
        refine st (s_assign rfl) rfl ?_
        refine Run.nil ?_
        refine pj_then ?_
        refine J_ret ?_
        have hperm : ∀ (x y z u t s : Own), [x, y, z, u, t, s].Perm ([y, z] ++ [x, u, t, s]) := fun x y z u t s => (List.Perm.swap y x _).trans (List.Perm.cons y (List.Perm.swap z x _))
        refine PJ_open [outO sv1 cap1 i ca bs, ownR ca bs (fill2 (fun i j => F i j + G i j) i 0)] (hperm _ _ _ _ _ _) (.keep (EntO.refl _) (.keep (EntO.box (newT_open hlen ⟨by simp, by simp, by simp⟩)) (.keep (EntO.refl _) (.keep (EntO.refl _) .nil)))) (EntG.refl _) ?_
        refine retc2 Try.results22 (.cellW 1 rfl rfl ?_) (.tmp rfl (one_le ?_))
        · simp only [and_self, decide_true, if_true]; exact matF_le fun a b ha hb => by simp [fill2, ha]
        · simp
  · have hne : ¬ (ra = rb ∧ ca = cb) := by simp at h1; omega
    refine sg0 rfl rfl rfl rfl ?_
    refine sg0 rfl rfl rfl rfl ?_
    refine sg0 rfl rfl rfl rfl ?_
    refine sg0 rfl rfl rfl rfl ?_
    refine sg0 rfl rfl rfl rfl ?_
    refine st (s_pickT rfl rfl) rfl ?_
    refine Run.nil ?_
    refine pj_then ?_
    refine J_cond rfl (fun hc => ?_) (fun hc => ?_)
    · refine J_seq ?_
      refine J_reg ?_
      refine stB rfl rfl rfl ?_
      refine BuildK.nil ?_
      refine a_storeW 0 rfl rfl rfl rfl ?_
      refine st (s_assign rfl) rfl ?_
      refine Run.nil ?_
      refine pj_then ?_
      refine J_ret ?_
      refine pr_then ?_
      refine retc2 Try.results22 (.cellW 0 rfl rfl ?_) (.tmp rfl (one_le ?_))
      · rw [decide_eq_false hne]; exact zero_mat _
      · rw [decide_eq_false hne]; rfl
    · cases hc
end Tor
end

section
set_option linter.unusedVariables false
set_option linter.unusedSimpArgs false
namespace Tor
open Go Go.RowKit Go.Proofs
/-- Filled in up to the place (i, j), which holds x. -/
def fill3 (F : Nat → Nat → Int) (i j : Nat) (x : Int) : Nat → Nat → Int := fun q k => if q < i ∨ (q = i ∧ k < j) then F q k else if q = i ∧ k = j then x else 0
theorem fill3_zero (F : Nat → Nat → Int) (i j : Nat) : fill3 F i j 0 = fill2 F i j := by
  funext q k; unfold fill3 fill2; split
  · rfl
  · split <;> rfl
theorem fill3_full (F : Nat → Nat → Int) (i j : Nat) : fill3 F i j (F i j) = fill2 F i (j + 1) := by
  funext q k; unfold fill3 fill2
  by_cases h : q < i ∨ q = i ∧ k < j
  · rw [if_pos h, if_pos (by omega)]
  · rw [if_neg h]
    by_cases h2 : q = i ∧ k = j
    · obtain ⟨rfl, rfl⟩ := h2; rw [if_pos ⟨rfl, rfl⟩, if_pos (by omega)]
    · rw [if_neg h2, if_neg (by omega)]
theorem fill3_at (F : Nat → Nat → Int) (i j : Nat) (x : Int) : fill3 F i j x i j = x := by
  unfold fill3; rw [if_neg (by omega), if_pos ⟨rfl, rfl⟩]
theorem upd_fill3 {T : TypeId} {c : Nat} {bs : List Nat} {F : Nat → Nat → Int} {i j : Nat} (x y : Int) :
    Own.le (rowsO T (.agg 2) c bs (upd2 (fun q k => bigT (fill3 F i j x q k)) i j (bigT y))) (rowsO T (.agg 2) c bs (fun q k => bigT (fill3 F i j y q k))) := by
  refine rowsO_eq fun q k hq hk => ?_
  unfold upd2 fill3
  by_cases h : q = i ∧ k = j
  · obtain ⟨rfl, rfl⟩ := h
    rw [if_pos ⟨rfl, rfl⟩, if_neg (by omega), if_pos ⟨rfl, rfl⟩]
  · simp only [if_neg h]
attribute [local irreducible] Tor.J Tor.PJ Tor.StepO Tor.one Tor.slT Tor.ptrT Tor.aggT Tor.tupT Tor.exT Tor.andT Tor.gT Tor.eP Tor.boxO Tor.sliO Tor.slV Tor.VT.le Tor.Ret Tor.anyT
attribute [local irreducible] bigT Tor.rowsO
set_option maxHeartbeats 8000000 in
theorem rMulM_ok (ra ca : Nat) (F : Nat → Nat → Int) (rb cb : Nat) (G : Nat → Nat → Int) (hr0 : ra ≤ 1048576) (hc0 : ca ≤ 1048576) (hd0 : cb ≤ 1048576) (hF : ∀ i j, mod4 (F i j)) (hG : ∀ i j, mod4 (G i j)) :
    Ok Try.prog 43 [matF ra ca F, matF rb cb G] (resT (decide (ca = rb)) 50 ra cb (mulF ca F G)) := by
  unfold resT matF
  refine Ok.enter Try.func43 rfl Try.ntmps43 rfl (fun w O => ?_)
  refine J_seq ?_
  refine J_reg ?_
  refine a_boxS rfl rfl (ltN rfl) (fun b => ?_)
  refine a_boxS rfl rfl (ltN rfl) (fun b => ?_)
  refine a_allocS (T := 33) rfl rfl rfl (fun b => ?_)
  refine st (s_assign rfl) rfl ?_
  refine Run.nil ?_
  refine pj_then ?_
  refine J_seq ?_
  refine J_seq ?_
  refine J_reg ?_
  refine st (s_fieldAddr rfl) rfl ?_
  refine st (s_loadB 2 rfl rfl rfl) rfl ?_
  refine st (s_fieldAddr rfl) rfl ?_
  refine st (s_loadB 1 rfl rfl rfl) rfl ?_
  refine st (s_ne rfl rfl) rfl ?_
  refine Run.nil ?_
  refine pj_then ?_
  refine J_cond rfl (fun hc => ?_) (fun hc => ?_) <;> simp only [decide_eq_true_eq, decide_eq_false_iff_not, ne_eq, Decidable.not_not] at hc
  · have hne : ¬ ca = rb := by omega
    refine J_seq ?_
    refine J_reg ?_
    refine stB rfl rfl rfl ?_
    refine BuildK.nil ?_
    refine a_storeW 0 rfl rfl rfl rfl ?_
    refine st (s_assign rfl) rfl ?_
    refine Run.nil ?_
    refine pj_then ?_
    refine J_ret ?_
    refine pr_then ?_
    refine retc2 Try.results43 (.cellW 0 rfl rfl ?_) (.tmp rfl (one_le ?_))
    · rw [decide_eq_false hne]; exact zero_mat _
    · rw [decide_eq_false hne]; rfl
  · have e2 : ca = rb := by omega
    subst e2
    refine J_skip ?_
    refine pj_then ?_
    refine J_seq ?_
    refine J_reg ?_
    refine st (s_fieldAddr rfl) rfl ?_
    refine st (s_loadB 2 rfl rfl rfl) rfl ?_
    refine st (s_fieldAddr rfl) rfl ?_
    refine st (s_loadB 1 rfl rfl rfl) rfl ?_
    refine a_callM (rNew_ok ra cb hr0 hd0) rfl ⟨VT.le_refl _, VT.le_refl _, trivial⟩ rfl rfl (fun s => ?_)
    obtain ⟨⟨bs, sv1, cap1⟩, hlen, hsv⟩ := s
    simp only at hlen hsv
    unfold newT
    refine a_allocS (T := 33) rfl rfl rfl (fun b => ?_)
    refine a_storeW 0 rfl rfl rfl rfl ?_
    refine Run.nil ?_
    refine pj_then ?_
    refine J_seq ?_
    refine J_seq ?_
    refine J_reg ?_
    refine st (s_assign rfl) rfl ?_
    refine Run.nil ?_
    refine pj_then ?_
    refine J_block ?_
    rename_i b2 b3 b4
    refine J_loop (σ := Nat) (fun i => [(2, one (.pointer (some ⟨b2, 0, none⟩))), (3, one (.pointer (some ⟨b3, 0, none⟩))), (4, one (.pointer (some ⟨b4, 0, none⟩))), (6, one (.pointer (some ⟨b, 0, none⟩))), (7, one (.int .i64 (i : Nat)))])
      (fun i => [boxO b 33 3 [(0, .one, one (.int .i64 ra)), (1, .one, one (.int .i64 cb)), (2, .one, one (slV sv1 ra cap1))], outO sv1 cap1 ra cb bs, ownR cb bs (fill2 (mulF ca F G) i 0), boxO b4 33 3 (zeroC #[Value.int IntKind.i64 0, Value.int IntKind.i64 0, Value.slice none 0 0] [(0, Lay.one), (1, Lay.one), (2, Lay.one)]), boxO b3 33 3 [(0, .one, one (.int .i64 ca)), (1, .one, one (.int .i64 cb)), (2, .one, slT .one ca (fun i => rowF cb (G i)))], boxO b2 33 3 [(0, .one, one (.int .i64 ra)), (1, .one, one (.int .i64 ca)), (2, .one, slT .one ra (fun i => rowF ca (F i)))]])
      (fun i => i ≤ ra) (fun i => ra - i) 0 (Nat.zero_le _) (by repeat (first | exact SubG.nil | refine SubG.cons rfl (VT.le_refl _) ?_ | (refine SubG.cons rfl (one_le ?_) ?_; (congr 1; first | omega | (simp; omega) | simp)))) (.keep (Own.le_refl _) (.keep (Own.le_refl _) (.keep (ownR_le fun i j hi hj => by simp [fill2]) (SubM.refl _)))) (fun i hi => ?_)
    refine J_seq ?_
    refine J_seq ?_
    refine J_reg ?_
    refine st (s_move rfl) rfl ?_
    refine st (s_fieldAddr rfl) rfl ?_
    refine st (s_loadB 5 rfl rfl rfl) rfl ?_
    refine st (s_lt rfl rfl) rfl ?_
    refine Run.nil ?_
    refine pj_then ?_
    refine J_cond rfl (fun hc => ?_) (fun hc => ?_) <;> simp only [decide_eq_true_eq, decide_eq_false_iff_not, Int.ofNat_lt] at hc
    · obtain ⟨bo, rfl⟩ := sv_some hsv (by omega)
      refine J_skip ?_
      refine pj_then ?_
      refine J_seq ?_
      refine J_block ?_
      refine J_seq ?_
      refine J_reg ?_
      refine st (s_assign rfl) rfl ?_
      refine Run.nil ?_
      refine pj_then ?_
      refine J_block ?_
      refine J_loop (σ := Nat) (fun j => [(2, one (.pointer (some ⟨b2, 0, none⟩))), (3, one (.pointer (some ⟨b3, 0, none⟩))), (4, one (.pointer (some ⟨b4, 0, none⟩))), (6, one (.pointer (some ⟨b, 0, none⟩))), (7, one (.int .i64 (i : Nat))), (8, one (.int .i64 (j : Nat)))])
        (fun j => [boxO b 33 3 [(0, .one, one (.int .i64 ra)), (1, .one, one (.int .i64 cb)), (2, .one, one (slV (some bo) ra cap1))], outO (some bo) cap1 ra cb bs, ownR cb bs (fill2 (mulF ca F G) i j), boxO b4 33 3 (zeroC #[Value.int IntKind.i64 0, Value.int IntKind.i64 0, Value.slice none 0 0] [(0, Lay.one), (1, Lay.one), (2, Lay.one)]), boxO b3 33 3 [(0, .one, one (.int .i64 ca)), (1, .one, one (.int .i64 cb)), (2, .one, slT .one ca (fun i => rowF cb (G i)))], boxO b2 33 3 [(0, .one, one (.int .i64 ra)), (1, .one, one (.int .i64 ca)), (2, .one, slT .one ra (fun i => rowF ca (F i)))]])
        (fun j => j ≤ cb) (fun j => cb - j) 0 (Nat.zero_le _) (by repeat (first | exact SubG.nil | refine SubG.cons rfl (VT.le_refl _) ?_ | (refine SubG.cons rfl (one_le ?_) ?_; (congr 1; first | omega | (simp; omega) | simp)))) (SubM.refl _) (fun j hj => ?_)
      refine J_seq ?_
      refine J_seq ?_
      refine J_reg ?_
      refine st (s_move rfl) rfl ?_
      refine st (s_fieldAddr rfl) rfl ?_
      refine st (s_loadB 4 rfl rfl rfl) rfl ?_
      refine st (s_lt rfl rfl) rfl ?_
      refine Run.nil ?_
      refine pj_then ?_
      refine J_cond rfl (fun hc2 => ?_) (fun hc2 => ?_) <;> simp only [decide_eq_true_eq, decide_eq_false_iff_not, Int.ofNat_lt] at hc2
      · refine J_skip ?_
        refine pj_then ?_
        refine J_seq ?_
        refine J_block ?_
        refine J_seq ?_
        refine J_reg ?_
        refine st (s_assign rfl) rfl ?_
        refine Run.nil ?_
        refine pj_then ?_
        refine J_block ?_
        refine J_loop (σ := Nat) (fun k => [(2, one (.pointer (some ⟨b2, 0, none⟩))), (3, one (.pointer (some ⟨b3, 0, none⟩))), (4, one (.pointer (some ⟨b4, 0, none⟩))), (6, one (.pointer (some ⟨b, 0, none⟩))), (7, one (.int .i64 (i : Nat))), (8, one (.int .i64 (j : Nat))), (9, one (.int .i64 (k : Nat)))])
          (fun k => [boxO b 33 3 [(0, .one, one (.int .i64 ra)), (1, .one, one (.int .i64 cb)), (2, .one, one (slV (some bo) ra cap1))], outO (some bo) cap1 ra cb bs, ownR cb bs (fill3 (mulF ca F G) i j (sumF k (fun k => F i k * G k j))), boxO b4 33 3 (zeroC #[Value.int IntKind.i64 0, Value.int IntKind.i64 0, Value.slice none 0 0] [(0, Lay.one), (1, Lay.one), (2, Lay.one)]), boxO b3 33 3 [(0, .one, one (.int .i64 ca)), (1, .one, one (.int .i64 cb)), (2, .one, slT .one ca (fun i => rowF cb (G i)))], boxO b2 33 3 [(0, .one, one (.int .i64 ra)), (1, .one, one (.int .i64 ca)), (2, .one, slT .one ra (fun i => rowF ca (F i)))]])
          (fun k => k ≤ ca) (fun k => ca - k) 0 (Nat.zero_le _) (by repeat (first | exact SubG.nil | refine SubG.cons rfl (VT.le_refl _) ?_ | (refine SubG.cons rfl (one_le ?_) ?_; (congr 1; first | omega | (simp; omega) | simp)))) (.keep (Own.le_refl _) (.keep (Own.le_refl _) (.keep (by rw [show sumF 0 (fun k => F i k * G k j) = 0 from rfl, fill3_zero]; exact Own.le_refl _) (SubM.refl _)))) (fun k hk => ?_)
        refine J_seq ?_
        refine J_seq ?_
        refine J_reg ?_
        refine st (s_move rfl) rfl ?_
        refine st (s_fieldAddr rfl) rfl ?_
        refine st (s_loadB 5 rfl rfl rfl) rfl ?_
        refine st (s_lt rfl rfl) rfl ?_
        refine Run.nil ?_
        refine pj_then ?_
        refine J_cond rfl (fun hc3 => ?_) (fun hc3 => ?_) <;> simp only [decide_eq_true_eq, decide_eq_false_iff_not, Int.ofNat_lt] at hc3
        · refine J_skip ?_
          refine pj_then ?_
          refine J_seq ?_
          refine J_block ?_
          refine J_regd 33 mixed (by kernel_rfl) (by decide) ?_
          unfold rowF
          refine st (s_fieldAddr rfl) rfl ?_
          refine st (s_loadB 0 rfl rfl rfl) rfl ?_
          refine st (s_move rfl) rfl ?_
          (refine st (s_indexON rfl rfl ?_) rfl ?_; omega)
          (refine st (s_loadE 1 rfl rfl ?_) rfl ?_; omega)
          refine st (s_move rfl) rfl ?_
          refine st (s_fieldAddr rfl) rfl ?_
          refine st (s_loadB 0 rfl rfl rfl) rfl ?_
          refine st (s_move rfl) rfl ?_
          (refine st (s_indexON rfl rfl ?_) rfl ?_; omega)
          (refine st (s_loadE 1 rfl rfl ?_) rfl ?_; omega)
          refine st (s_move rfl) rfl ?_
          (refine st (s_indexON rfl rfl ?_) rfl ?_; omega)
          (refine st (s_loadR 2 rfl rfl (getq ?_) ?_) rfl ?_; omega; omega)
          refine st (s_fieldAddr rfl) rfl ?_
          refine st (s_loadB 5 rfl rfl rfl) rfl ?_
          refine st (s_move rfl) rfl ?_
          (refine st (s_indexIN rfl rfl ?_) rfl ?_; omega)
          refine st (s_load rfl) rfl ?_
          refine st (s_move rfl) rfl ?_
          (refine st (s_indexIN rfl rfl ?_) rfl ?_; omega)
          refine st (s_load rfl) rfl ?_
          refine st (s_fieldAddr rfl) rfl ?_
          refine st (s_loadB 4 rfl rfl rfl) rfl ?_
          refine st (s_move rfl) rfl ?_
          (refine st (s_indexIN rfl rfl ?_) rfl ?_; omega)
          refine st (s_load rfl) rfl ?_
          refine st (s_move rfl) rfl ?_
          (refine st (s_indexIN rfl rfl ?_) rfl ?_; omega)
          refine st (s_load rfl) rfl ?_
          refine st (s_callk (rMulI_ok (F i k) (G k j) (mod4_small (hF i k)) (mod4_small (hG k j))) rfl ⟨VT.le_refl _, VT.le_refl _, trivial⟩) rfl ?_
          rw [fill3_at]
          refine st (s_callk (rAddI_ok (sumF k (fun k => F i k * G k j)) (F i k * G k j) (sum_small (by omega) (fun k => mod4_mul (hF i k) (hG k j))) (small_le (mod4_mul (hF i k) (hG k j)) (by decide +kernel))) rfl ⟨VT.le_refl _, VT.le_refl _, trivial⟩) rfl ?_
          (refine st (s_indexON rfl rfl ?_) rfl ?_; omega)
          refine Run.nil ?_
          (refine a_storeR 2 rfl rfl rfl (getq ?_) ?_ rfl ?_; omega; omega)
          refine Run.nil ?_
          refine pn_block ?_
          refine pj_then ?_
          refine J_reg ?_
          refine st (s_move rfl) rfl ?_
          (refine st (s_add rfl rfl (wrap_i64 ?_ ?_)) rfl ?_; omega; omega)
          refine st (s_assign rfl) rfl ?_
          refine Run.nil ?_
          exact pj_round (s := k) (k + 1) (show _ from by omega) (by show ca - (k + 1) < ca - k; omega) (by repeat (first | exact SubG.nil | refine SubG.cons rfl (VT.le_refl _) ?_ | (refine SubG.cons rfl (one_le ?_) ?_; (congr 1; first | omega | (simp; omega) | simp)))) (.keep (Own.le_refl _) (.keep (Own.le_refl _) (.keep (upd_fill3 _ _) (SubM.refl _))))
        · have hkm : k = ca := by omega
          subst hkm
          refine J_exit ?_
          refine px_then ?_
          refine px_then ?_
          refine px_block ?_
          refine pn_block ?_
          refine pj_then ?_
          refine J_reg ?_
          refine st (s_move rfl) rfl ?_
          (refine st (s_add rfl rfl (wrap_i64 ?_ ?_)) rfl ?_; omega; omega)
          refine st (s_assign rfl) rfl ?_
          refine Run.nil ?_
          exact pj_round (s := j) (j + 1) (show _ from by omega) (by show cb - (j + 1) < cb - j; omega) (by repeat (first | exact SubG.nil | refine SubG.cons rfl (VT.le_refl _) ?_ | (refine SubG.cons rfl (one_le ?_) ?_; (congr 1; first | omega | (simp; omega) | simp)))) (.keep (Own.le_refl _) (.keep (Own.le_refl _) (.keep (by rw [← fill3_full]; exact Own.le_refl _) (SubM.refl _))))
      · have hjm : j = cb := by omega
        subst hjm
        refine J_exit ?_
        refine px_then ?_
        refine px_then ?_
        refine px_block ?_
        refine pn_block ?_
        refine pj_then ?_
        refine J_reg ?_
        refine st (s_move rfl) rfl ?_
        (refine st (s_add rfl rfl (wrap_i64 ?_ ?_)) rfl ?_; omega; omega)
        refine st (s_assign rfl) rfl ?_
        refine Run.nil ?_
        exact pj_round (s := i) (i + 1) (show _ from by omega) (by show ra - (i + 1) < ra - i; omega) (by repeat (first | exact SubG.nil | refine SubG.cons rfl (VT.le_refl _) ?_ | (refine SubG.cons rfl (one_le ?_) ?_; (congr 1; first | omega | (simp; omega) | simp)))) (.keep (Own.le_refl _) (.keep (Own.le_refl _) (.keep next_fill2 (SubM.refl _))))
    · have hin : i = ra := by omega
      subst hin
      refine J_exit ?_
      refine px_then ?_
      refine px_then ?_
      refine px_block ?_
      refine pj_then ?_
      refine J_seq ?_
      refine J_reg ?_
      refine st (s_loadW 0 rfl rfl) rfl ?_
      refine a_storeW 3 rfl rfl rfl rfl ?_
      refine st (s_assign rfl) rfl ?_
      refine Run.nil ?_
      refine pj_then ?_
      refine J_ret ?_
      have hperm : ∀ (x y z u t s : Own), [x, y, z, u, t, s].Perm ([y, z] ++ [x, u, t, s]) := fun x y z u t s => (List.Perm.swap y x _).trans (List.Perm.cons y (List.Perm.swap z x _))
      refine PJ_open [outO sv1 cap1 i cb bs, ownR cb bs (fill2 (mulF ca F G) i 0)] (hperm _ _ _ _ _ _) (.keep (EntO.refl _) (.keep (EntO.box (newT_open hlen ⟨by simp, by simp, by simp⟩)) (.keep (EntO.refl _) (.keep (EntO.refl _) .nil)))) (EntG.refl _) ?_
      refine retc2 Try.results43 (.cellW 1 rfl rfl ?_) (.tmp rfl (one_le ?_))
      · simp only [decide_true, if_true]; exact matF_le fun a b ha hb => by simp [fill2, ha]
      · simp
end Tor
end

section
set_option linter.unusedVariables false
set_option linter.unusedSimpArgs false
namespace Tor
open Go Go.RowKit Go.Proofs
/-- The transpose, filled in up to the element (i, j) of the matrix. -/
def fillT (F : Nat → Nat → Int) (i j : Nat) : Nat → Nat → Int := fun q k => if k < i ∨ (k = i ∧ q < j) then F k q else 0
theorem upd_fillT {T : TypeId} {c : Nat} {bs : List Nat} {F : Nat → Nat → Int} {i j : Nat} :
    Own.le (rowsO T (.agg 2) c bs (upd2 (fun q k => bigT (fillT F i j q k)) j i (bigT (F i j)))) (rowsO T (.agg 2) c bs (fun q k => bigT (fillT F i (j + 1) q k))) := by
  refine rowsO_eq fun q k hq hk => ?_
  unfold upd2 fillT
  by_cases h : q = j ∧ k = i
  · obtain ⟨rfl, rfl⟩ := h; simp
  · rw [if_neg h]
    have e : (k < i ∨ k = i ∧ q < j + 1) ↔ (k < i ∨ k = i ∧ q < j) := by omega
    simp only [e]
attribute [local irreducible] Tor.J Tor.PJ Tor.StepO Tor.one Tor.slT Tor.ptrT Tor.aggT Tor.tupT Tor.exT Tor.andT Tor.gT Tor.eP Tor.boxO Tor.sliO Tor.slV Tor.VT.le Tor.Ret Tor.anyT
attribute [local irreducible] bigT Tor.rowsO
set_option maxHeartbeats 8000000 in
theorem rTranspose_ok (r c : Nat) (F : Nat → Nat → Int) (hr0 : r ≤ 1048576) (hc0 : c ≤ 1048576) : Ok Try.prog 34 [matF r c F] (matF c r (fun i j => F j i)) := by
  unfold matF
  refine Ok.enter Try.func34 rfl Try.ntmps34 rfl (fun w O => ?_)
  refine J_seq ?_
  refine J_reg ?_
  refine a_boxS rfl rfl (ltN rfl) (fun b => ?_)
  refine a_allocS (T := 33) rfl rfl rfl (fun b => ?_)
  refine Run.nil ?_
  refine pj_then ?_
  refine J_seq ?_
  refine J_reg ?_
  refine st (s_fieldAddr rfl) rfl ?_
  refine st (s_loadB 1 rfl rfl rfl) rfl ?_
  refine st (s_fieldAddr rfl) rfl ?_
  refine st (s_loadB 1 rfl rfl rfl) rfl ?_
  refine a_callM (rNew_ok c r hc0 hr0) rfl ⟨VT.le_refl _, VT.le_refl _, trivial⟩ rfl rfl (fun s => ?_)
  obtain ⟨⟨bs, sv1, cap1⟩, hlen, hsv⟩ := s
  simp only at hlen hsv
  unfold newT
  refine a_allocS (T := 33) rfl rfl rfl (fun b => ?_)
  refine a_storeW 0 rfl rfl rfl rfl ?_
  refine Run.nil ?_
  refine pj_then ?_
  refine J_seq ?_
  refine J_seq ?_
  refine J_reg ?_
  refine st (s_assign rfl) rfl ?_
  refine Run.nil ?_
  refine pj_then ?_
  refine J_block ?_
  rename_i b1 b2
  refine J_loop (σ := Nat) (fun i => [(1, one (.pointer (some ⟨b1, 0, none⟩))), (2, one (.pointer (some ⟨b2, 0, none⟩))), (3, one (.pointer (some ⟨b, 0, none⟩))), (4, one (.int .i64 (i : Nat)))])
    (fun i => [boxO b 33 3 [(0, .one, one (.int .i64 c)), (1, .one, one (.int .i64 r)), (2, .one, one (slV sv1 c cap1))], outO sv1 cap1 c r bs, ownR r bs (fillT F i 0), boxO b2 33 3 (zeroC #[Value.int IntKind.i64 0, Value.int IntKind.i64 0, Value.slice none 0 0] [(0, Lay.one), (1, Lay.one), (2, Lay.one)]), boxO b1 33 3 [(0, .one, one (.int .i64 r)), (1, .one, one (.int .i64 c)), (2, .one, slT .one r (fun i => rowF c (F i)))]])
    (fun i => i ≤ r) (fun i => r - i) 0 (Nat.zero_le _) (by repeat (first | exact SubG.nil | refine SubG.cons rfl (VT.le_refl _) ?_ | (refine SubG.cons rfl (one_le ?_) ?_; (congr 1; first | omega | (simp; omega) | simp)))) (.keep (Own.le_refl _) (.keep (Own.le_refl _) (.keep (ownR_le fun i j hi hj => by simp [fillT]) (SubM.refl _)))) (fun i hi => ?_)
  refine J_seq ?_
  refine J_seq ?_
  refine J_reg ?_
  refine st (s_move rfl) rfl ?_
  refine st (s_fieldAddr rfl) rfl ?_
  refine st (s_loadB 4 rfl rfl rfl) rfl ?_
  refine st (s_lt rfl rfl) rfl ?_
  refine Run.nil ?_
  refine pj_then ?_
  refine J_cond rfl (fun hc => ?_) (fun hc => ?_) <;> simp only [decide_eq_true_eq, decide_eq_false_iff_not, Int.ofNat_lt] at hc
  · refine J_skip ?_
    refine pj_then ?_
    refine J_seq ?_
    refine J_block ?_
    refine J_seq ?_
    refine J_reg ?_
    refine st (s_assign rfl) rfl ?_
    refine Run.nil ?_
    refine pj_then ?_
    refine J_block ?_
    refine J_loop (σ := Nat) (fun j => [(1, one (.pointer (some ⟨b1, 0, none⟩))), (2, one (.pointer (some ⟨b2, 0, none⟩))), (3, one (.pointer (some ⟨b, 0, none⟩))), (4, one (.int .i64 (i : Nat))), (5, one (.int .i64 (j : Nat)))])
      (fun j => [boxO b 33 3 [(0, .one, one (.int .i64 c)), (1, .one, one (.int .i64 r)), (2, .one, one (slV sv1 c cap1))], outO sv1 cap1 c r bs, ownR r bs (fillT F i j), boxO b2 33 3 (zeroC #[Value.int IntKind.i64 0, Value.int IntKind.i64 0, Value.slice none 0 0] [(0, Lay.one), (1, Lay.one), (2, Lay.one)]), boxO b1 33 3 [(0, .one, one (.int .i64 r)), (1, .one, one (.int .i64 c)), (2, .one, slT .one r (fun i => rowF c (F i)))]])
      (fun j => j ≤ c) (fun j => c - j) 0 (Nat.zero_le _) (by repeat (first | exact SubG.nil | refine SubG.cons rfl (VT.le_refl _) ?_ | (refine SubG.cons rfl (one_le ?_) ?_; (congr 1; first | omega | (simp; omega) | simp)))) (SubM.refl _) (fun j hj => ?_)
    refine J_seq ?_
    refine J_seq ?_
    refine J_reg ?_
    refine st (s_move rfl) rfl ?_
    refine st (s_fieldAddr rfl) rfl ?_
    refine st (s_loadB 4 rfl rfl rfl) rfl ?_
    refine st (s_lt rfl rfl) rfl ?_
    refine Run.nil ?_
    refine pj_then ?_
    refine J_cond rfl (fun hc2 => ?_) (fun hc2 => ?_) <;> simp only [decide_eq_true_eq, decide_eq_false_iff_not, Int.ofNat_lt] at hc2
    · obtain ⟨bo, rfl⟩ := sv_some hsv (by omega)
      refine J_skip ?_
      refine pj_then ?_
      refine J_seq ?_
      refine J_block ?_
      refine J_regd 15 mixed (by kernel_rfl) (by decide) ?_
      unfold rowF
      refine st (s_fieldAddr rfl) rfl ?_
      refine st (s_loadB 0 rfl rfl rfl) rfl ?_
      refine st (s_move rfl) rfl ?_
      (refine st (s_indexON rfl rfl ?_) rfl ?_; omega)
      (refine st (s_loadE 1 rfl rfl ?_) rfl ?_; omega)
      refine st (s_move rfl) rfl ?_
      refine st (s_fieldAddr rfl) rfl ?_
      refine st (s_loadB 4 rfl rfl rfl) rfl ?_
      refine st (s_move rfl) rfl ?_
      (refine st (s_indexIN rfl rfl ?_) rfl ?_; omega)
      refine st (s_load rfl) rfl ?_
      refine st (s_move rfl) rfl ?_
      (refine st (s_indexIN rfl rfl ?_) rfl ?_; omega)
      refine st (s_load rfl) rfl ?_
      (refine st (s_indexON rfl rfl ?_) rfl ?_; omega)
      refine Run.nil ?_
      (refine a_storeR 2 rfl rfl rfl (getq ?_) ?_ rfl ?_; omega; omega)
      refine Run.nil ?_
      refine pn_block ?_
      refine pj_then ?_
      refine J_reg ?_
      refine st (s_move rfl) rfl ?_
      (refine st (s_add rfl rfl (wrap_i64 ?_ ?_)) rfl ?_; omega; omega)
      refine st (s_assign rfl) rfl ?_
      refine Run.nil ?_
      exact pj_round (s := j) (j + 1) (show _ from by omega) (by show c - (j + 1) < c - j; omega) (by repeat (first | exact SubG.nil | refine SubG.cons rfl (VT.le_refl _) ?_ | (refine SubG.cons rfl (one_le ?_) ?_; (congr 1; first | omega | (simp; omega) | simp)))) (.keep (Own.le_refl _) (.keep (Own.le_refl _) (.keep upd_fillT (SubM.refl _))))
    · have hjm : j = c := by omega
      subst hjm
      refine J_exit ?_
      refine px_then ?_
      refine px_then ?_
      refine px_block ?_
      refine pn_block ?_
      refine pj_then ?_
      refine J_reg ?_
      refine st (s_move rfl) rfl ?_
      (refine st (s_add rfl rfl (wrap_i64 ?_ ?_)) rfl ?_; omega; omega)
      refine st (s_assign rfl) rfl ?_
      refine Run.nil ?_
      refine pj_round (s := i) (i + 1) (show _ from by omega) (by show r - (i + 1) < r - i; omega) (by repeat (first | exact SubG.nil | refine SubG.cons rfl (VT.le_refl _) ?_ | (refine SubG.cons rfl (one_le ?_) ?_; (congr 1; first | omega | (simp; omega) | simp)))) (.keep (Own.le_refl _) (.keep (Own.le_refl _) (.keep (ownR_le fun q k hq hk => ?_) (SubM.refl _))))
      unfold fillT
      have hq' : q < j := by omega
      have e : (k < i ∨ k = i ∧ q < j) ↔ (k < i + 1 ∨ k = i + 1 ∧ q < 0) := by omega
      simp only [e]
  · have hin : i = r := by omega
    subst hin
    refine J_exit ?_
    refine px_then ?_
    refine px_then ?_
    refine px_block ?_
    refine pj_then ?_
    refine J_seq ?_
    refine J_reg ?_
    refine st (s_loadW 0 rfl rfl) rfl ?_
    refine a_storeW 3 rfl rfl rfl rfl ?_
    refine Run.nil ?_
    refine pj_then ?_
    refine J_ret ?_
    have hperm : ∀ (x y z u t : Own), [x, y, z, u, t].Perm ([y, z] ++ [x, u, t]) := fun x y z u t => (List.Perm.swap y x _).trans (List.Perm.cons y (List.Perm.swap z x _))
    refine PJ_open [outO sv1 cap1 c i bs, ownR i bs (fillT F i 0)] (hperm _ _ _ _ _) (.keep (EntO.refl _) (.keep (EntO.box (newT_open hlen ⟨by simp, by simp, by simp⟩)) (.keep (EntO.refl _) .nil))) (EntG.refl _) ?_
    refine retc1 Try.results34 (.cellW 1 rfl rfl ?_)
    exact matF_le fun a b ha hb => by simp [fillT, hb]
end Tor
end

section
set_option linter.unusedVariables false
set_option linter.unusedSimpArgs false
namespace Tor
open Go Go.RowKit Go.Proofs
theorem small_one : small 1 := small_lt (by decide +kernel)
theorem small_neg1 : small (-1) := small_lt (by decide +kernel)
attribute [local irreducible] Tor.J Tor.PJ Tor.StepO Tor.one Tor.slT Tor.ptrT Tor.aggT Tor.tupT Tor.exT Tor.andT Tor.gT Tor.eP Tor.boxO Tor.sliO Tor.slV Tor.VT.le Tor.Ret Tor.anyT
attribute [local irreducible] bigT
set_option maxHeartbeats 2000000 in
theorem rCopied_ok (r c : Nat) (F : Nat → Nat → Int) (hr0 : r ≤ 1048576) (hc0 : c ≤ 1048576) (hF : ∀ i j, small (F i j)) : Ok Try.prog 51 [matF r c F] (matF r c F) := by
  unfold matF
  refine Ok.enter Try.func51 rfl Try.ntmps51 rfl (fun w O => ?_)
  refine J_seq ?_
  refine J_reg ?_
  refine a_boxS rfl rfl (ltN rfl) (fun b => ?_)
  refine a_allocS (T := 33) rfl rfl rfl (fun b => ?_)
  refine Run.nil ?_
  refine pj_then ?_
  refine J_seq ?_
  refine J_regd 3 mixed (by kernel_rfl) (by decide) ?_
  refine st (s_loadW 1 rfl rfl) rfl ?_
  refine st (s_callk (rOf_ok 1 (by decide) (by decide)) rfl ⟨VT.le_refl _, trivial⟩) rfl ?_
  refine st (s_callk ((rScale_ok r c F 1 hr0 hc0 hF small_one).le (leAll_refl _) (matF_le (G := F) fun i j _ _ => Int.mul_one _)) rfl ⟨VT.le_refl _, VT.le_refl _, trivial⟩) rfl ?_
  refine Run.nil ?_
  refine a_storeW 0 rfl rfl rfl rfl ?_
  refine Run.nil ?_
  refine pj_then ?_
  refine J_ret ?_
  exact retc1 Try.results51 (.cellW 0 rfl rfl (VT.le_refl _))
set_option maxHeartbeats 2000000 in
theorem rProduct_ok (ra ca : Nat) (F : Nat → Nat → Int) (cb : Nat) (G : Nat → Nat → Int) (hr0 : ra ≤ 1048576) (hc0 : ca ≤ 1048576) (hd0 : cb ≤ 1048576) (hF : ∀ i j, mod4 (F i j)) (hG : ∀ i j, mod4 (G i j)) :
    Ok Try.prog 21 [matF ra ca F, matF ca cb G] (matF ra cb (mulF ca F G)) := by
  unfold matF
  refine Ok.enter Try.func21 rfl Try.ntmps21 rfl (fun w O => ?_)
  refine J_seq ?_
  refine J_reg ?_
  refine a_boxS rfl rfl (ltN rfl) (fun b => ?_)
  refine a_boxS rfl rfl (ltN rfl) (fun b => ?_)
  refine a_allocS (T := 33) rfl rfl rfl (fun b => ?_)
  refine Run.nil ?_
  refine pj_then ?_
  refine J_seq ?_
  refine J_reg ?_
  refine st (s_loadW 2 rfl rfl) rfl ?_
  refine st (s_loadW 1 rfl rfl) rfl ?_
  have h := (rMulM_ok ra ca F ca cb G hr0 hc0 hd0 hF hG)
  rw [decide_eq_true (show ca = ca from rfl)] at h
  refine st (s_callk h rfl ⟨VT.le_refl _, VT.le_refl _, trivial⟩) rfl ?_
  unfold resT
  simp only [if_true]
  refine st (s_move rfl) rfl ?_
  refine st (s_extract rfl rfl) rfl ?_
  refine st (s_extract rfl rfl) rfl ?_
  refine a_allocS (T := 33) rfl rfl rfl (fun b => ?_)
  refine a_storeW 0 rfl rfl rfl rfl ?_
  refine st (s_assign rfl) rfl ?_
  refine Run.nil ?_
  refine pj_then ?_
  refine J_seq ?_
  refine J_reg ?_
  refine st (s_loadW 0 rfl rfl) rfl ?_
  refine a_storeW 1 rfl rfl rfl rfl ?_
  refine Run.nil ?_
  refine pj_then ?_
  refine J_ret ?_
  exact retc1 Try.results21 (.cellW 1 rfl rfl (VT.le_refl _))
set_option maxHeartbeats 2000000 in
theorem rSubM_ok (ra ca : Nat) (F : Nat → Nat → Int) (rb cb : Nat) (G : Nat → Nat → Int) (hr0 : ra ≤ 1048576) (hc0 : ca ≤ 1048576) (hr1 : rb ≤ 1048576) (hc1 : cb ≤ 1048576) (hF : ∀ i j, small (F i j)) (hG : ∀ i j, small (G i j)) :
    Ok Try.prog 42 [matF ra ca F, matF rb cb G] (resT (decide (ra = rb ∧ ca = cb)) 50 ra ca (fun i j => F i j - G i j)) := by
  have hneg : ∀ i j, small (G i j * -1) := fun i j => by
    have := hG i j
    unfold small at this ⊢
    rw [show (G i j * -1).natAbs = (G i j).natAbs by omega]; exact this
  have hadd := rAddM_ok ra ca F rb cb (fun i j => G i j * -1) hr0 hc0 hF hneg
  unfold resT at hadd ⊢
  unfold matF
  refine Ok.enter Try.func42 rfl Try.ntmps42 rfl (fun w O => ?_)
  refine J_seq ?_
  refine J_reg ?_
  refine a_boxS rfl rfl (ltN rfl) (fun b => ?_)
  refine a_boxS rfl rfl (ltN rfl) (fun b => ?_)
  refine a_allocS (T := 33) rfl rfl rfl (fun b => ?_)
  refine st (s_assign rfl) rfl ?_
  refine Run.nil ?_
  refine pj_then ?_
  refine J_seq ?_
  refine J_regd 7 mixed (by kernel_rfl) (by decide) ?_
  refine st (s_loadW 2 rfl rfl) rfl ?_
  refine st (s_loadW 1 rfl rfl) rfl ?_
  refine st (s_callk (rOf_ok (-1) (by decide) (by decide)) rfl ⟨VT.le_refl _, trivial⟩) rfl ?_
  refine st (s_callk (rScale_ok rb cb G (-1) hr1 hc1 hG small_neg1) rfl ⟨VT.le_refl _, VT.le_refl _, trivial⟩) rfl ?_
  refine st (s_callk hadd rfl ⟨VT.le_refl _, VT.le_refl _, trivial⟩) rfl ?_
  refine st (s_extract rfl rfl) rfl ?_
  refine st (s_extract rfl rfl) rfl ?_
  refine Run.nil ?_
  refine a_storeW 0 rfl rfl rfl rfl ?_
  refine st (s_assign rfl) rfl ?_
  refine Run.nil ?_
  refine pj_then ?_
  refine J_ret ?_
  refine retc2 Try.results42 (.cellW 0 rfl rfl ?_) (.tmp rfl (VT.le_refl _))
  exact matF_le fun i j _ _ => by omega
end Tor
end

section
set_option linter.unusedVariables false
set_option linter.unusedSimpArgs false
namespace Tor
open Go Go.RowKit Go.Proofs
attribute [local irreducible] Tor.J Tor.PJ Tor.StepO Tor.one Tor.slT Tor.ptrT Tor.aggT Tor.tupT Tor.exT Tor.andT Tor.gT Tor.eP Tor.boxO Tor.sliO Tor.slV Tor.VT.le Tor.Ret Tor.anyT
attribute [local irreducible] bigT Tor.rowsO
set_option maxHeartbeats 8000000 in
theorem Transpose_ok (r c : Nat) (F : Nat → Nat → Int) (hr0 : r ≤ 1048576) (hc0 : c ≤ 1048576) (hF : ∀ i j, small (F i j)) : Ok Try.prog 38 [matF r c F] (matF c r (fun i j => F j i)) := by
  unfold matF
  refine Ok.enter Try.func38 rfl Try.ntmps38 rfl (fun w O => ?_)
  refine J_seq ?_
  refine J_reg ?_
  refine a_boxS rfl rfl (ltN rfl) (fun b => ?_)
  refine a_allocS (T := 33) rfl rfl rfl (fun b => ?_)
  refine Run.nil ?_
  refine pj_then ?_
  refine J_seq ?_
  refine J_seq ?_
  refine J_reg ?_
  refine st (s_loadW 1 rfl rfl) rfl ?_
  refine st (s_callk (matValidF_ok r c F) rfl ⟨VT.le_refl _, trivial⟩) rfl ?_
  refine st (s_not rfl) rfl ?_
  refine Run.nil ?_
  refine pj_then ?_
  refine J_cond rfl (fun h => ?_) (fun h => ?_)
  · cases h
  · refine J_skip ?_
    refine pj_then ?_
    refine J_seq ?_
    refine J_reg ?_
    refine st (s_fieldAddr rfl) rfl ?_
    refine st (s_loadB 1 rfl rfl rfl) rfl ?_
    refine st (s_fieldAddr rfl) rfl ?_
    refine st (s_loadB 1 rfl rfl rfl) rfl ?_
    refine a_callM (New_ok c r hc0 hr0) rfl ⟨VT.le_refl _, VT.le_refl _, trivial⟩ rfl rfl (fun s => ?_)
    obtain ⟨⟨bs, sv1, cap1⟩, hlen, hsv⟩ := s
    simp only at hlen hsv
    unfold newT
    refine a_allocS (T := 33) rfl rfl rfl (fun b => ?_)
    refine a_storeW 0 rfl rfl rfl rfl ?_
    refine Run.nil ?_
    refine pj_then ?_
    refine J_seq ?_
    refine J_seq ?_
    refine J_reg ?_
    refine st (s_fieldAddr rfl) rfl ?_
    refine st (s_loadB 4 rfl rfl rfl) rfl ?_
    refine st (s_len rfl) rfl ?_
    refine st (s_move rfl) rfl ?_
    refine Run.nil ?_
    refine pj_then ?_
    refine J_block ?_
    rename_i b1 b2
    revert b
    intro b3
    refine J_loop (σ := Nat) (fun i => [(2, one (.pointer (some ⟨b2, 0, none⟩))), (3, one (.pointer (some ⟨b3, 0, none⟩))), (18, slT .one r (fun i => rowF c (F i))), (19, one (.int .i64 r)), (20, one (.int .i64 (i : Nat)))])
      (fun i => [boxO b3 33 3 [(0, .one, one (.int .i64 c)), (1, .one, one (.int .i64 r)), (2, .one, one (slV sv1 c cap1))], outO sv1 cap1 c r bs, ownR r bs (fillT F i 0), boxO b2 33 3 (zeroC #[Value.int IntKind.i64 0, Value.int IntKind.i64 0, Value.slice none 0 0] [(0, Lay.one), (1, Lay.one), (2, Lay.one)])])
      (fun i => i ≤ r) (fun i => r - i) 0 (Nat.zero_le _) (by repeat (first | exact SubG.nil | refine SubG.cons rfl (VT.le_refl _) ?_ | (refine SubG.cons rfl (one_le ?_) ?_; (congr 1; first | omega | (simp; omega) | simp)))) (.keep (Own.le_refl _) (.keep (Own.le_refl _) (.keep (ownR_le fun i j hi hj => by simp [fillT]) (.keep (Own.le_refl _) (.drop .nil))))) (fun i hi => ?_)
    refine J_seq ?_
    refine J_reg ?_
    refine st (s_lt rfl rfl) rfl ?_
    refine Run.nil ?_
    refine pj_then ?_
    refine J_seq ?_
    refine J_cond rfl (fun hc => ?_) (fun hc => ?_) <;> simp only [decide_eq_true_eq, decide_eq_false_iff_not, Int.ofNat_lt] at hc
    · unfold rowF
      refine J_skip ?_
      refine pj_then ?_
      refine J_seq ?_
      refine J_block ?_
      refine J_seq ?_
      refine J_reg ?_
      refine st (s_move rfl) rfl ?_
      (refine st (s_indexIN rfl rfl ?_) rfl ?_; omega)
      refine st (s_load rfl) rfl ?_
      refine st (s_assign rfl) rfl ?_
      refine st (s_assign rfl) rfl ?_
      refine Run.nil ?_
      refine pj_then ?_
      refine J_seq ?_
      refine J_reg ?_
      refine st (s_move rfl) rfl ?_
      refine st (s_len rfl) rfl ?_
      refine st (s_move rfl) rfl ?_
      refine Run.nil ?_
      refine pj_then ?_
      refine J_block ?_
      refine J_loop (σ := Nat) (fun j => [(2, one (.pointer (some ⟨b2, 0, none⟩))), (3, one (.pointer (some ⟨b3, 0, none⟩))), (18, slT .one r (fun i => slT (.agg 2) c (fun j => bigT (F i j)))), (19, one (.int .i64 r)), (20, one (.int .i64 (i : Nat))), (4, one (.int .i64 (i : Nat))), (25, slT (.agg 2) c (fun j => bigT (F i j))), (26, one (.int .i64 c)), (27, one (.int .i64 (j : Nat)))])
        (fun j => [boxO b3 33 3 [(0, .one, one (.int .i64 c)), (1, .one, one (.int .i64 r)), (2, .one, one (slV sv1 c cap1))], outO sv1 cap1 c r bs, ownR r bs (fillT F i j), boxO b2 33 3 (zeroC #[Value.int IntKind.i64 0, Value.int IntKind.i64 0, Value.slice none 0 0] [(0, Lay.one), (1, Lay.one), (2, Lay.one)])])
        (fun j => j ≤ c) (fun j => c - j) 0 (Nat.zero_le _) (by repeat (first | exact SubG.nil | refine SubG.cons rfl (VT.le_refl _) ?_ | (refine SubG.cons rfl (one_le ?_) ?_; (congr 1; first | omega | (simp; omega) | simp)))) (SubM.refl _) (fun j hj => ?_)
      refine J_seq ?_
      refine J_reg ?_
      refine st (s_lt rfl rfl) rfl ?_
      refine Run.nil ?_
      refine pj_then ?_
      refine J_seq ?_
      refine J_cond rfl (fun hc2 => ?_) (fun hc2 => ?_) <;> simp only [decide_eq_true_eq, decide_eq_false_iff_not, Int.ofNat_lt] at hc2
      · obtain ⟨bo, rfl⟩ := sv_some hsv (by omega)
        refine J_skip ?_
        refine pj_then ?_
        refine J_seq ?_
        refine J_block ?_
        refine J_seq ?_
        refine J_reg ?_
        refine st (s_move rfl) rfl ?_
        (refine st (s_indexIN rfl rfl ?_) rfl ?_; omega)
        refine st (s_load rfl) rfl ?_
        refine a_alloc (T := 29) rfl (ltN rfl) (fun b => ?_)
        refine st (s_assign rfl) rfl ?_
        refine a_storeB 0 rfl rfl rfl rfl rfl (leN rfl) rfl ?_
        refine Run.nil ?_
        refine pj_then ?_
        refine J_regd 9 mixed (by kernel_rfl) (by decide) ?_
        refine st (s_fieldAddr rfl) rfl ?_
        refine st (s_loadB 1 rfl rfl rfl) rfl ?_
        refine st (s_move rfl) rfl ?_
        (refine st (s_indexON rfl rfl ?_) rfl ?_; omega)
        (refine st (s_loadE 2 rfl rfl ?_) rfl ?_; omega)
        refine st (s_move rfl) rfl ?_
        refine st (s_loadB 0 rfl rfl rfl) rfl ?_
        refine st (s_callk (own_ok (F i j) (hF i j)) rfl ⟨VT.le_refl _, trivial⟩) rfl ?_
        (refine st (s_indexON rfl rfl ?_) rfl ?_; omega)
        refine Run.nil ?_
        (refine a_storeR 3 rfl rfl rfl (getq ?_) ?_ rfl ?_; omega; omega)
        refine Run.nil ?_
        refine pn_block ?_
        refine pj_then ?_
        refine J_reg ?_
        (refine st (s_add rfl rfl (wrap_i64 ?_ ?_)) rfl ?_; omega; omega)
        refine st (s_move rfl) rfl ?_
        refine Run.nil ?_
        exact pj_round (s := j) (j + 1) (show _ from by omega) (by show c - (j + 1) < c - j; omega) (by repeat (first | exact SubG.nil | refine SubG.cons rfl (VT.le_refl _) ?_ | (refine SubG.cons rfl (one_le ?_) ?_; (congr 1; first | omega | (simp; omega) | simp)))) (.drop (.keep (Own.le_refl _) (.keep (Own.le_refl _) (.keep upd_fillT (SubM.refl _)))))
      · have hjm : j = c := by omega
        subst hjm
        refine J_exit ?_
        refine px_then ?_
        refine px_then ?_
        refine px_block ?_
        refine pn_block ?_
        refine pj_then ?_
        refine J_reg ?_
        (refine st (s_add rfl rfl (wrap_i64 ?_ ?_)) rfl ?_; omega; omega)
        refine st (s_move rfl) rfl ?_
        refine Run.nil ?_
        refine pj_round (s := i) (i + 1) (show _ from by omega) (by show r - (i + 1) < r - i; omega) (by repeat (first | exact SubG.nil | refine SubG.cons rfl (VT.le_refl _) ?_ | (refine SubG.cons rfl (one_le ?_) ?_; (congr 1; first | omega | (simp; omega) | simp)))) (.keep (Own.le_refl _) (.keep (Own.le_refl _) (.keep (ownR_le fun q k hq hk => ?_) (SubM.refl _))))
        unfold fillT
        have hq' : q < j := by omega
        have e : (k < i ∨ k = i ∧ q < j) ↔ (k < i + 1 ∨ k = i + 1 ∧ q < 0) := by omega
        simp only [e]
    · have hin : i = r := by omega
      subst hin
      refine J_exit ?_
      refine px_then ?_
      refine px_then ?_
      refine px_block ?_
      refine pj_then ?_
      refine J_seq ?_
      refine J_reg ?_
      refine st (s_loadW 0 rfl rfl) rfl ?_
      refine a_storeW 3 rfl rfl rfl rfl ?_
      refine Run.nil ?_
      refine pj_then ?_
      refine J_ret ?_
      have hperm : ∀ (x y z u : Own), [x, y, z, u].Perm ([y, z] ++ [x, u]) := fun x y z u => (List.Perm.swap y x _).trans (List.Perm.cons y (List.Perm.swap z x _))
      refine PJ_open [outO sv1 cap1 c i bs, ownR i bs (fillT F i 0)] (hperm _ _ _ _) (.keep (EntO.refl _) (.keep (EntO.box (newT_open hlen ⟨by simp, by simp, by simp⟩)) .nil)) (EntG.refl _) ?_
      refine retc1 Try.results38 (.cellW 1 rfl rfl ?_)
      exact matF_le fun a b ha hb => by simp [fillT, hb]
end Tor
end

section
set_option linter.unusedVariables false
set_option linter.unusedSimpArgs false
namespace Tor
open Go Go.RowKit Go.Proofs
attribute [local irreducible] Tor.J Tor.PJ Tor.StepO Tor.one Tor.slT Tor.ptrT Tor.aggT Tor.tupT Tor.exT Tor.andT Tor.gT Tor.eP Tor.boxO Tor.sliO Tor.slV Tor.VT.le Tor.Ret Tor.anyT
attribute [local irreducible] bigT
set_option maxHeartbeats 2000000 in
theorem rRow_ok (n : Nat) (f : Nat → Int) : Ok Try.prog 31 [rowF n f] (matF 1 n (fun _ => f)) := by
  unfold rowF
  refine Ok.enter Try.func31 rfl Try.ntmps31 rfl (fun w O => ?_)
  refine J_seq ?_
  refine J_reg ?_
  refine a_allocS (T := 33) rfl rfl rfl (fun b => ?_)
  refine Run.nil ?_
  refine pj_then ?_
  refine J_seq ?_
  refine J_reg ?_
  refine st (s_move rfl) rfl ?_
  refine st (s_len rfl) rfl ?_
  refine st (s_move rfl) rfl ?_
  refine stS1 rfl rfl rfl rfl ?_
  refine stB rfl rfl rfl ?_
  refine BuildK.cons rfl rfl rfl ?_
  refine BuildK.cons rfl rfl rfl ?_
  refine BuildK.cons rfl rfl rfl ?_
  refine BuildK.nil ?_
  refine a_storeW 0 rfl rfl rfl rfl ?_
  refine Run.nil ?_
  refine pj_then ?_
  refine J_ret ?_
  refine retc1 Try.results31 (.cellW 0 rfl rfl ?_)
  unfold matF rowF
  refine aggT_le (fun q hq => ?_)
  rcases List.mem_cons.1 hq with rfl | hq
  · exact ⟨_, List.mem_cons_self, one_le rfl⟩
  rcases List.mem_cons.1 hq with rfl | hq
  · exact ⟨_, List.mem_cons_of_mem _ List.mem_cons_self, VT.le_refl _⟩
  rcases List.mem_cons.1 hq with rfl | hq
  · exact ⟨_, List.mem_cons_of_mem _ (List.mem_cons_of_mem _ List.mem_cons_self), VT.le_refl _⟩
  · cases hq
end Tor
end

section
set_option linter.unusedVariables false
set_option linter.unusedSimpArgs false
namespace Tor
open Go Go.RowKit Go.Proofs
theorem rValidF_ok (r c : Nat) (F : Nat → Nat → Int) (hr : r ≤ 1048576) (hF : ∀ i j, small (F i j)) : Ok Try.prog 14 [matF r c F] (one (.bool true)) := by
  have h := rValidMat_ok r c (rawTab r c F) (by simp [rawTab]; omega) (fun v hv p hp => by
    simp only [rawTab, tab, List.map_map, List.mem_map, List.mem_range] at hv
    obtain ⟨i, _, rfl⟩ := hv
    simp only [Function.comp, List.map_map, List.mem_map, List.mem_range] at hp
    obtain ⟨j, _, rfl⟩ := hp
    have := hF i j
    unfold small at this
    simp only [Function.comp, rawOf]; omega)
  rw [validM_tab] at h
  exact h.le ⟨matF_raw r c F, trivial⟩ (VT.le_refl _)
attribute [local irreducible] Tor.J Tor.PJ Tor.StepO Tor.one Tor.slT Tor.ptrT Tor.aggT Tor.tupT Tor.exT Tor.andT Tor.gT Tor.eP Tor.boxO Tor.sliO Tor.slV Tor.VT.le Tor.Ret Tor.anyT
attribute [local irreducible] bigT
set_option maxHeartbeats 2000000 in
theorem rSized_ok (r c : Nat) (F : Nat → Nat → Int) (hr : r ≤ 1048576) (hF : ∀ i j, small (F i j)) : Ok Try.prog 19 [matF r c F, one (.int .i64 r), one (.int .i64 c)] (one (.bool true)) := by
  have hv := rValidF_ok r c F hr hF
  unfold matF at hv ⊢
  refine Ok.enter Try.func19 rfl Try.ntmps19 rfl (fun w O => ?_)
  refine J_seq ?_
  refine J_reg ?_
  refine a_boxS rfl rfl (ltN rfl) (fun b => ?_)
  refine st (s_assign rfl) rfl ?_
  refine Run.nil ?_
  refine pj_then ?_
  refine J_seq ?_
  refine J_reg ?_
  refine st (s_fieldAddr rfl) rfl ?_
  refine st (s_loadB 0 rfl rfl rfl) rfl ?_
  refine st (s_move rfl) rfl ?_
  refine st (s_eq rfl rfl) rfl ?_
  refine st (s_move rfl) rfl ?_
  rw [decide_eq_true (show (r : Int) = r from rfl)]
  refine sg1 rfl rfl (s_fieldAddr rfl) rfl ?_
  refine sg1 rfl rfl (s_loadB 0 rfl rfl rfl) rfl ?_
  refine sg1 rfl rfl (s_move rfl) rfl ?_
  refine sg1 rfl rfl (s_eq rfl rfl) rfl ?_
  rw [decide_eq_true (show (c : Int) = c from rfl)]
  refine st (s_pickT rfl rfl) rfl ?_
  refine st (s_move rfl) rfl ?_
  refine sg1 rfl rfl (s_loadW 0 rfl rfl) rfl ?_
  refine sg1 rfl rfl (s_callk hv rfl ⟨VT.le_refl _, trivial⟩) rfl ?_
  refine st (s_pickT rfl rfl) rfl ?_
  refine st (s_assign rfl) rfl ?_
  refine Run.nil ?_
  refine pj_then ?_
  refine J_ret ?_
  exact retc1 Try.results19 (.tmp rfl (VT.le_refl _))
set_option maxHeartbeats 2000000 in
theorem rVector_ok (l : List Int) (n : Nat) (hn : n ≤ 16) : Ok Try.prog 29 [numT .i8 l, one (.int .i64 n)] (rowF n (dig l)) := by
  refine Ok.enter Try.func29 rfl Try.ntmps29 rfl (fun w O => ?_)
  refine J_seq ?_
  refine J_reg ?_
  refine st (s_assign rfl) rfl ?_
  refine Run.nil ?_
  refine pj_then ?_
  refine J_seq ?_
  refine J_reg ?_
  refine st (s_move rfl) rfl ?_
  refine st (s_move rfl) rfl ?_
  refine st (s_callk (rFilled_ok 1 n l (by decide) hn) rfl ⟨one_le rfl, VT.le_refl _, VT.le_refl _, trivial⟩) rfl ?_
  unfold matF
  refine st (s_field rfl rfl) rfl ?_
  (refine st (s_indexI rfl rfl ?_ ?_) rfl ?_; omega; omega)
  refine st (s_load rfl) rfl ?_
  refine st (s_assign rfl) rfl ?_
  refine Run.nil ?_
  refine pj_then ?_
  refine J_ret ?_
  refine retc1 Try.results29 (.tmp rfl ?_)
  unfold rowF
  refine slT_le' rfl fun j hj => ?_
  simp
end Tor
end

section
set_option linter.unusedVariables false
set_option linter.unusedSimpArgs false
namespace Tor
open Go Go.RowKit Go.Proofs
/-- A slice that has grown by one element. -/
theorem grow_le {sv : Option Nat} {T : TypeId} {L : Lay} {cap n m : Nat} {φ ψ χ : Nat → VT} (hm : m = n + 1) (h1 : ∀ q, q < n → φ q = χ q) (h2 : ψ 0 = χ n) :
    Own.le (sliO sv T L cap (n + 1) (fun q => if q < n then φ q else ψ (q - n))) (sliO sv T L cap m χ) := by
  subst hm
  refine sliO_eq fun q hq => ?_
  by_cases h : q < n
  · rw [if_pos h]; exact h1 q h
  · have : q = n := by omega
    subst this
    rw [if_neg h, Nat.sub_self]; exact h2
theorem grow_le1 {sv : Option Nat} {T : TypeId} {L : Lay} {cap n m : Nat} {φ χ : Nat → VT} {ψ : VT} (hm : m = n + 1) (h1 : ∀ q, q < n → φ q = χ q) (h2 : ψ = χ n) :
    Own.le (sliO sv T L cap (n + 1) (fun q => if q < n then φ q else ψ)) (sliO sv T L cap m χ) := grow_le (ψ := fun _ => ψ) hm h1 h2
theorem notOut {n : Nat} {l : List Int} (h : ∀ i, i < l.length → 0 ≤ l.getD i 0 ∧ l.getD i 0 < n) : outs n l = false := by
  rw [outs, List.any_eq_false]
  intro x hx
  obtain ⟨i, hi, rfl⟩ := List.getElem_of_mem hx
  have := h i hi
  have e : l.getD i 0 = l[i] := by simp [List.getD, hi]
  rw [e] at this
  simp; omega
theorem isOut {n : Nat} {l : List Int} {i : Nat} (hi : i < l.length) (h : l.getD i 0 < 0 ∨ (n : Int) ≤ l.getD i 0) : outs n l = true := by
  rw [outs, List.any_eq_true]
  have e : l.getD i 0 = l[i] := by simp [List.getD, hi]
  rw [e] at h
  exact ⟨l[i], List.getElem_mem hi, decide_eq_true h⟩
attribute [local irreducible] Tor.J Tor.PJ Tor.StepO Tor.one Tor.slT Tor.ptrT Tor.aggT Tor.tupT Tor.exT Tor.andT Tor.gT Tor.eP Tor.boxO Tor.sliO Tor.slV Tor.VT.le Tor.Ret Tor.anyT
attribute [local irreducible] bigT Tor.rowsO
set_option maxHeartbeats 4000000 in
theorem rInside_ok (l : List Int) (n : Nat) (hl : l.length ≤ 1048576) : Ok Try.prog 66 [numT .i64 l, one (.int .i64 n)] (one (.bool (!outs n l))) := by
  unfold numT
  refine Ok.enter Try.func66 rfl Try.ntmps66 rfl (fun w O => ?_)
  refine J_seq ?_
  refine J_reg ?_
  refine st (s_assign rfl) rfl ?_
  refine Run.nil ?_
  refine pj_then ?_
  refine J_seq ?_
  refine J_seq ?_
  refine J_reg ?_
  refine st (s_assign rfl) rfl ?_
  refine Run.nil ?_
  refine pj_then ?_
  refine J_block ?_
  refine J_sub (Γ' := [(0, _), (1, _), (4, _), (5, _)]) (SubG.cons rfl (VT.le_refl _) (SubG.cons rfl (VT.le_refl _) (SubG.cons rfl (VT.le_refl _) (SubG.cons rfl (VT.le_refl _) (SubG.nil))))) (SubM.refl _) ?_
  refine J_loopA (σ := Nat) (Γk := [(0, _), (1, _)]) (SubG.cons rfl (VT.le_refl _) (SubG.cons rfl (VT.le_refl _) (SubG.nil))) (fun i => [(5, one (.int .i64 (i : Nat)))]) (fun i M0 => M0) (fun i => i ≤ l.length ∧ ∀ j, j < i → 0 ≤ l.getD j 0 ∧ l.getD j 0 < n) (fun i => l.length - i) (0) (⟨Nat.zero_le _, fun j hj => absurd hj (Nat.not_lt_zero _)⟩) (by repeat (first | exact SubG.refl _ | exact SubG.nil | refine SubG.cons rfl (VT.le_refl _) ?_ | (refine SubG.cons rfl (one_le ?_) ?_; (congr 1; first | omega | (simp; omega) | simp)))) (.nil) (fun i hi => ?_)
  refine J_norm (Γ' := [(5, _), (0, _), (1, _)]) (M' := []) rfl rfl ?_
  refine J_seq ?_
  refine J_seq ?_
  refine J_reg ?_
  refine st (s_move rfl) rfl ?_
  refine st (s_move rfl) rfl ?_
  refine st (s_len rfl) rfl ?_
  refine st (s_lt rfl rfl) rfl ?_
  refine Run.nil ?_
  refine pj_then ?_
  refine J_if rfl (fun hc => ?_) (fun hc => ?_)
  · by_cases h1 : l.getD i 0 < 0
    · refine J_skip ?_
      refine pj_then ?_
      refine J_seq ?_
      refine J_block ?_
      refine J_seq ?_
      refine J_reg ?_
      refine st (s_move rfl) rfl ?_
      refine st (s_move rfl) rfl ?_
      (refine st (s_indexIN rfl rfl ?_) rfl ?_; omega)
      refine st (s_load rfl) rfl ?_
      refine st (sT (by assumption) (s_lt rfl rfl)) rfl ?_
      refine st (s_move rfl) rfl ?_
      refine sg0 rfl rfl rfl rfl ?_
      refine sg0 rfl rfl rfl rfl ?_
      refine sg0 rfl rfl rfl rfl ?_
      refine sg0 rfl rfl rfl rfl ?_
      refine sg0 rfl rfl rfl rfl ?_
      refine sg0 rfl rfl rfl rfl ?_
      refine st (s_pickT rfl rfl) rfl ?_
      refine Run.nil ?_
      refine pj_then ?_
      refine J_cond1 rfl ?_
      refine J_seq ?_
      refine J_reg ?_
      refine st (s_assign rfl) rfl ?_
      refine Run.nil ?_
      refine pj_then ?_
      refine J_ret ?_
      refine pr_block ?_
      refine pr_then ?_
      refine pr_then ?_
      refine pr_block ?_
      refine pr_then ?_
      refine retc1 Try.results66 (.tmp rfl (one_le (by rw [isOut (show i < l.length by omega) (.inl h1)]; rfl)))
    · by_cases h2 : (n : Int) ≤ l.getD i 0
      · refine J_skip ?_
        refine pj_then ?_
        refine J_seq ?_
        refine J_block ?_
        refine J_seq ?_
        refine J_reg ?_
        refine st (s_move rfl) rfl ?_
        refine st (s_move rfl) rfl ?_
        (refine st (s_indexIN rfl rfl ?_) rfl ?_; omega)
        refine st (s_load rfl) rfl ?_
        refine st (sF (by assumption) (s_lt rfl rfl)) rfl ?_
        refine st (s_move rfl) rfl ?_
        refine sg1 rfl rfl (s_move rfl) rfl ?_
        refine sg1 rfl rfl (s_move rfl) rfl ?_
        (refine sg1 rfl rfl (s_indexIN rfl rfl ?_) rfl ?_; omega)
        refine sg1 rfl rfl (s_load rfl) rfl ?_
        refine sg1 rfl rfl (s_move rfl) rfl ?_
        refine sg1 rfl rfl (sT (by assumption) (s_ge rfl rfl)) rfl ?_
        refine st (s_pickF rfl rfl) rfl ?_
        refine Run.nil ?_
        refine pj_then ?_
        refine J_cond1 rfl ?_
        refine J_seq ?_
        refine J_reg ?_
        refine st (s_assign rfl) rfl ?_
        refine Run.nil ?_
        refine pj_then ?_
        refine J_ret ?_
        refine pr_block ?_
        refine pr_then ?_
        refine pr_then ?_
        refine pr_block ?_
        refine pr_then ?_
        refine retc1 Try.results66 (.tmp rfl (one_le (by rw [isOut (show i < l.length by omega) (.inr h2)]; rfl)))
      · refine J_skip ?_
        refine pj_then ?_
        refine J_seq ?_
        refine J_block ?_
        refine J_seq ?_
        refine J_reg ?_
        refine st (s_move rfl) rfl ?_
        refine st (s_move rfl) rfl ?_
        (refine st (s_indexIN rfl rfl ?_) rfl ?_; omega)
        refine st (s_load rfl) rfl ?_
        refine st (sF (by assumption) (s_lt rfl rfl)) rfl ?_
        refine st (s_move rfl) rfl ?_
        refine sg1 rfl rfl (s_move rfl) rfl ?_
        refine sg1 rfl rfl (s_move rfl) rfl ?_
        (refine sg1 rfl rfl (s_indexIN rfl rfl ?_) rfl ?_; omega)
        refine sg1 rfl rfl (s_load rfl) rfl ?_
        refine sg1 rfl rfl (s_move rfl) rfl ?_
        refine sg1 rfl rfl (sF (by assumption) (s_ge rfl rfl)) rfl ?_
        refine st (s_pickF rfl rfl) rfl ?_
        refine Run.nil ?_
        refine pj_then ?_
        refine J_cond0 rfl ?_
        refine J_skip ?_
        refine pn_block ?_
        refine pj_then ?_
        refine J_reg ?_
        refine st (s_move rfl) rfl ?_
        (refine st (s_add rfl rfl (wrap_i64 ?_ ?_)) rfl ?_; omega; omega)
        refine st (s_assign rfl) rfl ?_
        refine Run.nil ?_
        refine pj_roundM (i + 1) (⟨by omega, fun j hj => (Nat.lt_succ_iff_lt_or_eq.1 hj).elim (hi.2 j) (fun e => by subst e; omega)⟩) (by omega) (by repeat (first | exact SubG.refl _ | exact SubG.nil | refine SubG.cons rfl (VT.le_refl _) ?_ | (refine SubG.cons rfl (one_le ?_) ?_; (congr 1; first | omega | (simp; omega) | simp)))) (.nil)
  · refine J_exit ?_
    refine px_then ?_
    refine px_then ?_
    refine px_block ?_
    refine pj_then ?_
    refine J_seq ?_
    refine J_reg ?_
    refine st (s_assign rfl) rfl ?_
    refine Run.nil ?_
    refine pj_then ?_
    refine J_ret ?_
    refine retc1 Try.results66 (.tmp rfl (one_le (by rw [notOut (fun j hj => hi.2 j (by omega))]; rfl)))
set_option maxHeartbeats 4000000 in
theorem rRange_ok (n : Nat) (hn : n ≤ 1048576) : Ok Try.prog 27 [one (.int .i64 n)] (slT .one n (fun i => one (.int .i64 (i : Nat)))) := by
  refine Ok.enter Try.func27 rfl Try.ntmps27 rfl (fun w O => ?_)
  refine J_seq ?_
  refine J_reg ?_
  refine st (s_assign rfl) rfl ?_
  refine Run.nil ?_
  refine pj_then ?_
  refine J_seq ?_
  refine J_reg ?_
  refine stSO (n := 0) rfl rfl rfl rfl rfl ?_
  refine PartsK.nil (fun bl => ?_)
  refine st (s_assign rfl) rfl ?_
  refine Run.nil ?_
  refine pj_then ?_
  refine J_seq ?_
  refine J_seq ?_
  refine J_reg ?_
  refine st (s_assign rfl) rfl ?_
  refine Run.nil ?_
  refine pj_then ?_
  refine J_block ?_
  refine J_sub (Γ' := [(0, _), (2, _), (3, _), (4, _)]) (SubG.cons rfl (VT.le_refl _) (SubG.cons rfl (VT.le_refl _) (SubG.cons rfl (VT.le_refl _) (SubG.cons rfl (VT.le_refl _) (SubG.nil))))) (SubM.refl _) ?_
  refine J_loopA (σ := Nat × Option Nat × Nat) (Γk := [(0, _), (2, _)]) (SubG.cons rfl (VT.le_refl _) (SubG.cons rfl (VT.le_refl _) (SubG.nil))) (fun s => [(4, one (.int .i64 (s.1 : Nat))), (3, one (slV s.2.1 s.1 s.2.2))]) (fun s M0 => (M0.set 0 (sliO s.2.1 3 .one s.2.2 s.1 (fun q => one (.int .i64 (q : Nat)))))) (fun s => s.1 ≤ n) (fun s => n - s.1) ((0, some bl, 0)) (Nat.zero_le _) (by repeat (first | exact SubG.refl _ | exact SubG.nil | refine SubG.cons rfl (VT.le_refl _) ?_ | (refine SubG.cons rfl (one_le ?_) ?_; (congr 1; first | omega | (simp; omega) | simp)))) (.keep (sliO_eq (fun q hq => by omega)) (.nil)) (fun s hs => ?_)
  refine J_norm (Γ' := [(4, _), (3, _), (0, _), (2, _)]) (M' := [_]) rfl rfl ?_
  obtain ⟨i, sv, cap⟩ := s
  dsimp only at hs ⊢
  refine J_seq ?_
  refine J_seq ?_
  refine J_reg ?_
  refine st (s_move rfl) rfl ?_
  refine st (s_move rfl) rfl ?_
  refine st (s_lt rfl rfl) rfl ?_
  refine Run.nil ?_
  refine pj_then ?_
  refine J_if rfl (fun hc => ?_) (fun hc => ?_)
  · refine J_skip ?_
    refine pj_then ?_
    refine J_seq ?_
    refine J_block ?_
    refine J_reg ?_
    refine st (s_move rfl) rfl ?_
    refine st (s_move rfl) rfl ?_
    refine stS1 rfl rfl rfl rfl ?_
    (refine a_append 0 rfl rfl rfl (leN rfl) ?_ ?_ rfl (ltN rfl) (fun sv14 cap14 => ?_); omega; omega)
    refine st (s_assign rfl) rfl ?_
    refine Run.nil ?_
    refine pn_block ?_
    refine pj_then ?_
    refine J_reg ?_
    refine st (s_move rfl) rfl ?_
    (refine st (s_add rfl rfl (wrap_i64 ?_ ?_)) rfl ?_; omega; omega)
    refine st (s_assign rfl) rfl ?_
    refine Run.nil ?_
    refine pj_roundM ((i + 1, sv14, cap14)) (by omega) (by omega) (by repeat (first | exact SubG.refl _ | exact SubG.nil | refine SubG.cons rfl (VT.le_refl _) ?_ | (refine SubG.cons rfl (one_le ?_) ?_; (congr 1; first | omega | (simp; omega) | simp)))) (.keep (grow_le1 rfl (fun _ _ => rfl) rfl) (.nil))
  · have e : i = n := by omega
    subst e
    refine J_exit ?_
    refine px_then ?_
    refine px_then ?_
    refine px_block ?_
    refine pj_then ?_
    refine J_seq ?_
    refine J_reg ?_
    refine st (s_move rfl) rfl ?_
    refine st (s_assign rfl) rfl ?_
    refine Run.nil ?_
    refine pj_then ?_
    refine J_ret ?_
    refine PJ_freeze (t := 2) (i := 0) rfl rfl ?_
    refine retc1 Try.results27 (.tmp rfl (VT.le_refl _))
/-- What indices gives. -/
def idxL (l : List Int) (n : Nat) : List Int := if n = 0 then [] else (l.take 6).map fun x => ((x % 256).toNat % n : Nat)
theorem idxL_len (l : List Int) (n : Nat) : (idxL l n).length ≤ 6 := by
  unfold idxL; split
  · simp
  · simp; omega
set_option maxHeartbeats 4000000 in
theorem indices_ok (l : List Int) (n : Nat) (hl : ∀ x ∈ l, -128 ≤ x ∧ x ≤ 127) (hn : n ≤ 1048576) : Ok Try.prog 24 [numT .i8 l, one (.int .i64 n)] (numT .i64 (idxL l n)) := by
  unfold numT
  refine Ok.enter Try.func24 rfl Try.ntmps24 rfl (fun w O => ?_)
  refine J_seq ?_
  refine J_reg ?_
  refine st (s_assign rfl) rfl ?_
  refine Run.nil ?_
  refine pj_then ?_
  refine J_seq ?_
  refine J_reg ?_
  refine stSO (n := 0) rfl rfl rfl rfl rfl ?_
  refine PartsK.nil (fun bl => ?_)
  refine st (s_assign rfl) rfl ?_
  refine Run.nil ?_
  refine pj_then ?_
  refine J_seq ?_
  refine J_seq ?_
  refine J_reg ?_
  refine st (s_assign rfl) rfl ?_
  refine Run.nil ?_
  refine pj_then ?_
  refine J_block ?_
  refine J_sub (Γ' := [(0, _), (1, _), (4, _), (5, _), (6, _)]) (SubG.cons rfl (VT.le_refl _) (SubG.cons rfl (VT.le_refl _) (SubG.cons rfl (VT.le_refl _) (SubG.cons rfl (VT.le_refl _) (SubG.cons rfl (VT.le_refl _) (SubG.nil)))))) (SubM.refl _) ?_
  refine J_loopA (σ := Nat × Option Nat × Nat) (Γk := [(0, _), (1, _), (4, _)]) (SubG.cons rfl (VT.le_refl _) (SubG.cons rfl (VT.le_refl _) (SubG.cons rfl (VT.le_refl _) (SubG.nil)))) (fun s => [(6, one (.int .i64 (s.1 : Nat))), (5, one (slV s.2.1 s.1 s.2.2))]) (fun s M0 => (M0.set 0 (sliO s.2.1 3 .one s.2.2 s.1 (fun q => one (.int .i64 ((idxL l n).getD q 0)))))) (fun s => s.1 ≤ (idxL l n).length) (fun s => 7 - s.1) ((0, some bl, 0)) (Nat.zero_le _) (by repeat (first | exact SubG.refl _ | exact SubG.nil | refine SubG.cons rfl (VT.le_refl _) ?_ | (refine SubG.cons rfl (one_le ?_) ?_; (congr 1; first | omega | (simp; omega) | simp)))) (.keep (sliO_eq (fun q hq => by omega)) (.nil)) (fun s hs => ?_)
  refine J_norm (Γ' := [(6, _), (5, _), (0, _), (1, _), (4, _)]) (M' := [_]) rfl rfl ?_
  obtain ⟨i, sv, cap⟩ := s
  dsimp only at hs ⊢
  have h6 := idxL_len l n
  by_cases hgo : i < l.length ∧ i < 6 ∧ 0 < n
  · obtain ⟨g1, g2, g3⟩ := hgo
    have hlen : (idxL l n).length = min 6 l.length := by unfold idxL; rw [if_neg (by omega)]; simp
    have hx : (idxL l n).getD i 0 = (((l.getD i 0 % 256).toNat % n : Nat) : Int) := by
      unfold idxL; rw [if_neg (by omega)]
      simp [List.getD, g1, g2, List.getElem?_take]
    refine J_seq ?_
    refine J_seq ?_
    refine J_reg ?_
    refine st (s_move rfl) rfl ?_
    refine st (s_move rfl) rfl ?_
    refine st (s_len rfl) rfl ?_
    refine st (sT (by omega) (s_lt rfl rfl)) rfl ?_
    refine st (s_move rfl) rfl ?_
    refine sg1 rfl rfl (s_move rfl) rfl ?_
    refine sg1 rfl rfl (sT (by omega) (s_lt rfl rfl)) rfl ?_
    refine st (s_pickT rfl rfl) rfl ?_
    refine st (s_move rfl) rfl ?_
    refine sg1 rfl rfl (s_move rfl) rfl ?_
    refine sg1 rfl rfl (sT (by omega) (s_gt rfl rfl)) rfl ?_
    refine st (s_pickT rfl rfl) rfl ?_
    refine Run.nil ?_
    refine pj_then ?_
    refine J_cond1 rfl ?_
    refine J_skip ?_
    refine pj_then ?_
    refine J_seq ?_
    refine J_block ?_
    refine J_reg ?_
    refine st (s_move rfl) rfl ?_
    refine st (s_move rfl) rfl ?_
    refine st (s_move rfl) rfl ?_
    (refine st (s_indexIN rfl rfl ?_) rfl ?_; omega)
    refine st (s_load rfl) rfl ?_
    refine st (s_toU8N rfl) rfl ?_
    (refine st (s_toI64 rfl ?_ ?_) rfl ?_; omega; omega)
    refine st (s_move rfl) rfl ?_
    refine st (s_remN _ rfl rfl rfl (by omega)) rfl ?_
    refine stS1 rfl rfl rfl rfl ?_
    (refine a_append 0 rfl rfl rfl (leN rfl) ?_ ?_ rfl (ltN rfl) (fun sv32 cap32 => ?_); omega; omega)
    refine st (s_assign rfl) rfl ?_
    refine Run.nil ?_
    refine pn_block ?_
    refine pj_then ?_
    refine J_reg ?_
    refine st (s_move rfl) rfl ?_
    (refine st (s_add rfl rfl (wrap_i64 ?_ ?_)) rfl ?_; omega; omega)
    refine st (s_assign rfl) rfl ?_
    refine Run.nil ?_
    refine pj_roundM ((i + 1, sv32, cap32)) (by omega) (by omega) (by repeat (first | exact SubG.refl _ | exact SubG.nil | refine SubG.cons rfl (VT.le_refl _) ?_ | (refine SubG.cons rfl (one_le ?_) ?_; (congr 1; first | omega | (simp; omega) | simp)))) (.keep (grow_le1 rfl (fun _ _ => rfl) (by rw [hx])) (.nil))
  · have e : i = (idxL l n).length := by
      have hlen : (idxL l n).length = if n = 0 then 0 else min 6 l.length := by unfold idxL; split <;> simp
      rw [hlen] at hs ⊢
      split <;> simp_all <;> omega
    by_cases h1 : i < l.length
    · by_cases h2 : i < 6
      · have h3 : n = 0 := by omega
        subst h3
        refine J_seq ?_
        refine J_seq ?_
        refine J_reg ?_
        refine st (s_move rfl) rfl ?_
        refine st (s_move rfl) rfl ?_
        refine st (s_len rfl) rfl ?_
        refine st (sT (by omega) (s_lt rfl rfl)) rfl ?_
        refine st (s_move rfl) rfl ?_
        refine sg1 rfl rfl (s_move rfl) rfl ?_
        refine sg1 rfl rfl (sT (by omega) (s_lt rfl rfl)) rfl ?_
        refine st (s_pickT rfl rfl) rfl ?_
        refine st (s_move rfl) rfl ?_
        refine sg1 rfl rfl (s_move rfl) rfl ?_
        refine sg1 rfl rfl (sF (by omega) (s_gt rfl rfl)) rfl ?_
        refine st (s_pickT rfl rfl) rfl ?_
        refine Run.nil ?_
        refine pj_then ?_
        refine J_cond0 rfl ?_
        refine J_exit ?_
        refine px_then ?_
        refine px_then ?_
        refine px_block ?_
        refine pj_then ?_
        refine J_seq ?_
        refine J_reg ?_
        refine st (s_move rfl) rfl ?_
        refine st (s_assign rfl) rfl ?_
        refine Run.nil ?_
        refine pj_then ?_
        refine J_ret ?_
        refine PJ_freeze (t := 4) (i := 0) rfl rfl ?_
        refine retc1 Try.results24 (.tmp rfl (by (subst e; exact VT.le_refl _)))
      · refine J_seq ?_
        refine J_seq ?_
        refine J_reg ?_
        refine st (s_move rfl) rfl ?_
        refine st (s_move rfl) rfl ?_
        refine st (s_len rfl) rfl ?_
        refine st (sT (by omega) (s_lt rfl rfl)) rfl ?_
        refine st (s_move rfl) rfl ?_
        refine sg1 rfl rfl (s_move rfl) rfl ?_
        refine sg1 rfl rfl (sF (by omega) (s_lt rfl rfl)) rfl ?_
        refine st (s_pickT rfl rfl) rfl ?_
        refine st (s_move rfl) rfl ?_
        refine sg0 rfl rfl rfl rfl ?_
        refine sg0 rfl rfl rfl rfl ?_
        refine st (s_pickF rfl rfl) rfl ?_
        refine Run.nil ?_
        refine pj_then ?_
        refine J_cond0 rfl ?_
        refine J_exit ?_
        refine px_then ?_
        refine px_then ?_
        refine px_block ?_
        refine pj_then ?_
        refine J_seq ?_
        refine J_reg ?_
        refine st (s_move rfl) rfl ?_
        refine st (s_assign rfl) rfl ?_
        refine Run.nil ?_
        refine pj_then ?_
        refine J_ret ?_
        refine PJ_freeze (t := 4) (i := 0) rfl rfl ?_
        refine retc1 Try.results24 (.tmp rfl (by (subst e; exact VT.le_refl _)))
    · refine J_seq ?_
      refine J_seq ?_
      refine J_reg ?_
      refine st (s_move rfl) rfl ?_
      refine st (s_move rfl) rfl ?_
      refine st (s_len rfl) rfl ?_
      refine st (sF (by omega) (s_lt rfl rfl)) rfl ?_
      refine st (s_move rfl) rfl ?_
      refine sg0 rfl rfl rfl rfl ?_
      refine sg0 rfl rfl rfl rfl ?_
      refine st (s_pickF rfl rfl) rfl ?_
      refine st (s_move rfl) rfl ?_
      refine sg0 rfl rfl rfl rfl ?_
      refine sg0 rfl rfl rfl rfl ?_
      refine st (s_pickF rfl rfl) rfl ?_
      refine Run.nil ?_
      refine pj_then ?_
      refine J_cond0 rfl ?_
      refine J_exit ?_
      refine px_then ?_
      refine px_then ?_
      refine px_block ?_
      refine pj_then ?_
      refine J_seq ?_
      refine J_reg ?_
      refine st (s_move rfl) rfl ?_
      refine st (s_assign rfl) rfl ?_
      refine Run.nil ?_
      refine pj_then ?_
      refine J_ret ?_
      refine PJ_freeze (t := 4) (i := 0) rfl rfl ?_
      refine retc1 Try.results24 (.tmp rfl (by (subst e; exact VT.le_refl _)))
end Tor
end

section
set_option linter.unusedVariables false
set_option linter.unusedSimpArgs false
namespace Tor
open Go Go.RowKit Go.Proofs
/-- The own rows of a matrix are opened, where the matrix lies in the first of six pieces. -/
theorem perm6 (x y z u t s : Own) : [x, y, z, u, t, s].Perm ([y, z] ++ [x, u, t, s]) := (List.Perm.swap y x _).trans (List.Perm.cons y (List.Perm.swap z x _))
theorem perm5 (x y z u t : Own) : [x, y, z, u, t].Perm ([y, z] ++ [x, u, t]) := (List.Perm.swap y x _).trans (List.Perm.cons y (List.Perm.swap z x _))
attribute [local irreducible] Tor.J Tor.PJ Tor.StepO Tor.one Tor.slT Tor.ptrT Tor.aggT Tor.tupT Tor.exT Tor.andT Tor.gT Tor.eP Tor.boxO Tor.sliO Tor.slV Tor.VT.le Tor.Ret Tor.anyT
attribute [local irreducible] bigT Tor.rowsO
set_option maxHeartbeats 4000000 in
theorem rPick_ok (r c : Nat) (F : Nat → Nat → Int) (l m : List Int) (hl : l.length ≤ 1048576) (hm : m.length ≤ 1048576) :
    Ok Try.prog 26 [matF r c F, numT .i64 l, numT .i64 m] (resT (!(outs r l || outs c m)) 1 l.length m.length (pickF l m F)) := by
  unfold resT matF
  have hi1 := rInside_ok l r hl
  have hi2 := rInside_ok m c hm
  unfold numT at hi1 hi2 ⊢
  refine Ok.enter Try.func26 rfl Try.ntmps26 rfl (fun w O => ?_)
  cases h1 : outs r l with
  | true =>
    rw [h1] at hi1
    refine J_seq ?_
    refine J_reg ?_
    refine a_boxS rfl rfl (ltN rfl) (fun b3 => ?_)
    refine a_allocS (T := 33) rfl rfl rfl (fun b6 => ?_)
    refine st (s_assign rfl) rfl ?_
    refine Run.nil ?_
    refine pj_then ?_
    refine J_seq ?_
    refine J_seq ?_
    refine J_reg ?_
    refine st (s_move rfl) rfl ?_
    refine st (s_fieldAddr rfl) rfl ?_
    refine st (s_loadB 1 rfl rfl rfl) rfl ?_
    refine st (s_callk (hi1 ) rfl ⟨VT.le_refl _, VT.le_refl _, trivial⟩) rfl ?_
    refine st (s_not rfl) rfl ?_
    refine st (s_move rfl) rfl ?_
    refine sg0 rfl rfl rfl rfl ?_
    refine sg0 rfl rfl rfl rfl ?_
    refine sg0 rfl rfl rfl rfl ?_
    refine sg0 rfl rfl rfl rfl ?_
    refine sg0 rfl rfl rfl rfl ?_
    refine st (s_pickT rfl rfl) rfl ?_
    refine Run.nil ?_
    refine pj_then ?_
    refine J_cond1 rfl ?_
    refine J_seq ?_
    refine J_reg ?_
    refine stB rfl rfl rfl ?_
    refine BuildK.nil ?_
    refine a_storeW 0 rfl rfl rfl rfl ?_
    refine st (s_assign rfl) rfl ?_
    refine Run.nil ?_
    refine pj_then ?_
    refine J_ret ?_
    refine pr_then ?_
    refine retc2 Try.results26 (.cellW 0 rfl rfl (zero_mat _)) (.tmp rfl (VT.le_refl _))
  | false =>
    rw [h1] at hi1
    cases h2 : outs c m with
    | true =>
      rw [h2] at hi2
      refine J_seq ?_
      refine J_reg ?_
      refine a_boxS rfl rfl (ltN rfl) (fun b3 => ?_)
      refine a_allocS (T := 33) rfl rfl rfl (fun b6 => ?_)
      refine st (s_assign rfl) rfl ?_
      refine Run.nil ?_
      refine pj_then ?_
      refine J_seq ?_
      refine J_seq ?_
      refine J_reg ?_
      refine st (s_move rfl) rfl ?_
      refine st (s_fieldAddr rfl) rfl ?_
      refine st (s_loadB 1 rfl rfl rfl) rfl ?_
      refine st (s_callk (hi1 ) rfl ⟨VT.le_refl _, VT.le_refl _, trivial⟩) rfl ?_
      refine st (s_not rfl) rfl ?_
      refine st (s_move rfl) rfl ?_
      refine sg1 rfl rfl (s_move rfl) rfl ?_
      refine sg1 rfl rfl (s_fieldAddr rfl) rfl ?_
      refine sg1 rfl rfl (s_loadB 1 rfl rfl rfl) rfl ?_
      refine sg1 rfl rfl (s_callk (hi2 ) rfl ⟨VT.le_refl _, VT.le_refl _, trivial⟩) rfl ?_
      refine sg1 rfl rfl (s_not rfl) rfl ?_
      refine st (s_pickF rfl rfl) rfl ?_
      refine Run.nil ?_
      refine pj_then ?_
      refine J_cond1 rfl ?_
      refine J_seq ?_
      refine J_reg ?_
      refine stB rfl rfl rfl ?_
      refine BuildK.nil ?_
      refine a_storeW 0 rfl rfl rfl rfl ?_
      refine st (s_assign rfl) rfl ?_
      refine Run.nil ?_
      refine pj_then ?_
      refine J_ret ?_
      refine pr_then ?_
      refine retc2 Try.results26 (.cellW 0 rfl rfl (zero_mat _)) (.tmp rfl (VT.le_refl _))
    | false =>
      rw [h2] at hi2
      refine J_seq ?_
      refine J_reg ?_
      refine a_boxS rfl rfl (ltN rfl) (fun b3 => ?_)
      refine a_allocS (T := 33) rfl rfl rfl (fun b6 => ?_)
      refine st (s_assign rfl) rfl ?_
      refine Run.nil ?_
      refine pj_then ?_
      refine J_seq ?_
      refine J_seq ?_
      refine J_reg ?_
      refine st (s_move rfl) rfl ?_
      refine st (s_fieldAddr rfl) rfl ?_
      refine st (s_loadB 1 rfl rfl rfl) rfl ?_
      refine st (s_callk (hi1 ) rfl ⟨VT.le_refl _, VT.le_refl _, trivial⟩) rfl ?_
      refine st (s_not rfl) rfl ?_
      refine st (s_move rfl) rfl ?_
      refine sg1 rfl rfl (s_move rfl) rfl ?_
      refine sg1 rfl rfl (s_fieldAddr rfl) rfl ?_
      refine sg1 rfl rfl (s_loadB 1 rfl rfl rfl) rfl ?_
      refine sg1 rfl rfl (s_callk (hi2 ) rfl ⟨VT.le_refl _, VT.le_refl _, trivial⟩) rfl ?_
      refine sg1 rfl rfl (s_not rfl) rfl ?_
      refine st (s_pickF rfl rfl) rfl ?_
      refine Run.nil ?_
      refine pj_then ?_
      refine J_cond0 rfl ?_
      refine J_skip ?_
      refine pj_then ?_
      refine J_seq ?_
      refine J_reg ?_
      refine st (s_move rfl) rfl ?_
      refine st (s_len rfl) rfl ?_
      refine st (s_move rfl) rfl ?_
      refine st (s_len rfl) rfl ?_
      refine a_callM (rNew_ok _ _ (by assumption) (by assumption)) rfl ⟨VT.le_refl _, VT.le_refl _, trivial⟩ rfl rfl (fun s28 => ?_)
      refine a_allocS (T := 33) rfl rfl rfl (fun b8 => ?_)
      refine a_storeW 0 rfl rfl rfl rfl ?_
      refine Run.nil ?_
      refine pj_then ?_
      refine J_seq ?_
      refine J_seq ?_
      refine J_reg ?_
      refine st (s_assign rfl) rfl ?_
      refine Run.nil ?_
      refine pj_then ?_
      refine J_block ?_
      obtain ⟨⟨bs, sv1, cap1⟩, hlen, hsv⟩ := s28
      simp only at hlen hsv
      unfold newT
      dsimp only
      refine J_sub (Γ' := [(1, _), (2, _), (3, _), (6, _), (7, _), (8, _), (9, _)]) (SubG.cons rfl (VT.le_refl _) (SubG.cons rfl (VT.le_refl _) (SubG.cons rfl (VT.le_refl _) (SubG.cons rfl (VT.le_refl _) (SubG.cons rfl (VT.le_refl _) (SubG.cons rfl (VT.le_refl _) (SubG.cons rfl (VT.le_refl _) (SubG.nil)))))))) (SubM.refl _) ?_
      refine J_loopA (σ := Nat) (Γk := [(1, _), (2, _), (3, _), (6, _), (7, _), (8, _)]) (SubG.cons rfl (VT.le_refl _) (SubG.cons rfl (VT.le_refl _) (SubG.cons rfl (VT.le_refl _) (SubG.cons rfl (VT.le_refl _) (SubG.cons rfl (VT.le_refl _) (SubG.cons rfl (VT.le_refl _) (SubG.nil))))))) (fun i => [(9, one (.int .i64 (i : Nat)))]) (fun i M0 => (M0.set 2 (ownR m.length bs (fill2 (pickF l m F) i 0)))) (fun i => i ≤ l.length) (fun i => l.length - i) (0) (Nat.zero_le _) (by repeat (first | exact SubG.refl _ | exact SubG.nil | refine SubG.cons rfl (VT.le_refl _) ?_ | (refine SubG.cons rfl (one_le ?_) ?_; (congr 1; first | omega | (simp; omega) | simp)))) (.keep (Own.le_refl _) (.keep (Own.le_refl _) (.keep (ownR_le fun i j hi hj => by simp [fill2]) (.keep (Own.le_refl _) (.keep (Own.le_refl _) (.nil)))))) (fun i hi => ?_)
      refine J_norm (Γ' := [(9, _), (1, _), (2, _), (3, _), (6, _), (7, _), (8, _)]) (M' := [_, _, _, _, _]) rfl rfl ?_
      refine J_seq ?_
      refine J_seq ?_
      refine J_reg ?_
      refine st (s_move rfl) rfl ?_
      refine st (s_move rfl) rfl ?_
      refine st (s_len rfl) rfl ?_
      refine st (s_lt rfl rfl) rfl ?_
      refine Run.nil ?_
      refine pj_then ?_
      refine J_if rfl (fun hc => ?_) (fun hc => ?_)
      · obtain ⟨bo, rfl⟩ := sv_some hsv (by omega)
        have hx := outs_at h1 (show i < l.length by omega)
        refine J_skip ?_
        refine pj_then ?_
        refine J_seq ?_
        refine J_block ?_
        refine J_seq ?_
        refine J_reg ?_
        refine st (s_assign rfl) rfl ?_
        refine Run.nil ?_
        refine pj_then ?_
        refine J_block ?_
        refine J_sub (Γ' := [(1, _), (2, _), (3, _), (6, _), (7, _), (8, _), (9, _), (10, _)]) (SubG.cons rfl (VT.le_refl _) (SubG.cons rfl (VT.le_refl _) (SubG.cons rfl (VT.le_refl _) (SubG.cons rfl (VT.le_refl _) (SubG.cons rfl (VT.le_refl _) (SubG.cons rfl (VT.le_refl _) (SubG.cons rfl (VT.le_refl _) (SubG.cons rfl (VT.le_refl _) (SubG.nil))))))))) (SubM.refl _) ?_
        refine J_loopA (σ := Nat) (Γk := [(1, _), (2, _), (3, _), (6, _), (7, _), (8, _), (9, _)]) (SubG.cons rfl (VT.le_refl _) (SubG.cons rfl (VT.le_refl _) (SubG.cons rfl (VT.le_refl _) (SubG.cons rfl (VT.le_refl _) (SubG.cons rfl (VT.le_refl _) (SubG.cons rfl (VT.le_refl _) (SubG.cons rfl (VT.le_refl _) (SubG.nil)))))))) (fun j => [(10, one (.int .i64 (j : Nat)))]) (fun j M0 => (M0.set 2 (ownR m.length bs (fill2 (pickF l m F) i j)))) (fun j => j ≤ m.length) (fun j => m.length - j) (0) (Nat.zero_le _) (by repeat (first | exact SubG.refl _ | exact SubG.nil | refine SubG.cons rfl (VT.le_refl _) ?_ | (refine SubG.cons rfl (one_le ?_) ?_; (congr 1; first | omega | (simp; omega) | simp)))) (.keep (Own.le_refl _) (.keep (Own.le_refl _) (.keep (Own.le_refl _) (.keep (Own.le_refl _) (.keep (Own.le_refl _) (.nil)))))) (fun j hj => ?_)
        refine J_norm (Γ' := [(10, _), (1, _), (2, _), (3, _), (6, _), (7, _), (8, _), (9, _)]) (M' := [_, _, _, _, _]) rfl rfl ?_
        refine J_seq ?_
        refine J_seq ?_
        refine J_reg ?_
        refine st (s_move rfl) rfl ?_
        refine st (s_move rfl) rfl ?_
        refine st (s_len rfl) rfl ?_
        refine st (s_lt rfl rfl) rfl ?_
        refine Run.nil ?_
        refine pj_then ?_
        refine J_if rfl (fun hc2 => ?_) (fun hc2 => ?_)
        · have hy := outs_at h2 (show j < m.length by omega)
          refine J_skip ?_
          refine pj_then ?_
          refine J_seq ?_
          refine J_block ?_
          refine J_regd 20 mixed (by kernel_rfl) (by decide) ?_
          refine st (s_fieldAddr rfl) rfl ?_
          refine st (s_loadB 0 rfl rfl rfl) rfl ?_
          refine st (s_move rfl) rfl ?_
          (refine st (s_indexON rfl rfl ?_) rfl ?_; omega)
          (refine st (s_loadE 1 rfl rfl ?_) rfl ?_; omega)
          refine st (s_move rfl) rfl ?_
          refine st (s_fieldAddr rfl) rfl ?_
          refine st (s_loadB 4 rfl rfl rfl) rfl ?_
          refine st (s_move rfl) rfl ?_
          refine st (s_move rfl) rfl ?_
          (refine st (s_indexIN rfl rfl ?_) rfl ?_; omega)
          refine st (s_load rfl) rfl ?_
          (refine st (s_indexI rfl rfl ?_ ?_) rfl ?_; omega; omega)
          refine st (s_load rfl) rfl ?_
          refine st (s_move rfl) rfl ?_
          refine st (s_move rfl) rfl ?_
          (refine st (s_indexIN rfl rfl ?_) rfl ?_; omega)
          refine st (s_load rfl) rfl ?_
          (refine st (s_indexI rfl rfl ?_ ?_) rfl ?_; omega; omega)
          refine st (s_load rfl) rfl ?_
          refine Run.nil ?_
          (refine st (s_indexON rfl rfl ?_) rfl ?_; omega)
          (refine a_storeR 2 rfl rfl rfl (getq ?_) ?_ rfl ?_; omega; omega)
          refine Run.nil ?_
          refine pn_block ?_
          refine pj_then ?_
          refine J_reg ?_
          refine st (s_move rfl) rfl ?_
          refine st (s_addN _ 1 rfl rfl (by omega)) rfl ?_
          refine st (s_assign rfl) rfl ?_
          refine Run.nil ?_
          refine pj_roundM (j + 1) (by omega) (by omega) (by repeat (first | exact SubG.refl _ | exact SubG.nil | refine SubG.cons rfl (VT.le_refl _) ?_ | (refine SubG.cons rfl (one_le ?_) ?_; (congr 1; first | omega | (simp; omega) | simp)))) (.keep (Own.le_refl _) (.keep (Own.le_refl _) (.keep (upd_fill2 _ rfl) (.keep (Own.le_refl _) (.keep (Own.le_refl _) (.nil))))))
        · have hjm : j = m.length := by omega
          subst hjm
          refine J_exit ?_
          refine px_then ?_
          refine px_then ?_
          refine px_block ?_
          refine pn_block ?_
          refine pj_then ?_
          refine J_reg ?_
          refine st (s_move rfl) rfl ?_
          refine st (s_addN _ 1 rfl rfl (by omega)) rfl ?_
          refine st (s_assign rfl) rfl ?_
          refine Run.nil ?_
          refine pj_roundM (i + 1) (by omega) (by omega) (by repeat (first | exact SubG.refl _ | exact SubG.nil | refine SubG.cons rfl (VT.le_refl _) ?_ | (refine SubG.cons rfl (one_le ?_) ?_; (congr 1; first | omega | (simp; omega) | simp)))) (.keep (Own.le_refl _) (.keep (Own.le_refl _) (.keep (next_fill2) (.keep (Own.le_refl _) (.keep (Own.le_refl _) (.nil))))))
      · have hin : i = l.length := by omega
        subst hin
        refine J_exit ?_
        refine px_then ?_
        refine px_then ?_
        refine px_block ?_
        refine pj_then ?_
        refine J_seq ?_
        refine J_reg ?_
        refine st (s_loadW 0 rfl rfl) rfl ?_
        refine a_storeW 3 rfl rfl rfl rfl ?_
        refine st (s_assign rfl) rfl ?_
        refine Run.nil ?_
        refine pj_then ?_
        refine J_ret ?_
        refine PJ_open [outO sv1 cap1 l.length m.length bs, ownR m.length bs (fill2 (pickF l m F) l.length 0)] (perm5 _ _ _ _ _) (.keep (EntO.refl _) (.keep (EntO.box (newT_open hlen ⟨by simp, by simp, by simp⟩)) (.keep (EntO.refl _) .nil))) (EntG.refl _) ?_
        refine retc2 Try.results26 (.cellW 1 rfl rfl ((matF_le fun a b ha hb => by simp [fill2, ha]))) (.tmp rfl (VT.le_refl _))
/-- Side by side, filled in: the first row's left part up to j, its right part up to k. -/
def besF (ca : Nat) (F G : Nat → Nat → Int) : Nat → Nat → Int := fun i k => if k < ca then F i k else G i (k - ca)
set_option maxHeartbeats 4000000 in
theorem rBeside_ok (ra ca : Nat) (F : Nat → Nat → Int) (rb cb : Nat) (G : Nat → Nat → Int) (h1 : ra ≤ 1048576) (h2 : ca + cb ≤ 1048576) :
    Ok Try.prog 45 [matF ra ca F, matF rb cb G] (resT (decide (ra = rb)) 50 ra (ca + cb) (besF ca F G)) := by
  unfold resT matF
  refine Ok.enter Try.func45 rfl Try.ntmps45 rfl (fun w O => ?_)
  by_cases hne : ra = rb
  · subst hne
    rw [decide_eq_true rfl]
    refine J_seq ?_
    refine J_reg ?_
    refine a_boxS rfl rfl (ltN rfl) (fun b2 => ?_)
    refine a_boxS rfl rfl (ltN rfl) (fun b3 => ?_)
    refine a_allocS (T := 33) rfl rfl rfl (fun b4 => ?_)
    refine st (s_assign rfl) rfl ?_
    refine Run.nil ?_
    refine pj_then ?_
    refine J_seq ?_
    refine J_seq ?_
    refine J_reg ?_
    refine st (s_fieldAddr rfl) rfl ?_
    refine st (s_loadB 2 rfl rfl rfl) rfl ?_
    refine st (s_fieldAddr rfl) rfl ?_
    refine st (s_loadB 1 rfl rfl rfl) rfl ?_
    refine st (sF (by omega) (s_ne rfl rfl)) rfl ?_
    refine Run.nil ?_
    refine pj_then ?_
    refine J_cond0 rfl ?_
    refine J_skip ?_
    refine pj_then ?_
    refine J_seq ?_
    refine J_reg ?_
    refine st (s_fieldAddr rfl) rfl ?_
    refine st (s_loadB 2 rfl rfl rfl) rfl ?_
    refine st (s_fieldAddr rfl) rfl ?_
    refine st (s_loadB 2 rfl rfl rfl) rfl ?_
    refine st (s_fieldAddr rfl) rfl ?_
    refine st (s_loadB 1 rfl rfl rfl) rfl ?_
    refine st (s_addN _ _ rfl rfl (by omega)) rfl ?_
    refine a_callM (rNew_ok _ _ (by assumption) (h2)) rfl ⟨VT.le_refl _, VT.le_refl _, trivial⟩ rfl rfl (fun s23 => ?_)
    refine a_allocS (T := 33) rfl rfl rfl (fun b6 => ?_)
    refine a_storeW 0 rfl rfl rfl rfl ?_
    refine Run.nil ?_
    refine pj_then ?_
    refine J_seq ?_
    refine J_seq ?_
    refine J_reg ?_
    refine st (s_assign rfl) rfl ?_
    refine Run.nil ?_
    refine pj_then ?_
    refine J_block ?_
    obtain ⟨⟨bs, sv1, cap1⟩, hlen, hsv⟩ := s23
    simp only at hlen hsv
    unfold newT
    dsimp only
    refine J_sub (Γ' := [(2, _), (3, _), (4, _), (5, _), (6, _), (7, _)]) (SubG.cons rfl (VT.le_refl _) (SubG.cons rfl (VT.le_refl _) (SubG.cons rfl (VT.le_refl _) (SubG.cons rfl (VT.le_refl _) (SubG.cons rfl (VT.le_refl _) (SubG.cons rfl (VT.le_refl _) (SubG.nil))))))) (SubM.refl _) ?_
    refine J_loopA (σ := Nat) (Γk := [(2, _), (3, _), (4, _), (5, _), (6, _)]) (SubG.cons rfl (VT.le_refl _) (SubG.cons rfl (VT.le_refl _) (SubG.cons rfl (VT.le_refl _) (SubG.cons rfl (VT.le_refl _) (SubG.cons rfl (VT.le_refl _) (SubG.nil)))))) (fun i => [(7, one (.int .i64 (i : Nat)))]) (fun i M0 => (M0.set 2 (ownR (ca + cb) bs (fill2 (besF ca F G) i 0)))) (fun i => i ≤ ra) (fun i => ra - i) (0) (Nat.zero_le _) (by repeat (first | exact SubG.refl _ | exact SubG.nil | refine SubG.cons rfl (VT.le_refl _) ?_ | (refine SubG.cons rfl (one_le ?_) ?_; (congr 1; first | omega | (simp; omega) | simp)))) (.keep (Own.le_refl _) (.keep (Own.le_refl _) (.keep (ownR_le fun i j hi hj => by simp [fill2]) (.keep (Own.le_refl _) (.keep (Own.le_refl _) (.keep (Own.le_refl _) (.nil))))))) (fun i hi => ?_)
    refine J_norm (Γ' := [(7, _), (2, _), (3, _), (4, _), (5, _), (6, _)]) (M' := [_, _, _, _, _, _]) rfl rfl ?_
    refine J_seq ?_
    refine J_seq ?_
    refine J_reg ?_
    refine st (s_move rfl) rfl ?_
    refine st (s_fieldAddr rfl) rfl ?_
    refine st (s_loadB 5 rfl rfl rfl) rfl ?_
    refine st (s_lt rfl rfl) rfl ?_
    refine Run.nil ?_
    refine pj_then ?_
    refine J_if rfl (fun hc => ?_) (fun hc => ?_)
    · obtain ⟨bo, rfl⟩ := sv_some hsv (by omega)
      refine J_skip ?_
      refine pj_then ?_
      refine J_seq ?_
      refine J_block ?_
      refine J_seq ?_
      refine J_seq ?_
      refine J_reg ?_
      refine st (s_assign rfl) rfl ?_
      refine Run.nil ?_
      refine pj_then ?_
      refine J_block ?_
      refine J_sub (Γ' := [(2, _), (3, _), (4, _), (5, _), (6, _), (7, _), (8, _)]) (SubG.cons rfl (VT.le_refl _) (SubG.cons rfl (VT.le_refl _) (SubG.cons rfl (VT.le_refl _) (SubG.cons rfl (VT.le_refl _) (SubG.cons rfl (VT.le_refl _) (SubG.cons rfl (VT.le_refl _) (SubG.cons rfl (VT.le_refl _) (SubG.nil)))))))) (SubM.refl _) ?_
      refine J_loopA (σ := Nat) (Γk := [(2, _), (3, _), (4, _), (5, _), (6, _), (7, _)]) (SubG.cons rfl (VT.le_refl _) (SubG.cons rfl (VT.le_refl _) (SubG.cons rfl (VT.le_refl _) (SubG.cons rfl (VT.le_refl _) (SubG.cons rfl (VT.le_refl _) (SubG.cons rfl (VT.le_refl _) (SubG.nil))))))) (fun j => [(8, one (.int .i64 (j : Nat)))]) (fun j M0 => (M0.set 2 (ownR (ca + cb) bs (fill2 (besF ca F G) i j)))) (fun j => j ≤ ca) (fun j => ca - j) (0) (Nat.zero_le _) (by repeat (first | exact SubG.refl _ | exact SubG.nil | refine SubG.cons rfl (VT.le_refl _) ?_ | (refine SubG.cons rfl (one_le ?_) ?_; (congr 1; first | omega | (simp; omega) | simp)))) (.keep (Own.le_refl _) (.keep (Own.le_refl _) (.keep (Own.le_refl _) (.keep (Own.le_refl _) (.keep (Own.le_refl _) (.keep (Own.le_refl _) (.nil))))))) (fun j hj => ?_)
      refine J_norm (Γ' := [(8, _), (2, _), (3, _), (4, _), (5, _), (6, _), (7, _)]) (M' := [_, _, _, _, _, _]) rfl rfl ?_
      refine J_seq ?_
      refine J_seq ?_
      refine J_reg ?_
      refine st (s_move rfl) rfl ?_
      refine st (s_fieldAddr rfl) rfl ?_
      refine st (s_loadB 5 rfl rfl rfl) rfl ?_
      refine st (s_lt rfl rfl) rfl ?_
      refine Run.nil ?_
      refine pj_then ?_
      refine J_if rfl (fun hc2 => ?_) (fun hc2 => ?_)
      · refine J_skip ?_
        refine pj_then ?_
        refine J_seq ?_
        refine J_block ?_
        refine J_regd 14 mixed (by kernel_rfl) (by decide) ?_
        refine st (s_fieldAddr rfl) rfl ?_
        refine st (s_loadB 0 rfl rfl rfl) rfl ?_
        refine st (s_move rfl) rfl ?_
        (refine st (s_indexON rfl rfl ?_) rfl ?_; omega)
        (refine st (s_loadE 1 rfl rfl ?_) rfl ?_; omega)
        refine st (s_move rfl) rfl ?_
        refine st (s_fieldAddr rfl) rfl ?_
        refine st (s_loadB 5 rfl rfl rfl) rfl ?_
        refine st (s_move rfl) rfl ?_
        (refine st (s_indexIN rfl rfl ?_) rfl ?_; omega)
        refine st (s_load rfl) rfl ?_
        refine st (s_move rfl) rfl ?_
        (refine st (s_indexIN rfl rfl ?_) rfl ?_; omega)
        refine st (s_load rfl) rfl ?_
        refine Run.nil ?_
        (refine st (s_indexON rfl rfl ?_) rfl ?_; omega)
        (refine a_storeR 2 rfl rfl rfl (getq ?_) ?_ rfl ?_; omega; omega)
        refine Run.nil ?_
        refine pn_block ?_
        refine pj_then ?_
        refine J_reg ?_
        refine st (s_move rfl) rfl ?_
        refine st (s_addN _ 1 rfl rfl (by omega)) rfl ?_
        refine st (s_assign rfl) rfl ?_
        refine Run.nil ?_
        refine pj_roundM (j + 1) (by omega) (by omega) (by repeat (first | exact SubG.refl _ | exact SubG.nil | refine SubG.cons rfl (VT.le_refl _) ?_ | (refine SubG.cons rfl (one_le ?_) ?_; (congr 1; first | omega | (simp; omega) | simp)))) (.keep (Own.le_refl _) (.keep (Own.le_refl _) (.keep (upd_fill2 _ (by unfold besF; rw [if_pos (by omega)])) (.keep (Own.le_refl _) (.keep (Own.le_refl _) (.keep (Own.le_refl _) (.nil)))))))
      · have hjm : j = ca := by omega
        subst hjm
        refine J_exit ?_
        refine px_then ?_
        refine px_then ?_
        refine px_block ?_
        refine pj_then ?_
        refine J_seq ?_
        refine J_reg ?_
        refine st (s_assign rfl) rfl ?_
        refine Run.nil ?_
        refine pj_then ?_
        refine J_block ?_
        refine J_sub (Γ' := [(2, _), (3, _), (4, _), (5, _), (6, _), (7, _), (9, _)]) (SubG.cons rfl (VT.le_refl _) (SubG.cons rfl (VT.le_refl _) (SubG.cons rfl (VT.le_refl _) (SubG.cons rfl (VT.le_refl _) (SubG.cons rfl (VT.le_refl _) (SubG.cons rfl (VT.le_refl _) (SubG.cons rfl (VT.le_refl _) (SubG.nil)))))))) (SubM.refl _) ?_
        refine J_loopA (σ := Nat) (Γk := [(2, _), (3, _), (4, _), (5, _), (6, _), (7, _)]) (SubG.cons rfl (VT.le_refl _) (SubG.cons rfl (VT.le_refl _) (SubG.cons rfl (VT.le_refl _) (SubG.cons rfl (VT.le_refl _) (SubG.cons rfl (VT.le_refl _) (SubG.cons rfl (VT.le_refl _) (SubG.nil))))))) (fun k => [(9, one (.int .i64 (k : Nat)))]) (fun k M0 => (M0.set 2 (ownR (j + cb) bs (fill2 (besF j F G) i (j + k))))) (fun k => k ≤ cb) (fun k => cb - k) (0) (Nat.zero_le _) (by repeat (first | exact SubG.refl _ | exact SubG.nil | refine SubG.cons rfl (VT.le_refl _) ?_ | (refine SubG.cons rfl (one_le ?_) ?_; (congr 1; first | omega | (simp; omega) | simp)))) (.keep (Own.le_refl _) (.keep (Own.le_refl _) (.keep (Own.le_refl _) (.keep (Own.le_refl _) (.keep (Own.le_refl _) (.keep (Own.le_refl _) (.nil))))))) (fun k hk => ?_)
        refine J_norm (Γ' := [(9, _), (2, _), (3, _), (4, _), (5, _), (6, _), (7, _)]) (M' := [_, _, _, _, _, _]) rfl rfl ?_
        refine J_seq ?_
        refine J_seq ?_
        refine J_reg ?_
        refine st (s_move rfl) rfl ?_
        refine st (s_fieldAddr rfl) rfl ?_
        refine st (s_loadB 4 rfl rfl rfl) rfl ?_
        refine st (s_lt rfl rfl) rfl ?_
        refine Run.nil ?_
        refine pj_then ?_
        refine J_if rfl (fun hc3 => ?_) (fun hc3 => ?_)
        · refine J_skip ?_
          refine pj_then ?_
          refine J_seq ?_
          refine J_block ?_
          refine J_regd 17 mixed (by kernel_rfl) (by decide) ?_
          refine st (s_fieldAddr rfl) rfl ?_
          refine st (s_loadB 0 rfl rfl rfl) rfl ?_
          refine st (s_move rfl) rfl ?_
          (refine st (s_indexON rfl rfl ?_) rfl ?_; omega)
          (refine st (s_loadE 1 rfl rfl ?_) rfl ?_; omega)
          refine st (s_fieldAddr rfl) rfl ?_
          refine st (s_loadB 5 rfl rfl rfl) rfl ?_
          refine st (s_move rfl) rfl ?_
          refine st (s_addN _ _ rfl rfl (by omega)) rfl ?_
          refine st (s_fieldAddr rfl) rfl ?_
          refine st (s_loadB 4 rfl rfl rfl) rfl ?_
          refine st (s_move rfl) rfl ?_
          (refine st (s_indexIN rfl rfl ?_) rfl ?_; omega)
          refine st (s_load rfl) rfl ?_
          refine st (s_move rfl) rfl ?_
          (refine st (s_indexIN rfl rfl ?_) rfl ?_; omega)
          refine st (s_load rfl) rfl ?_
          refine Run.nil ?_
          (refine st (s_indexON rfl rfl ?_) rfl ?_; omega)
          (refine a_storeR 2 rfl rfl rfl (getq ?_) ?_ rfl ?_; omega; omega)
          refine Run.nil ?_
          refine pn_block ?_
          refine pj_then ?_
          refine J_reg ?_
          refine st (s_move rfl) rfl ?_
          refine st (s_addN _ 1 rfl rfl (by omega)) rfl ?_
          refine st (s_assign rfl) rfl ?_
          refine Run.nil ?_
          refine pj_roundM (k + 1) (by omega) (by omega) (by repeat (first | exact SubG.refl _ | exact SubG.nil | refine SubG.cons rfl (VT.le_refl _) ?_ | (refine SubG.cons rfl (one_le ?_) ?_; (congr 1; first | omega | (simp; omega) | simp)))) (.keep (Own.le_refl _) (.keep (Own.le_refl _) (.keep (upd_fill2 _ (by unfold besF; rw [if_neg (by omega), Nat.add_sub_cancel_left])) (.keep (Own.le_refl _) (.keep (Own.le_refl _) (.keep (Own.le_refl _) (.nil)))))))
        · have hkm : k = cb := by omega
          subst hkm
          refine J_exit ?_
          refine px_then ?_
          refine px_then ?_
          refine px_block ?_
          refine pn_block ?_
          refine pj_then ?_
          refine J_reg ?_
          refine st (s_move rfl) rfl ?_
          refine st (s_addN _ 1 rfl rfl (by omega)) rfl ?_
          refine st (s_assign rfl) rfl ?_
          refine Run.nil ?_
          refine pj_roundM (i + 1) (by omega) (by omega) (by repeat (first | exact SubG.refl _ | exact SubG.nil | refine SubG.cons rfl (VT.le_refl _) ?_ | (refine SubG.cons rfl (one_le ?_) ?_; (congr 1; first | omega | (simp; omega) | simp)))) (.keep (Own.le_refl _) (.keep (Own.le_refl _) (.keep (next_fill2) (.keep (Own.le_refl _) (.keep (Own.le_refl _) (.keep (Own.le_refl _) (.nil)))))))
    · have hin : i = ra := by omega
      subst hin
      refine J_exit ?_
      refine px_then ?_
      refine px_then ?_
      refine px_block ?_
      refine pj_then ?_
      refine J_seq ?_
      refine J_reg ?_
      refine st (s_loadW 0 rfl rfl) rfl ?_
      refine a_storeW 3 rfl rfl rfl rfl ?_
      refine st (s_assign rfl) rfl ?_
      refine Run.nil ?_
      refine pj_then ?_
      refine J_ret ?_
      refine PJ_open [outO sv1 cap1 i (ca + cb) bs, ownR (ca + cb) bs (fill2 (besF ca F G) i 0)] (perm6 _ _ _ _ _ _) (.keep (EntO.refl _) (.keep (EntO.box (newT_open hlen ⟨by simp, by simp, by simp⟩)) (.keep (EntO.refl _) (.keep (EntO.refl _) .nil)))) (EntG.refl _) ?_
      refine retc2 Try.results45 (.cellW 1 rfl rfl ((matF_le fun a b ha hb => by simp [fill2, ha]))) (.tmp rfl (VT.le_refl _))
  · rw [decide_eq_false hne]
    refine J_seq ?_
    refine J_reg ?_
    refine a_boxS rfl rfl (ltN rfl) (fun b2 => ?_)
    refine a_boxS rfl rfl (ltN rfl) (fun b3 => ?_)
    refine a_allocS (T := 33) rfl rfl rfl (fun b4 => ?_)
    refine st (s_assign rfl) rfl ?_
    refine Run.nil ?_
    refine pj_then ?_
    refine J_seq ?_
    refine J_seq ?_
    refine J_reg ?_
    refine st (s_fieldAddr rfl) rfl ?_
    refine st (s_loadB 2 rfl rfl rfl) rfl ?_
    refine st (s_fieldAddr rfl) rfl ?_
    refine st (s_loadB 1 rfl rfl rfl) rfl ?_
    refine st (sT (by omega) (s_ne rfl rfl)) rfl ?_
    refine Run.nil ?_
    refine pj_then ?_
    refine J_cond1 rfl ?_
    refine J_seq ?_
    refine J_reg ?_
    refine stB rfl rfl rfl ?_
    refine BuildK.nil ?_
    refine a_storeW 0 rfl rfl rfl rfl ?_
    refine st (s_assign rfl) rfl ?_
    refine Run.nil ?_
    refine pj_then ?_
    refine J_ret ?_
    refine pr_then ?_
    refine retc2 Try.results45 (.cellW 0 rfl rfl (zero_mat _)) (.tmp rfl (VT.le_refl _))
end Tor
end

section
set_option linter.unusedVariables false
set_option linter.unusedSimpArgs false
namespace Tor
open Go Go.RowKit Go.Proofs
instance {n : Nat} {f : Nat → Int} : Flat (rowF n f) .one := by unfold rowF; infer_instance
theorem scale_perm (x y z u t s : Own) : [x, y, z, u, t, s].Perm [y, z, x, u, t, s] := (List.Perm.swap y x _).trans (List.Perm.cons y (List.Perm.swap z x _))
attribute [local irreducible] Tor.J Tor.PJ Tor.StepO Tor.one Tor.slT Tor.ptrT Tor.aggT Tor.tupT Tor.exT Tor.andT Tor.gT Tor.eP Tor.boxO Tor.sliO Tor.slV Tor.VT.le Tor.Ret Tor.anyT
attribute [local irreducible] bigT Tor.rowsO
set_option maxHeartbeats 4000000 in
theorem rScaleM_ok (r c : Nat) (F : Nat → Nat → Int) (k : Int) (hr0 : r ≤ 1048576) (hc0 : c ≤ 1048576) (hF : ∀ i j, small (F i j)) (hk : small k) : OkM Try.prog 49 [matF r c F, bigT k] (newT r c) (fun s => [outO s.1.2.1 s.1.2.2 r c s.1.1, ownR c s.1.1 (fun i j => F i j * k)]) := by
  unfold matF
  refine OkM.enter Try.func49 rfl Try.ntmps49 rfl (fun w O => ?_)
  refine J_seq ?_
  refine J_reg ?_
  refine a_boxS rfl rfl (ltN rfl) (fun b2 => ?_)
  refine a_box rfl rfl (ltN rfl) (fun b3 => ?_)
  refine a_allocS (T := 33) rfl rfl rfl (fun b4 => ?_)
  refine Run.nil ?_
  refine pj_then ?_
  refine J_seq ?_
  refine J_reg ?_
  refine st (s_fieldAddr rfl) rfl ?_
  refine st (s_loadB 2 rfl rfl rfl) rfl ?_
  refine st (s_fieldAddr rfl) rfl ?_
  refine st (s_loadB 2 rfl rfl rfl) rfl ?_
  refine a_callM (rNew_ok _ _ (by assumption) (by assumption)) rfl ⟨VT.le_refl _, VT.le_refl _, trivial⟩ rfl rfl (fun s12 => ?_)
  refine a_allocS (T := 33) rfl rfl rfl (fun b5 => ?_)
  refine a_storeW 0 rfl rfl rfl rfl ?_
  refine Run.nil ?_
  refine pj_then ?_
  refine J_seq ?_
  refine J_seq ?_
  refine J_reg ?_
  refine st (s_assign rfl) rfl ?_
  refine Run.nil ?_
  refine pj_then ?_
  refine J_block ?_
  obtain ⟨⟨bs, sv1, cap1⟩, hlen, hsv⟩ := s12
  simp only at hlen hsv
  unfold newT
  dsimp only
  refine J_sub (Γ' := [(2, _), (3, _), (4, _), (5, _), (6, _)]) (SubG.cons rfl (VT.le_refl _) (SubG.cons rfl (VT.le_refl _) (SubG.cons rfl (VT.le_refl _) (SubG.cons rfl (VT.le_refl _) (SubG.cons rfl (VT.le_refl _) (SubG.nil)))))) (SubM.refl _) ?_
  refine J_loopA (σ := Nat) (Γk := [(2, _), (3, _), (4, _), (5, _)]) (SubG.cons rfl (VT.le_refl _) (SubG.cons rfl (VT.le_refl _) (SubG.cons rfl (VT.le_refl _) (SubG.cons rfl (VT.le_refl _) (SubG.nil))))) (fun i => [(6, one (.int .i64 (i : Nat)))]) (fun i M0 => (M0.set 2 (ownR c bs (fill2 (fun i j => F i j * k) i 0)))) (fun i => i ≤ r) (fun i => r - i) (0) (Nat.zero_le _) (by repeat (first | exact SubG.refl _ | exact SubG.nil | refine SubG.cons rfl (VT.le_refl _) ?_ | (refine SubG.cons rfl (one_le ?_) ?_; (congr 1; first | omega | (simp; omega) | simp)))) (.keep (Own.le_refl _) (.keep (Own.le_refl _) (.keep (ownR_le fun i j hi hj => by simp [fill2]) (.keep (Own.le_refl _) (.keep (Own.le_refl _) (.keep (Own.le_refl _) (.nil))))))) (fun i hi => ?_)
  refine J_norm (Γ' := [(6, _), (2, _), (3, _), (4, _), (5, _)]) (M' := [_, _, _, _, _, _]) rfl rfl ?_
  refine J_seq ?_
  refine J_seq ?_
  refine J_reg ?_
  refine st (s_move rfl) rfl ?_
  refine st (s_fieldAddr rfl) rfl ?_
  refine st (s_loadB 5 rfl rfl rfl) rfl ?_
  refine st (s_lt rfl rfl) rfl ?_
  refine Run.nil ?_
  refine pj_then ?_
  refine J_if rfl (fun hc => ?_) (fun hc => ?_)
  · obtain ⟨bo, rfl⟩ := sv_some hsv (by omega)
    refine J_skip ?_
    refine pj_then ?_
    refine J_seq ?_
    refine J_block ?_
    refine J_seq ?_
    refine J_reg ?_
    refine st (s_assign rfl) rfl ?_
    refine Run.nil ?_
    refine pj_then ?_
    refine J_block ?_
    refine J_sub (Γ' := [(2, _), (3, _), (4, _), (5, _), (6, _), (7, _)]) (SubG.cons rfl (VT.le_refl _) (SubG.cons rfl (VT.le_refl _) (SubG.cons rfl (VT.le_refl _) (SubG.cons rfl (VT.le_refl _) (SubG.cons rfl (VT.le_refl _) (SubG.cons rfl (VT.le_refl _) (SubG.nil))))))) (SubM.refl _) ?_
    refine J_loopA (σ := Nat) (Γk := [(2, _), (3, _), (4, _), (5, _), (6, _)]) (SubG.cons rfl (VT.le_refl _) (SubG.cons rfl (VT.le_refl _) (SubG.cons rfl (VT.le_refl _) (SubG.cons rfl (VT.le_refl _) (SubG.cons rfl (VT.le_refl _) (SubG.nil)))))) (fun j => [(7, one (.int .i64 (j : Nat)))]) (fun j M0 => (M0.set 2 (ownR c bs (fill2 (fun i j => F i j * k) i j)))) (fun j => j ≤ c) (fun j => c - j) (0) (Nat.zero_le _) (by repeat (first | exact SubG.refl _ | exact SubG.nil | refine SubG.cons rfl (VT.le_refl _) ?_ | (refine SubG.cons rfl (one_le ?_) ?_; (congr 1; first | omega | (simp; omega) | simp)))) (.keep (Own.le_refl _) (.keep (Own.le_refl _) (.keep (Own.le_refl _) (.keep (Own.le_refl _) (.keep (Own.le_refl _) (.keep (Own.le_refl _) (.nil))))))) (fun j hj => ?_)
    refine J_norm (Γ' := [(7, _), (2, _), (3, _), (4, _), (5, _), (6, _)]) (M' := [_, _, _, _, _, _]) rfl rfl ?_
    refine J_seq ?_
    refine J_seq ?_
    refine J_reg ?_
    refine st (s_move rfl) rfl ?_
    refine st (s_fieldAddr rfl) rfl ?_
    refine st (s_loadB 5 rfl rfl rfl) rfl ?_
    refine st (s_lt rfl rfl) rfl ?_
    refine Run.nil ?_
    refine pj_then ?_
    refine J_if rfl (fun hc2 => ?_) (fun hc2 => ?_)
    · refine J_skip ?_
      refine pj_then ?_
      refine J_seq ?_
      refine J_block ?_
      refine J_regd 16 mixed (by kernel_rfl) (by decide) ?_
      refine st (s_fieldAddr rfl) rfl ?_
      refine st (s_loadB 0 rfl rfl rfl) rfl ?_
      refine st (s_move rfl) rfl ?_
      (refine st (s_indexON rfl rfl ?_) rfl ?_; omega)
      (refine st (s_loadE 1 rfl rfl ?_) rfl ?_; omega)
      refine st (s_move rfl) rfl ?_
      refine st (s_fieldAddr rfl) rfl ?_
      refine st (s_loadB 5 rfl rfl rfl) rfl ?_
      refine st (s_move rfl) rfl ?_
      (refine st (s_indexIN rfl rfl ?_) rfl ?_; omega)
      refine st (s_load rfl) rfl ?_
      refine st (s_move rfl) rfl ?_
      (refine st (s_indexIN rfl rfl ?_) rfl ?_; omega)
      refine st (s_load rfl) rfl ?_
      refine st (s_loadB 4 rfl rfl rfl) rfl ?_
      refine st (s_callk (rMulI_ok _ _ (hF _ _) (by assumption)) rfl ⟨VT.le_refl _, VT.le_refl _, trivial⟩) rfl ?_
      refine Run.nil ?_
      (refine st (s_indexON rfl rfl ?_) rfl ?_; omega)
      (refine a_storeR 2 rfl rfl rfl (getq ?_) ?_ rfl ?_; omega; omega)
      refine Run.nil ?_
      refine pn_block ?_
      refine pj_then ?_
      refine J_reg ?_
      refine st (s_move rfl) rfl ?_
      refine st (s_addN _ 1 rfl rfl (by omega)) rfl ?_
      refine st (s_assign rfl) rfl ?_
      refine Run.nil ?_
      refine pj_roundM (j + 1) (by omega) (by omega) (by repeat (first | exact SubG.refl _ | exact SubG.nil | refine SubG.cons rfl (VT.le_refl _) ?_ | (refine SubG.cons rfl (one_le ?_) ?_; (congr 1; first | omega | (simp; omega) | simp)))) (.keep (Own.le_refl _) (.keep (Own.le_refl _) (.keep (upd_fill2 _ rfl) (.keep (Own.le_refl _) (.keep (Own.le_refl _) (.keep (Own.le_refl _) (.nil)))))))
    · have hjm : j = c := by omega
      subst hjm
      refine J_exit ?_
      refine px_then ?_
      refine px_then ?_
      refine px_block ?_
      refine pn_block ?_
      refine pj_then ?_
      refine J_reg ?_
      refine st (s_move rfl) rfl ?_
      refine st (s_addN _ 1 rfl rfl (by omega)) rfl ?_
      refine st (s_assign rfl) rfl ?_
      refine Run.nil ?_
      refine pj_roundM (i + 1) (by omega) (by omega) (by repeat (first | exact SubG.refl _ | exact SubG.nil | refine SubG.cons rfl (VT.le_refl _) ?_ | (refine SubG.cons rfl (one_le ?_) ?_; (congr 1; first | omega | (simp; omega) | simp)))) (.keep (Own.le_refl _) (.keep (Own.le_refl _) (.keep (next_fill2) (.keep (Own.le_refl _) (.keep (Own.le_refl _) (.keep (Own.le_refl _) (.nil)))))))
  · have hin : i = r := by omega
    subst hin
    refine J_exit ?_
    refine px_then ?_
    refine px_then ?_
    refine px_block ?_
    refine pj_then ?_
    refine J_seq ?_
    refine J_reg ?_
    refine st (s_loadW 0 rfl rfl) rfl ?_
    refine a_storeW 3 rfl rfl rfl rfl ?_
    refine Run.nil ?_
    refine pj_then ?_
    refine J_ret ?_
    exact retM1 ⟨(bs, sv1, cap1), hlen, hsv⟩ Try.results49 (.cellW 3 rfl rfl (VT.le_refl _)) (.drop (.keep (Own.le_refl _) (.keep (ownR_le fun a b ha hb => by simp [fill2]; omega) (SubM.nilR _))))
set_option maxHeartbeats 4000000 in
theorem rCopiedM_ok (r c : Nat) (F : Nat → Nat → Int) (hr0 : r ≤ 1048576) (hc0 : c ≤ 1048576) (hF : ∀ i j, small (F i j)) : OkM Try.prog 51 [matF r c F] (newT r c) (fun s => [outO s.1.2.1 s.1.2.2 r c s.1.1, ownR c s.1.1 (fun i j => F i j * 1)]) := by
  have hs := rScaleM_ok r c F 1 hr0 hc0 hF small_one
  unfold matF at hs ⊢
  refine OkM.enter Try.func51 rfl Try.ntmps51 rfl (fun w O => ?_)
  refine J_seq ?_
  refine J_reg ?_
  refine a_boxS rfl rfl (ltN rfl) (fun b1 => ?_)
  refine a_allocS (T := 33) rfl rfl rfl (fun b2 => ?_)
  refine Run.nil ?_
  refine pj_then ?_
  refine J_seq ?_
  refine J_regd 2 mixed (by kernel_rfl) (by decide) ?_
  refine st (s_loadW 1 rfl rfl) rfl ?_
  refine st (s_callk (rOf_ok _ (by omega) (by omega)) rfl ⟨VT.le_refl _, trivial⟩) rfl ?_
  refine Run.nil ?_
  refine a_callM (hs ) rfl ⟨VT.le_refl _, VT.le_refl _, trivial⟩ rfl rfl (fun s5 => ?_)
  refine a_storeW 2 rfl rfl rfl rfl ?_
  refine Run.nil ?_
  refine pj_then ?_
  refine J_ret ?_
  exact retM1 s5 Try.results51 (.cellW 2 rfl rfl (VT.le_refl _)) (.keep (Own.le_refl _) (.keep (Own.le_refl _) (SubM.nilR _)))
/-- Stacked matrices: the first lies in own rows. -/
theorem stack_ent {ra n c cap : Nat} {sv : Option Nat} {bs : List Nat} {F G : Nat → Nat → Int} {ψ : Nat → VT} (hb : bs.length = ra) (hψ : ∀ q, ψ q = rowF c (G q)) :
    Ent [sliO sv 35 .one cap n (fun q => if q < ra then one (slV (some (bs.getD q 0)) c c) else ψ (q - ra)), ownR c bs F] (one (slV sv n cap)) (slT .one n (fun q => rowF c (stackF ra F G q))) := by
  refine Ent.slE (List.mem_cons_self) fun q hq => ?_
  by_cases h : q < ra
  · rw [if_pos h]
    unfold rowF stackF
    simp only [if_pos h]
    exact Ent.row (φ := fun q k => bigT (F q k)) (List.mem_cons_of_mem _ List.mem_cons_self) (getq (by omega))
  · rw [if_neg h, hψ]
    unfold rowF stackF
    simp only [if_neg h]
    exact Ent.refl _
set_option maxHeartbeats 4000000 in
theorem rStack_ok (ra ca : Nat) (F : Nat → Nat → Int) (rb cb : Nat) (G : Nat → Nat → Int) (h1 : ra ≤ 1048576) (h2 : ca ≤ 1048576) (h3 : rb ≤ 1048576) (hF : ∀ i j, small (F i j)) (hG : ∀ i j, small (G i j)) :
    Ok Try.prog 44 [matF ra ca F, matF rb cb G] (resT (decide (ca = cb)) 50 (ra + rb) ca (stackF ra F G)) := by
  have hc1 := rCopiedM_ok ra ca F h1 h2 hF
  unfold resT matF at *
  refine Ok.enter Try.func44 rfl Try.ntmps44 rfl (fun w O => ?_)
  by_cases hne : ca = cb
  · subst hne
    rw [decide_eq_true rfl]
    refine J_seq ?_
    refine J_reg ?_
    refine a_boxS rfl rfl (ltN rfl) (fun b2 => ?_)
    refine a_boxS rfl rfl (ltN rfl) (fun b3 => ?_)
    refine a_allocS (T := 33) rfl rfl rfl (fun b4 => ?_)
    refine st (s_assign rfl) rfl ?_
    refine Run.nil ?_
    refine pj_then ?_
    refine J_seq ?_
    refine J_seq ?_
    refine J_reg ?_
    refine st (s_fieldAddr rfl) rfl ?_
    refine st (s_loadB 2 rfl rfl rfl) rfl ?_
    refine st (s_fieldAddr rfl) rfl ?_
    refine st (s_loadB 1 rfl rfl rfl) rfl ?_
    refine st (sF (by omega) (s_ne rfl rfl)) rfl ?_
    refine Run.nil ?_
    refine pj_then ?_
    refine J_cond0 rfl ?_
    refine J_skip ?_
    refine pj_then ?_
    refine J_seq ?_
    refine J_reg ?_
    refine st (s_loadW 2 rfl rfl) rfl ?_
    refine a_callM (hc1 ) rfl ⟨VT.le_refl _, trivial⟩ rfl rfl (fun s14 => ?_)
    refine a_allocS (T := 33) rfl rfl rfl (fun b6 => ?_)
    refine a_storeW 0 rfl rfl rfl rfl ?_
    refine Run.nil ?_
    refine pj_then ?_
    refine J_seq ?_
    refine J_reg ?_
    refine st (s_fieldAddr rfl) rfl ?_
    refine st (s_loadB 5 rfl rfl rfl) rfl ?_
    refine st (s_fieldAddr rfl) rfl ?_
    refine st (s_loadB 4 rfl rfl rfl) rfl ?_
    refine st (s_addN _ _ rfl rfl (by omega)) rfl ?_
    refine st (s_fieldAddr rfl) rfl ?_
    refine a_storeB 0 rfl rfl rfl rfl rfl (leN rfl) rfl ?_
    refine Run.nil ?_
    refine pj_then ?_
    refine J_seq ?_
    refine J_regdT 5 mixed (by kernel_rfl) (by decide) ?_
    refine st (s_fieldAddr rfl) rfl ?_
    refine st (s_loadB 0 rfl rfl rfl) rfl ?_
    refine st (s_loadW 4 rfl rfl) rfl ?_
    refine st (s_callk (rCopied_ok _ _ _ (by assumption) (by assumption) (by assumption)) rfl ⟨VT.le_refl _, trivial⟩) rfl ?_
    refine st (s_field rfl rfl) rfl ?_
    refine Run.nil ?_
    (refine a_append 1 rfl rfl rfl (leN rfl) ?_ ?_ rfl (ltN rfl) (fun sv26 cap26 => ?_); omega; omega)
    refine st (s_fieldAddr rfl) rfl ?_
    refine a_storeB 0 rfl rfl rfl rfl rfl (leN rfl) rfl ?_
    refine Run.nil ?_
    refine pj_then ?_
    refine J_seq ?_
    refine J_reg ?_
    refine st (s_loadW 0 rfl rfl) rfl ?_
    refine a_storeW 3 rfl rfl rfl rfl ?_
    refine st (s_assign rfl) rfl ?_
    refine Run.nil ?_
    refine pj_then ?_
    refine J_ret ?_
    obtain ⟨⟨bs, sv1, cap1⟩, hlen, hsv⟩ := s14
    refine PJ_open [sliO sv26 35 .one cap26 (ra + rb) (fun q => if q < ra then one (slV (some (bs.getD q 0)) ca ca) else rowF ca (G (q - ra))), ownR ca bs (fun i j => F i j * 1)] (perm6 _ _ _ _ _ _) (.keep (EntO.refl _) (.keep (EntO.box (EntC.cons (k := 0) (L := .one) (φ := one (.int .i64 ((ra + rb : Nat) : Int))) (lookC_mem rfl) (Ent.refl _) (EntC.cons (k := 1) (L := .one) (φ := one (.int .i64 ca)) (lookC_mem rfl) (Ent.refl _) (EntC.cons (k := 2) (L := .one) (φ := one (slV sv26 (ra + rb) cap26)) (lookC_mem rfl) (stack_ent hlen (fun q => rfl)) EntC.nil)))) (.keep (EntO.refl _) (.keep (EntO.refl _) .nil)))) (EntG.refl _) ?_
    refine retc2 Try.results44 (.cellW 1 rfl rfl ((matF_le fun a b ha hb => by simp [stackF]))) (.tmp rfl (VT.le_refl _))
  · rw [decide_eq_false hne]
    refine J_seq ?_
    refine J_reg ?_
    refine a_boxS rfl rfl (ltN rfl) (fun b2 => ?_)
    refine a_boxS rfl rfl (ltN rfl) (fun b3 => ?_)
    refine a_allocS (T := 33) rfl rfl rfl (fun b4 => ?_)
    refine st (s_assign rfl) rfl ?_
    refine Run.nil ?_
    refine pj_then ?_
    refine J_seq ?_
    refine J_seq ?_
    refine J_reg ?_
    refine st (s_fieldAddr rfl) rfl ?_
    refine st (s_loadB 2 rfl rfl rfl) rfl ?_
    refine st (s_fieldAddr rfl) rfl ?_
    refine st (s_loadB 1 rfl rfl rfl) rfl ?_
    refine st (sT (by omega) (s_ne rfl rfl)) rfl ?_
    refine Run.nil ?_
    refine pj_then ?_
    refine J_cond1 rfl ?_
    refine J_seq ?_
    refine J_reg ?_
    refine stB rfl rfl rfl ?_
    refine BuildK.nil ?_
    refine a_storeW 0 rfl rfl rfl rfl ?_
    refine st (s_assign rfl) rfl ?_
    refine Run.nil ?_
    refine pj_then ?_
    refine J_ret ?_
    refine pr_then ?_
    refine retc2 Try.results44 (.cellW 0 rfl rfl (zero_mat _)) (.tmp rfl (VT.le_refl _))
end Tor
end
