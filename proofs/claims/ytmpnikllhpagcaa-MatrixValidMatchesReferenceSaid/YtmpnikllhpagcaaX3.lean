/-
  package matrix: own, ownRow; the integers' operations in short form.
-/
import Derived.Test.YtmpnikllhpagcaaX2
set_option linter.unusedVariables false
set_option linter.unusedSimpArgs false
namespace Tor
open Go Go.RowKit Go.Proofs
theorem small_lt {x : Int} (h : x.natAbs < 2 ^ 2048) : small x := by
  have : (digs x.natAbs).length ≤ 64 := digs_len_le (Nat.lt_of_lt_of_le h (by decide +kernel))
  unfold small; omega
theorem AddI_ok (x y : Int) (hx : small x) (hy : small y) : Ok Try.prog 70 [bigT x, bigT y] (bigT (x + y)) := by
  have h := Add_ok (decide (x < 0)) (decide (y < 0)) x.natAbs y.natAbs hx hy
  rw [sv_big, sv_big] at h
  exact h.le ⟨bigT_sg _, bigT_sg _, trivial⟩ (VT.le_refl _)
theorem SubI_ok (x y : Int) (hx : small x) (hy : small y) : Ok Try.prog 76 [bigT x, bigT y] (bigT (x - y)) := by
  have h := Sub_ok (decide (x < 0)) (decide (y < 0)) x.natAbs y.natAbs hx hy
  rw [sv_big, sv_big] at h
  exact h.le ⟨bigT_sg _, bigT_sg _, trivial⟩ (VT.le_refl _)
theorem MulI_ok (x y : Int) (hx : small x) (hy : small y) : Ok Try.prog 69 [bigT x, bigT y] (bigT (x * y)) := by
  have h := Mul_ok (decide (x < 0)) (decide (y < 0)) x.natAbs y.natAbs hx hy
  rw [sv_big, sv_big] at h
  exact h.le ⟨bigT_sg _, bigT_sg _, trivial⟩ (VT.le_refl _)
theorem SignI_ok (x : Int) : Ok Try.prog 72 [bigT x] (one (.int .i64 (sgnI x))) := by
  have h := Sign_ok (decide (x < 0)) x.natAbs
  rw [sv_big] at h
  exact h.le ⟨bigT_sg _, trivial⟩ (VT.le_refl _)
theorem CmpI_ok (x y : Int) : Ok Try.prog 83 [bigT x, bigT y] (one (.int .i64 (cmpI x y))) := by
  have h := Cmp_ok (decide (x < 0)) (decide (y < 0)) x.natAbs y.natAbs
  rw [sv_big, sv_big] at h
  exact h.le ⟨bigT_sg _, bigT_sg _, trivial⟩ (VT.le_refl _)
theorem rAddI_ok (x y : Int) (hx : small x) (hy : small y) : Ok Try.prog 61 [bigT x, bigT y] (bigT (x + y)) := by
  have h := rAdd_ok (decide (x < 0)) (decide (y < 0)) x.natAbs y.natAbs hx hy
  rw [sv_big, sv_big] at h
  exact h.le ⟨bigT_sg _, bigT_sg _, trivial⟩ (VT.le_refl _)
theorem rMulI_ok (x y : Int) (hx : small x) (hy : small y) : Ok Try.prog 77 [bigT x, bigT y] (bigT (x * y)) := by
  have h := rMul_ok (decide (x < 0)) (decide (y < 0)) x.natAbs y.natAbs hx hy
  rw [sv_big, sv_big] at h
  exact h.le ⟨bigT_sg _, bigT_sg _, trivial⟩ (VT.le_refl _)
attribute [local irreducible] Tor.J Tor.PJ Tor.StepO Tor.one Tor.slT Tor.ptrT Tor.aggT Tor.tupT Tor.exT Tor.andT Tor.gT Tor.eP Tor.boxO Tor.sliO Tor.slV Tor.VT.le Tor.Ret Tor.anyT
set_option maxHeartbeats 1000000 in
theorem own_ok (x : Int) (hx : small x) : Ok Try.prog 65 [bigT x] (bigT x) := by
  unfold bigT
  refine Ok.enter Try.func65 rfl Try.ntmps65 rfl (fun w O => ?_)
  refine J_seq ?_
  refine J_reg ?_
  refine a_boxS rfl rfl (ltN rfl) (fun b => ?_)
  refine a_alloc (T := 29) rfl (ltN rfl) (fun b => ?_)
  refine Run.nil ?_
  refine pj_then ?_
  refine J_seq ?_
  refine J_regd 6 mixed (by kernel_rfl) (by decide) ?_
  refine st (s_fieldAddr rfl) rfl ?_
  refine st (s_loadB 1 rfl rfl rfl) rfl ?_
  refine st (s_fieldAddr rfl) rfl ?_
  refine st (s_loadB 1 rfl rfl rfl) rfl ?_
  refine st (s_callk (Clone_ok _ hx) rfl ⟨VT.le_refl _, trivial⟩) rfl ?_
  refine stB rfl rfl rfl ?_
  refine BuildK.cons rfl rfl rfl ?_
  refine BuildK.cons rfl rfl rfl ?_
  refine BuildK.nil ?_
  refine Run.nil ?_
  refine a_storeB 0 rfl rfl rfl rfl rfl (leN rfl) rfl ?_
  refine Run.nil ?_
  refine pj_then ?_
  refine J_ret ?_
  refine retc1 Try.results65 (.cellB 0 rfl rfl rfl (VT.le_refl _))
attribute [local irreducible] bigT
set_option maxHeartbeats 2000000 in
theorem ownRow_ok (n m : Nat) (f g : Nat → Int) (hn : n ≤ 1048576) (hm : m ≤ 1048576) (hf : ∀ i, small (f i)) (hg : ∀ i, small (g i)) : Ok Try.prog 57 [rowF n f, rowF m g] (rowF (n + m) (fun k => if k < n then f k else g (k - n))) := by
  unfold rowF
  refine Ok.enter Try.func57 rfl Try.ntmps57 rfl (fun w O => ?_)
  refine J_seq ?_
  refine J_reg ?_
  refine st (s_assign rfl) rfl ?_
  refine Run.nil ?_
  refine pj_then ?_
  refine J_seq ?_
  refine J_reg ?_
  refine st (s_move rfl) rfl ?_
  refine st (s_len rfl) rfl ?_
  refine st (s_move rfl) rfl ?_
  refine st (s_len rfl) rfl ?_
  (refine st (s_add rfl rfl (wrap_i64 ?_ ?_)) rfl ?_; omega; omega)
  refine a_makeSlice 0 (n + m) rfl rfl rfl (by simp) (Nat.zero_le _) rfl rfl (by omega) rfl rfl (fun bz => ?_)
  refine st (s_assign rfl) rfl ?_
  refine Run.nil ?_
  refine pj_then ?_
  refine J_seq ?_
  refine J_seq ?_
  refine J_reg ?_
  refine st (s_move rfl) rfl ?_
  refine st (s_len rfl) rfl ?_
  refine st (s_move rfl) rfl ?_
  refine Run.nil ?_
  refine pj_then ?_
  refine J_block ?_
  refine J_loop (σ := Nat × Option Nat × Nat) (fun s => [(1, slT (.agg 2) m (fun j => bigT (g j))), (5, one (slV s.2.1 s.1 s.2.2)), (16, slT (.agg 2) n (fun j => bigT (f j))), (17, one (.int .i64 n)), (18, one (.int .i64 (s.1 : Nat)))])
    (fun s => [sliO s.2.1 29 (.agg 2) s.2.2 s.1 (fun q => bigT (f q))]) (fun s => s.1 ≤ n) (fun s => n - s.1) (0, some bz, n + m) (Nat.zero_le _) (by repeat (first | exact SubG.nil | refine SubG.cons rfl (VT.le_refl _) ?_ | (refine SubG.cons rfl (one_le ?_) ?_; (congr 1; first | omega | (simp; omega) | simp)))) (.keep (sliO_eq fun q hq => by omega) .nil) (fun s hs => ?_)
  obtain ⟨k, sv0, cap0⟩ := s
  simp only at hs ⊢
  refine J_seq ?_
  refine J_reg ?_
  refine st (s_lt rfl rfl) rfl ?_
  refine Run.nil ?_
  refine pj_then ?_
  refine J_seq ?_
  refine J_cond rfl (fun hc => ?_) (fun hc => ?_) <;> simp only [decide_eq_true_eq, decide_eq_false_iff_not, ne_eq, Decidable.not_not] at hc
  · refine J_skip ?_
    refine pj_then ?_
    refine J_seq ?_
    refine J_block ?_
    refine J_seq ?_
    refine J_reg ?_
    (refine st (s_indexIN rfl rfl ?_) rfl ?_; omega)
    refine st (s_load rfl) rfl ?_
    refine a_alloc (T := 29) rfl (ltN rfl) (fun b => ?_)
    refine a_storeB 0 rfl rfl rfl rfl rfl (leN rfl) rfl ?_
    refine Run.nil ?_
    refine pj_then ?_
    refine J_reg ?_
    refine st (s_move rfl) rfl ?_
    refine st (s_loadB 0 rfl rfl rfl) rfl ?_
    refine st (s_callk (own_ok (f k) (hf k)) rfl ⟨VT.le_refl _, trivial⟩) rfl ?_
    refine stS1 rfl rfl rfl rfl ?_
    (refine a_append 1 rfl rfl rfl (leN rfl) ?_ ?_ rfl (ltN rfl) (fun sv cap => ?_); omega; omega)
    refine st (s_assign rfl) rfl ?_
    refine Run.nil ?_
    refine pn_block ?_
    refine pj_then ?_
    refine J_reg ?_
    (refine st (s_add rfl rfl (wrap_i64 ?_ ?_)) rfl ?_; omega; omega)
    refine st (s_move rfl) rfl ?_
    refine Run.nil ?_
    refine pj_round (s := (k, sv0, cap0)) (k + 1, sv, cap) (show _ from by simp only; omega) (by show n - (k + 1) < n - k; omega) (by repeat (first | exact SubG.nil | refine SubG.cons rfl (VT.le_refl _) ?_ | (refine SubG.cons rfl (one_le ?_) ?_; (congr 1; first | omega | (simp; omega) | simp)))) (.drop (.keep (sliO_eq fun q hq => ?_) .nil))
    by_cases h : q < k
    · rw [if_pos h]
    · have : q = k := by omega
      subst this; rw [if_neg h]
  · have hk : k = n := by omega
    subst hk
    refine J_exit ?_
    refine px_then ?_
    refine px_then ?_
    refine px_block ?_
    refine pj_then ?_
    refine J_seq ?_
    refine J_seq ?_
    refine J_reg ?_
    refine st (s_move rfl) rfl ?_
    refine st (s_len rfl) rfl ?_
    refine st (s_move rfl) rfl ?_
    refine Run.nil ?_
    refine pj_then ?_
    refine J_block ?_
    refine J_loop (σ := Nat × Option Nat × Nat) (fun s => [(5, one (slV s.2.1 (k + s.1) s.2.2)), (28, slT (.agg 2) m (fun j => bigT (g j))), (29, one (.int .i64 m)), (30, one (.int .i64 (s.1 : Nat)))])
      (fun s => [sliO s.2.1 29 (.agg 2) s.2.2 (k + s.1) (fun q => bigT (if q < k then f q else g (q - k)))]) (fun s => s.1 ≤ m) (fun s => m - s.1) (0, sv0, cap0) (Nat.zero_le _) (by repeat (first | exact SubG.nil | refine SubG.cons rfl (VT.le_refl _) ?_ | (refine SubG.cons rfl (one_le ?_) ?_; (congr 1; first | omega | (simp; omega) | simp)))) (.keep (sliO_eq fun q hq => by rw [if_pos hq]) .nil) (fun s hs => ?_)
    obtain ⟨j, sv1, cap1⟩ := s
    simp only at hs ⊢
    refine J_seq ?_
    refine J_reg ?_
    refine st (s_lt rfl rfl) rfl ?_
    refine Run.nil ?_
    refine pj_then ?_
    refine J_seq ?_
    refine J_cond rfl (fun hc2 => ?_) (fun hc2 => ?_) <;> simp only [decide_eq_true_eq, decide_eq_false_iff_not] at hc2
    · refine J_skip ?_
      refine pj_then ?_
      refine J_seq ?_
      refine J_block ?_
      refine J_seq ?_
      refine J_reg ?_
      (refine st (s_indexIN rfl rfl ?_) rfl ?_; omega)
      refine st (s_load rfl) rfl ?_
      refine a_alloc (T := 29) rfl (ltN rfl) (fun b => ?_)
      refine a_storeB 0 rfl rfl rfl rfl rfl (leN rfl) rfl ?_
      refine Run.nil ?_
      refine pj_then ?_
      refine J_reg ?_
      refine st (s_move rfl) rfl ?_
      refine st (s_loadB 0 rfl rfl rfl) rfl ?_
      refine st (s_callk (own_ok (g j) (hg j)) rfl ⟨VT.le_refl _, trivial⟩) rfl ?_
      refine stS1 rfl rfl rfl rfl ?_
      (refine a_append 1 rfl rfl rfl (leN rfl) ?_ ?_ rfl (ltN rfl) (fun sv cap => ?_); omega; omega)
      refine st (s_assign rfl) rfl ?_
      refine Run.nil ?_
      refine pn_block ?_
      refine pj_then ?_
      refine J_reg ?_
      (refine st (s_add rfl rfl (wrap_i64 ?_ ?_)) rfl ?_; omega; omega)
      refine st (s_move rfl) rfl ?_
      refine Run.nil ?_
      refine pj_round (s := (j, sv1, cap1)) (j + 1, sv, cap) (show _ from by simp only; omega) (by show m - (j + 1) < m - j; omega) (by repeat (first | exact SubG.nil | refine SubG.cons rfl (VT.le_refl _) ?_ | (refine SubG.cons rfl (one_le ?_) ?_; (congr 1; first | omega | (simp; omega) | simp)))) (.drop (.keep (sliO_eq fun q hq => ?_) .nil))
      by_cases h : q < k + j
      · rw [if_pos h]
      · have : q = k + j := by omega
        subst this; rw [if_neg h, if_neg (by omega)]; simp
    · have hk : j = m := by omega
      subst hk
      refine J_exit ?_
      refine px_then ?_
      refine px_then ?_
      refine px_block ?_
      refine pj_then ?_
      refine J_seq ?_
      refine J_reg ?_
      refine st (s_move rfl) rfl ?_
      refine st (s_assign rfl) rfl ?_
      refine Run.nil ?_
      refine pj_then ?_
      refine J_ret ?_
      refine PJ_freeze (t := 4) (i := 0) rfl rfl ?_
      refine retc1 Try.results57 (.tmp rfl (VT.le_refl _))
end Tor
