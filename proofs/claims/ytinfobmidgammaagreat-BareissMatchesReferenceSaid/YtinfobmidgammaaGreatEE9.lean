/-
  Proofs that laws of this seat return true for every input, and that their arguments read afterwards as before.
  No condition.
-/
import Derived.Test.YtinfobmidgammaaGreatEE8
import Derived.Test.YtinfobmidgammaaGreatRows
set_option linter.unusedVariables false
set_option linter.unusedSimpArgs false
section
namespace Tor
open Go Go.RowKit Go.Proofs
theorem basQ_B {α n : Nat} {L : Nat → Nat → Rat} (hL : ∀ j p, qz α (L j p)) (hα : 1 ≤ α) : ∀ j, ∀ k, k < (basQ n L j).length → firstQ (basF (basQ n L j) k) n < n ∧ ∀ p, qz (newB α (basQ n L j).length) (basF (basQ n L j) k p)
  | 0 => fun k h => absurd h (Nat.not_lt_zero _)
  | j + 1 => by
    have ih := basQ_B (n := n) hL hα j
    have hr := qz_red (n := n) (basQ n L j).length (fun p => hL j p) ih (basQ n L j).length (Nat.le_refl _)
    show ∀ k, k < (if firstQ (redN (basF (basQ n L j)) n (L j) (basQ n L j).length) n < n then basQ n L j ++ [redN (basF (basQ n L j)) n (L j) (basQ n L j).length] else basQ n L j).length → _
    have e : basQ n L (j + 1) = if firstQ (redN (basF (basQ n L j)) n (L j) (basQ n L j).length) n < n then basQ n L j ++ [redN (basF (basQ n L j)) n (L j) (basQ n L j).length] else basQ n L j := rfl
    rw [e]
    split
    · rename_i h
      generalize redN (basF (basQ n L j)) n (L j) (basQ n L j).length = r at *
      generalize basQ n L j = S at *
      intro k hk
      have hl : (S ++ [r]).length = S.length + 1 := by simp
      rw [hl] at hk ⊢
      by_cases h1 : k < S.length
      · rw [bas_app h1]
        exact ⟨(ih k h1).1, fun j => ((ih k h1).2 j).mono (newB_succ _ _)⟩
      · rw [show k = S.length by omega, bas_last]
        exact ⟨h, hr⟩
    · exact ih
def suB (β x : Nat) : Nat → Nat
  | 0 => β
  | j + 1 => suB β x j + (β + x) + 1
def xB (β n : Nat) : Nat → Nat
  | 0 => 1
  | d + 1 => xB β n d + suB β (xB β n d) n + β
theorem suB_mono {β x i k : Nat} (h : i ≤ k) : suB β x i ≤ suB β x k := by
  induction k with
  | zero => have : i = 0 := by omega
            subst this; exact Nat.le_refl _
  | succ k ih =>
    by_cases e : i = k + 1
    · rw [e]; exact Nat.le_refl _
    · have := ih (by omega)
      show suB β x i ≤ suB β x k + (β + x) + 1
      omega
theorem xB_mono {β n i k : Nat} (h : i ≤ k) : xB β n i ≤ xB β n k := by
  induction k with
  | zero => have : i = 0 := by omega
            subst this; exact Nat.le_refl _
  | succ k ih =>
    by_cases e : i = k + 1
    · rw [e]; exact Nat.le_refl _
    · have := ih (by omega)
      show xB β n i ≤ xB β n k + _ + _
      omega
theorem qz_sumQ {β x n : Nat} {b X : Nat → Rat} {rows : List Nat} {f : Nat} (hb : ∀ p, qz β (b p)) (hX : ∀ i, qz x (X i)) : ∀ j, qz (suB β x j) (sumQ b n X rows f j)
  | 0 => hb n
  | j + 1 => by
    have ih := qz_sumQ (n := n) (rows := rows) (f := f) hb hX j
    show qz (suB β x j + (β + x) + 1) (if j = f then _ else _)
    split
    · exact ih.mono (by omega)
    · exact qz_sub ih (qz_mul (hb j) (hX _))
theorem qz_xQ {β n k : Nat} {B : Nat → Nat → Rat} {rows : List Nat} (hB : ∀ t, t < k → firstQ (B t) n < n ∧ ∀ p, qz β (B t p)) : ∀ d, d ≤ k → ∀ i, qz (xB β n d) (xQ n B rows k d i)
  | 0, _, i => qz_zero _ (Nat.le_refl _)
  | d + 1, hd, i => by
    have ih := qz_xQ (rows := rows) hB d (by omega)
    obtain ⟨h1, h2⟩ := hB (k - 1 - d) (by omega)
    show qz (xB β n d + suB β (xB β n d) n + β) (if i = rows.getD (firstQ (B (k - 1 - d)) n) 0 then _ else _)
    split
    · exact (qz_over (qz_sumQ h2 ih n) (h2 _) (firstQ_lt h1).1).mono (by omega)
    · exact (ih i).mono (by omega)
theorem qz_linQ {α n c : Nat} {F : Nat → Nat → Int} {b : Nat → Int} {rows : List Nat} (hα : 1 ≤ α) (hF : ∀ i j, lz α (F i j)) (hb : ∀ j, lz α (b j)) : ∀ j p, qz α (linQ n c F b rows j p) := fun j p => by
  unfold linQ
  split
  · exact qz_int hα (hF _ _)
  · split
    · exact qz_int hα (hb _)
    · split
      · exact qz_int (a := 1) hα (lz_one hα)
      · exact qz_zero _ hα
theorem line_at {n c j : Nat} {F : Nat → Nat → Int} {b : Nat → Int} {rows : List Nat} (q : Nat) : (if q < n + 1 then if q < n then ratT (F (rows.getD q 0) j : Rat) else ratT (b j : Rat) else ratT ((fun i : Nat => if (i : Int) = (j : Int) then (1 : Rat) else 0) (q - (n + 1)))) = ratT (linQ n c F b rows j q) := by
  unfold linQ
  by_cases h1 : q < n
  · rw [if_pos (by omega), if_pos h1, if_pos h1]
  · by_cases h2 : q = n
    · rw [if_pos (by omega), if_neg h1, if_neg h1, if_pos h2]
    · rw [if_neg (by omega), if_neg h1, if_neg h2]
      by_cases h3 : q = n + 1 + j
      · rw [if_pos h3]; dsimp only; rw [if_pos (by omega)]
      · rw [if_neg h3]; dsimp only; rw [if_neg (by omega)]
theorem xQ_step {sv : Option Nat} {T : TypeId} {cap r n k d : Nat} {B : Nat → Nat → Rat} {rows : List Nat} : Own.le (sliO sv T (.agg 4) cap r (upd (fun i => ratT (xQ n B rows k d i)) (rows.getD (firstQ (B (k - 1 - d)) n) 0) (ratT (sumQ (B (k - 1 - d)) n (xQ n B rows k d) rows (firstQ (B (k - 1 - d)) n) n / B (k - 1 - d) (firstQ (B (k - 1 - d)) n))))) (sliO sv T (.agg 4) cap r (fun i => ratT (xQ n B rows k (d + 1) i))) := sliO_eq fun q _ => by
  show (if q = rows.getD (firstQ (B (k - 1 - d)) n) 0 then ratT _ else ratT (xQ n B rows k d q)) = ratT (if q = rows.getD (firstQ (B (k - 1 - d)) n) 0 then _ else _)
  by_cases h : q = rows.getD (firstQ (B (k - 1 - d)) n) 0
  · rw [if_pos h, if_pos h]
  · rw [if_neg h, if_neg h]
attribute [local irreducible] Tor.J Tor.PJ Tor.StepO Tor.one Tor.slT Tor.ptrT Tor.aggT Tor.tupT Tor.exT Tor.andT Tor.eP Tor.boxO Tor.sliO Tor.slV Tor.VT.le Tor.Ret Tor.anyT Tor.xO
attribute [local irreducible] bigT ratT rowF
set_option maxHeartbeats 4000000 in
theorem r8unitM_ok (n : Nat) (hn : n ≤ 1048576) : OkM (σ := Option Nat × Nat) Tryz.prog 51 [one (.int .i64 (n : Nat)), one (.int .i64 (-1))] (fun s => one (slV s.1 n s.2)) (fun s => [sliO s.1 63 (.agg 4) s.2 n (fun _ => ratT 0)]) := by
  have h0 := rqNumber_ok 0 (by decide) (by decide)
  refine OkM.enter Tryz.func51 rfl Tryz.ntmps51 rfl (fun w O => ?_)
  refine J_seq (J_reg (st (s_assign rfl) rfl (Run.nil (pj_then (J_seq (J_reg (stSO (n := 0) rfl rfl rfl rfl rfl ?_)))))))
  refine PartsK.nil (fun bl => ?_)
  refine st (s_assign rfl) rfl (Run.nil (pj_then (J_seq (J_seq (J_reg (st (s_assign rfl) rfl (Run.nil (pj_then (J_block ?_)))))))))
  refine J_sub (Γ' := [(0, _), (1, _), (4, _), (5, _), (6, _)]) (SubG.cons rfl (VT.le_refl _) (SubG.cons rfl (VT.le_refl _) (SubG.cons rfl (VT.le_refl _) (SubG.cons rfl (VT.le_refl _) (SubG.cons rfl (VT.le_refl _) (SubG.nil)))))) (SubM.refl _) ?_
  refine J_loopA (σ := Nat × Option Nat × Nat) (Γk := [(0, _), (1, _), (4, _)]) (SubG.cons rfl (VT.le_refl _) (SubG.cons rfl (VT.le_refl _) (SubG.cons rfl (VT.le_refl _) (SubG.nil)))) (fun s => [(6, one (.int .i64 (s.1 : Nat))), (5, one (slV s.2.1 s.1 s.2.2))]) (fun s M0 => (M0.set 0 (sliO s.2.1 63 (.agg 4) s.2.2 s.1 (fun q => ratT ((0 : Int) : Rat))))) (fun s => s.1 ≤ n) (fun s => n - s.1) ((0, some bl, 0)) (Nat.zero_le _) (by repeat (first | exact SubG.refl _ | exact SubG.nil | refine SubG.cons rfl (VT.le_refl _) ?_ | (refine SubG.cons rfl (one_le ?_) ?_; (congr 1; first | omega | (simp; omega) | simp)))) (.keep (sliO_eq (fun q hq => absurd hq (Nat.not_lt_zero _))) (.nil)) (fun s hs => ?_)
  refine J_norm (Γ' := [(6, _), (5, _), (0, _), (1, _), (4, _)]) (M' := [_]) rfl rfl ?_
  obtain ⟨i, sv, cap⟩ := s
  dsimp only at hs ⊢
  by_cases hi : i < n
  · refine J_seq (J_seq (J_reg (st (s_move rfl) rfl (st (s_move rfl) rfl (st (sT (by omega) (s_lt rfl rfl)) rfl (Run.nil (pj_then (J_cond1 rfl (J_skip ?_)))))))))
    refine pj_then (J_seq (J_block (J_reg (st (s_move rfl) rfl ?_))))
    refine st (s_callk (h0 ) rfl ⟨VT.le_refl _, trivial⟩) rfl ?_
    refine stS1 rfl rfl rfl rfl ?_
    (refine a_append 0 rfl rfl rfl (leN rfl) ?_ ?_ rfl (ltN rfl) (fun sv16 cap16 => ?_); omega; omega)
    refine st (s_assign rfl) rfl (Run.nil (pn_block (pj_then (J_reg (st (s_move rfl) rfl (st (s_addN _ 1 rfl rfl (by omega)) rfl (st (s_assign rfl) rfl (Run.nil ?_))))))))
    refine pj_roundM ((i + 1, sv16, cap16)) (hi) (by omega) (by repeat (first | exact SubG.refl _ | exact SubG.nil | refine SubG.cons rfl (VT.le_refl _) ?_ | (refine SubG.cons rfl (one_le ?_) ?_; (congr 1; first | omega | (simp; omega) | simp)))) (.keep (sliO_eq (fun q hq => by split <;> rfl)) (.nil))
  · have he : i = n := by omega
    subst he
    refine J_seq (J_seq (J_reg (st (s_move rfl) rfl (st (s_move rfl) rfl (st (sF (by omega) (s_lt rfl rfl)) rfl (Run.nil (pj_then (J_cond0 rfl (J_exit ?_)))))))))
    refine px_then (px_then (px_block (pj_then (J_seq (J_seq (J_reg (st (s_move rfl) rfl (st (sF (by omega) (s_ge rfl rfl)) rfl (st (s_move rfl) rfl ?_)))))))))
    refine sn0 rfl rfl rfl rfl rfl (sn0 rfl rfl rfl rfl rfl (sn0 rfl rfl rfl rfl rfl (st (s_pickF rfl rfl) rfl (Run.nil (pj_then (J_cond0 rfl (J_skip (pj_then (J_seq ?_)))))))))
    refine J_reg (st (s_move rfl) rfl (st (s_assign rfl) rfl (Run.nil (pj_then (J_ret ?_)))))
    exact retM1 (σ := Option Nat × Nat) (ψ := fun s => one (slV s.1 i s.2)) (Ms := fun s => [sliO s.1 63 (.agg 4) s.2 i (fun _ => ratT 0)]) (sv, cap) Tryz.results51 (.tmp rfl (VT.le_refl _)) (.keep (sliO_eq fun q hq => rfl) .nil)
set_option maxRecDepth 100000 in
set_option maxHeartbeats 8000000 in
theorem r8Solve_ok (p : Bool) (jb : Nat) (r c : Nat) (F : Nat → Nat → Int) (b : Nat → Int) (α : Nat) (rows : List Nat) (hrows : (newQ c F r).1 = rows) (hr : r ≤ 1024) (hc : c ≤ 1024) (hα : 1 ≤ α) (hF : ∀ i j, lz α (F i j)) (hb : ∀ j, lz α (b j)) (hz : newB α r ≤ 1099511627700) (hz2 : newB α (c + 1) ≤ 1099511627700) (hz3 : xB (newB α c) rows.length (c + 1) ≤ 1099511627700) (hz4 : ∀ k, k ≤ c → 2 * redB α (newB α k) k ≤ 1099511627700) (hrl : rows.length ≤ r) (hrm : ∀ i, i < rows.length → rows.getD i 0 < r)
    (hp : p = true ↔ ∀ j, j < c → consQ rows.length (linQ rows.length c F b rows) j) (hjb : ∀ j, j < c → ¬ consQ rows.length (linQ rows.length c F b rows) j → jb ≤ j ∧ ¬ consQ rows.length (linQ rows.length c F b rows) jb) :
    Ok Tryz.prog 14 [matF r c F, rowF c b] (if p = true then tupT [ratF r (xQ rows.length (basF (basQ rows.length (linQ rows.length c F b rows) c)) rows (basQ rows.length (linQ rows.length c F b rows) c).length (basQ rows.length (linQ rows.length c F b rows) c).length), ratF 0 (fun _ => 0), one (.bool true)]
      else tupT [ratF 0 (fun _ => 0), ratF c (fun k => redN (basF (basQ rows.length (linQ rows.length c F b rows) jb)) rows.length (linQ rows.length c F b rows jb) (basQ rows.length (linQ rows.length c F b rows) jb).length (rows.length + 1 + k) / redN (basF (basQ rows.length (linQ rows.length c F b rows) jb)) rows.length (linQ rows.length c F b rows jb) (basQ rows.length (linQ rows.length c F b rows) jb).length rows.length), one (.bool false)]) := by
  have hnew := r8New_ok r c F α hr hc hα hF hz
  rw [hrows] at hnew
  have htr := rTranspose_ok r c F (by omega) (by omega)
  have hun := r8unitM_ok r (by omega)
  have hunit := fun j : Nat => r8unit_ok c (j : Int) (by omega)
  have hqL := qz_linQ (n := rows.length) (c := c) (rows := rows) hα hF hb
  have hBq := basQ_B (n := rows.length) hqL hα
  have hBI := basQ_I rows.length (linQ rows.length c F b rows)
  unfold matF rowF pivT pivF at *
  refine Ok.enter Tryz.func14 rfl Tryz.ntmps14 rfl (fun w O => ?_)
  refine J_seq (J_reg ?_)
  refine a_boxS rfl rfl (ltN rfl) (fun b2 => ?_)
  refine st (s_assign rfl) rfl (st (s_assign rfl) rfl (st (s_assign rfl) rfl (Run.nil (pj_then (J_seq ?_)))))
  refine J_regU2 mixed (by kernel_rfl) (by kernel_rfl) ?_
  refine ux (fun B => s_loadW 0 rfl rfl) rfl rfl ?_
  refine uxk (hnew ) rfl ⟨VT.le_refl _, trivial⟩ rfl ?_
  refine ux (fun B => s_loadW 0 rfl rfl) rfl rfl ?_
  refine uxk (htr ) rfl ⟨VT.le_refl _, trivial⟩ rfl ?_
  refine ua rfl ?_
  refine ux (fun B => s_assign rfl) rfl rfl ?_
  refine us rfl ?_
  refine RunU.nil (fun γ => ?_)
  refine PJ_normM (M' := [_, _]) rfl (PJ_sub (SubG.refl _) (.keep box_flat (SubM.refl _)) (pj_then (J_seq (J_reg (st (s_move rfl) rfl (st (s_len rfl) rfl (st (s_fieldAddr rfl) rfl (st (s_loadB 1 rfl rfl rfl) rfl ?_))))))))
  refine a_callM (hun ) rfl ⟨VT.le_refl _, VT.le_refl _, trivial⟩ rfl rfl (fun s29 => ?_)
  refine stSO (n := 0) rfl rfl rfl rfl rfl ?_
  refine PartsK.nil (fun bl => ?_)
  refine st (s_assign rfl) rfl (st (s_assign rfl) rfl (st (s_assign rfl) rfl (Run.nil (pj_then (J_seq (J_seq (J_reg (st (s_assign rfl) rfl (Run.nil ?_)))))))))
  refine pj_then (J_block ?_)
  clear hun hnew htr
  refine J_sub (Γ' := [(1, _), (2, _), (4, _), (5, _), (6, _), (7, _), (8, _), (9, _), (10, _), (11, _), (12, _)]) (SubG.cons rfl (VT.le_refl _) (SubG.cons rfl (VT.le_refl _) (SubG.cons rfl (VT.le_refl _) (SubG.cons rfl (VT.le_refl _) (SubG.cons rfl (VT.le_refl _) (SubG.cons rfl (VT.le_refl _) (SubG.cons rfl (VT.le_refl _) (SubG.cons rfl (VT.le_refl _) (SubG.cons rfl (VT.le_refl _) (SubG.cons rfl (VT.le_refl _) (SubG.cons rfl (VT.le_refl _) (SubG.nil)))))))))))) (SubM.refl _) ?_
  refine J_loopA (σ := Nat × Option Nat × Nat) (Γk := [(1, _), (2, _), (7, _), (8, _), (9, _), (10, _)]) (SubG.cons rfl (VT.le_refl _) (SubG.cons rfl (VT.le_refl _) (SubG.cons rfl (VT.le_refl _) (SubG.cons rfl (VT.le_refl _) (SubG.cons rfl (VT.le_refl _) (SubG.cons rfl (VT.le_refl _) (SubG.nil))))))) (fun s => [(12, one (.int .i64 (s.1 : Nat))), (11, one (slV s.2.1 (basQ rows.length (linQ rows.length c F b rows) s.1).length s.2.2))]) (fun s M0 => (M0.set 0 (sliO s.2.1 36 .one s.2.2 (basQ rows.length (linQ rows.length c F b rows) s.1).length (fun q => ratF (rows.length + 1 + c) (basF (basQ rows.length (linQ rows.length c F b rows) s.1) q))))) (fun s => s.1 ≤ c ∧ ∀ q, q < s.1 → consQ rows.length (linQ rows.length c F b rows) q) (fun s => c - s.1) ((0, some bl, 0)) (⟨Nat.zero_le _, fun q h => absurd h (Nat.not_lt_zero _)⟩) (by repeat (first | exact SubG.refl _ | exact SubG.nil | refine SubG.cons rfl (VT.le_refl _) ?_ | (refine SubG.cons rfl (one_le ?_) ?_; (congr 1; first | omega | (simp; omega) | simp)))) (.keep (sliO_eq (fun q hq => absurd hq (Nat.not_lt_zero _))) (.keep (Own.le_refl _) (.keep (Own.le_refl _) (.keep (Own.le_refl _) (.nil))))) (fun s hs => ?_)
  refine J_norm (Γ' := [(12, _), (11, _), (1, _), (2, _), (7, _), (8, _), (9, _), (10, _)]) (M' := [_, _, _, _]) rfl rfl ?_
  obtain ⟨j, svb, capb⟩ := s
  obtain ⟨hs, hcons⟩ := hs
  dsimp only at hs hcons ⊢
  by_cases hj : j < c
  · refine J_seq (J_seq (J_reg (st (s_move rfl) rfl (st (s_fieldAddr rfl) rfl (st (s_loadB 3 rfl rfl rfl) rfl (st (sT (by omega) (s_lt rfl rfl)) rfl (Run.nil (pj_then (J_cond1 rfl ?_)))))))))
    refine J_skip (pj_then (J_seq (J_block (J_seq (J_reg (stSO (n := 0) rfl rfl rfl rfl rfl ?_))))))
    refine PartsK.nil (fun bl => ?_)
    refine st (s_assign rfl) rfl (Run.nil (pj_then (J_seq (J_seq (J_reg (st (s_assign rfl) rfl (Run.nil (pj_then (J_block ?_)))))))))
    refine J_sub (Γ' := [(1, _), (2, _), (7, _), (8, _), (9, _), (10, _), (11, _), (12, _), (13, _), (14, _)]) (SubG.cons rfl (VT.le_refl _) (SubG.cons rfl (VT.le_refl _) (SubG.cons rfl (VT.le_refl _) (SubG.cons rfl (VT.le_refl _) (SubG.cons rfl (VT.le_refl _) (SubG.cons rfl (VT.le_refl _) (SubG.cons rfl (VT.le_refl _) (SubG.cons rfl (VT.le_refl _) (SubG.cons rfl (VT.le_refl _) (SubG.cons rfl (VT.le_refl _) (SubG.nil))))))))))) (SubM.refl _) ?_
    refine J_loopA (σ := Nat × Option Nat × Nat) (Γk := [(1, _), (2, _), (7, _), (8, _), (9, _), (10, _), (11, _), (12, _)]) (SubG.cons rfl (VT.le_refl _) (SubG.cons rfl (VT.le_refl _) (SubG.cons rfl (VT.le_refl _) (SubG.cons rfl (VT.le_refl _) (SubG.cons rfl (VT.le_refl _) (SubG.cons rfl (VT.le_refl _) (SubG.cons rfl (VT.le_refl _) (SubG.cons rfl (VT.le_refl _) (SubG.nil))))))))) (fun t => [(14, one (.int .i64 (t.1 : Nat))), (13, one (slV t.2.1 t.1 t.2.2))]) (fun t M0 => (M0.set 0 (sliO t.2.1 63 (.agg 4) t.2.2 t.1 (fun q => ratT (F (rows.getD q 0) j : Rat))))) (fun t => t.1 ≤ rows.length) (fun t => rows.length - t.1) ((0, some bl, 0)) (Nat.zero_le _) (by repeat (first | exact SubG.refl _ | exact SubG.nil | refine SubG.cons rfl (VT.le_refl _) ?_ | (refine SubG.cons rfl (one_le ?_) ?_; (congr 1; first | omega | (simp; omega) | simp)))) (.keep (sliO_eq (fun q hq => absurd hq (Nat.not_lt_zero _))) (.keep (Own.le_refl _) (.keep (Own.le_refl _) (.keep (Own.le_refl _) (.keep (Own.le_refl _) (.nil)))))) (fun t ht => ?_)
    refine J_norm (Γ' := [(14, _), (13, _), (1, _), (2, _), (7, _), (8, _), (9, _), (10, _), (11, _), (12, _)]) (M' := [_, _, _, _, _]) rfl rfl ?_
    obtain ⟨i, svl, capl⟩ := t
    dsimp only at ht ⊢
    by_cases hi : i < rows.length
    · have hw := rqWhole_ok (F (rows.getD i 0) j)
      have hri := hrm i hi
      refine J_seq (J_seq (J_reg (st (s_move rfl) rfl (st (s_move rfl) rfl (st (sT (by omega) (s_lt rfl rfl)) rfl (Run.nil (pj_then (J_cond1 rfl (J_skip ?_)))))))))
      refine pj_then (J_seq (J_block (J_regdF 16 14 mixed (by kernel_rfl) (by decide) (st (s_move rfl) rfl (st (s_fieldAddr rfl) rfl (st (s_loadB 3 rfl rfl rfl) rfl (st (s_move rfl) rfl (st (s_indexIN rfl rfl (by omega)) rfl (st (s_load rfl) rfl ?_)))))))))
      refine st (s_move rfl) rfl (st (s_move rfl) rfl (st (s_indexIN rfl rfl (by omega)) rfl (st (s_load rfl) rfl (st (s_indexIN rfl rfl (by omega)) rfl (st (s_load rfl) rfl ?_)))))
      refine st (s_callk (hw ) rfl ⟨VT.le_refl _, trivial⟩) rfl ?_
      refine stS1 rfl rfl rfl rfl (Run.nil ?_)
      (refine a_append 0 rfl rfl rfl (leN rfl) ?_ ?_ rfl (ltN rfl) (fun sv57 cap57 => ?_); omega; omega)
      refine st (s_assign rfl) rfl (Run.nil (pn_block (pj_then (J_reg (st (s_move rfl) rfl (st (s_addN _ 1 rfl rfl (by omega)) rfl (st (s_assign rfl) rfl (Run.nil ?_))))))))
      refine pj_roundM ((i + 1, sv57, cap57)) (hi) (by omega) (by repeat (first | exact SubG.refl _ | exact SubG.nil | refine SubG.cons rfl (VT.le_refl _) ?_ | (refine SubG.cons rfl (one_le ?_) ?_; (congr 1; first | omega | (simp; omega) | simp)))) (.keep (rat_snoc (h := fun q => (F (rows.getD q 0) j : Rat)) rfl) (.keep (Own.le_refl _) (.keep (Own.le_refl _) (.keep (Own.le_refl _) (.keep (Own.le_refl _) (.nil))))))
    · have hie : i = rows.length := by omega
      subst hie
      have hw := rqWhole_ok (b j)
      have hu := hunit j
      refine J_seq (J_seq (J_reg (st (s_move rfl) rfl (st (s_move rfl) rfl (st (sF (by omega) (s_lt rfl rfl)) rfl (Run.nil (pj_then (J_cond0 rfl (J_exit ?_)))))))))
      refine px_then (px_then (px_block (pj_then (J_seq (J_reg (st (s_move rfl) rfl (st (s_move rfl) rfl (st (s_move rfl) rfl (st (s_indexIN rfl rfl (by omega)) rfl ?_)))))))))
      refine st (s_load rfl) rfl ?_
      refine st (s_callk (hw ) rfl ⟨VT.le_refl _, trivial⟩) rfl ?_
      refine stS1 rfl rfl rfl rfl ?_
      (refine a_append 0 rfl rfl rfl (leN rfl) ?_ ?_ rfl (ltN rfl) (fun sv65 cap65 => ?_); omega; omega)
      refine st (s_assign rfl) rfl (Run.nil (pj_then (J_seq (J_reg (st (s_move rfl) rfl (st (s_fieldAddr rfl) rfl (st (s_loadB 4 rfl rfl rfl) rfl (st (s_move rfl) rfl ?_))))))))
      refine st (s_callk (hunit _) rfl ⟨VT.le_refl _, VT.le_refl _, trivial⟩) rfl ?_
      (refine a_append 0 rfl rfl rfl (leN rfl) ?_ ?_ rfl (ltN rfl) (fun sv71 cap71 => ?_); omega; omega)
      refine st (s_move rfl) rfl (st (s_move rfl) rfl ?_)
      have hB := hBq j
      have hI := hBI j
      have hz1 : newB α ((basQ rows.length (linQ rows.length c F b rows) j).length + 1) ≤ 1099511627700 := Nat.le_trans (newB_mono (by have := hI.le; omega)) hz2
      have hred := r8reduced_ok rows.length (rows.length + 1 + c) (basQ rows.length (linQ rows.length c F b rows) j).length (linQ rows.length c F b rows j) (basF (basQ rows.length (linQ rows.length c F b rows) j)) svb capb α (newB α (basQ rows.length (linQ rows.length c F b rows) j).length) (by omega) (by omega) (by have := hI.le; omega) (hqL j) hB hz1
      have hfi := r8first_ok rows.length (rows.length + 1 + c) (redN (basF (basQ rows.length (linQ rows.length c F b rows) j)) rows.length (linQ rows.length c F b rows j) (basQ rows.length (linQ rows.length c F b rows) j).length) (by omega) (by omega)
      refine Run_freeze (t := 71) (j := 0) rfl rfl ?_
      refine st (s_callR (Min := [_]) (Kp := [_, _, _]) hred rfl ⟨slT_le (fun q hq => le_eq (line_at q)), VT.le_refl _, VT.le_refl _, trivial⟩ (List.Perm.refl _)) rfl ?_
      have hsucc : basQ rows.length (linQ rows.length c F b rows) (j + 1) = if firstQ (redN (basF (basQ rows.length (linQ rows.length c F b rows) j)) rows.length (linQ rows.length c F b rows j) (basQ rows.length (linQ rows.length c F b rows) j).length) rows.length < rows.length then basQ rows.length (linQ rows.length c F b rows) j ++ [redN (basF (basQ rows.length (linQ rows.length c F b rows) j)) rows.length (linQ rows.length c F b rows j) (basQ rows.length (linQ rows.length c F b rows) j).length] else basQ rows.length (linQ rows.length c F b rows) j := rfl
      have hcj : (firstQ (redN (basF (basQ rows.length (linQ rows.length c F b rows) j)) rows.length (linQ rows.length c F b rows j) (basQ rows.length (linQ rows.length c F b rows) j).length) rows.length < rows.length ∨ redN (basF (basQ rows.length (linQ rows.length c F b rows) j)) rows.length (linQ rows.length c F b rows j) (basQ rows.length (linQ rows.length c F b rows) j).length rows.length = 0) ↔ consQ rows.length (linQ rows.length c F b rows) j := Iff.rfl
      have hpf : ¬ consQ rows.length (linQ rows.length c F b rows) j → p = false ∧ jb = j := fun hn => by
        obtain ⟨h1, h2⟩ := hjb j hj hn
        refine ⟨?_, ?_⟩
        · cases hpp : p with
          | false => rfl
          | true => exact absurd (hp.1 hpp j hj) hn
        · rcases Nat.lt_or_ge jb j with h3 | h3
          · exact absurd (hcons jb h3) h2
          · omega
      have hnx : consQ rows.length (linQ rows.length c F b rows) j → ∀ q, q < j + 1 → consQ rows.length (linQ rows.length c F b rows) q := fun h q hq => by
        by_cases e : q = j
        · exact e ▸ h
        · exact hcons q (by omega)
      have hqR := qz_red (n := rows.length) (basQ rows.length (linQ rows.length c F b rows) j).length (hqL j) hB (basQ rows.length (linQ rows.length c F b rows) j).length (Nat.le_refl _)
      have hz1' : 2 * redB α (newB α (basQ rows.length (linQ rows.length c F b rows) j).length) (basQ rows.length (linQ rows.length c F b rows) j).length ≤ 1099511627700 := hz4 _ (Nat.le_trans hI.le hs)
      have hgoal : jb = j → (fun k => redN (basF (basQ rows.length (linQ rows.length c F b rows) jb)) rows.length (linQ rows.length c F b rows jb) (basQ rows.length (linQ rows.length c F b rows) jb).length (rows.length + 1 + k) / redN (basF (basQ rows.length (linQ rows.length c F b rows) jb)) rows.length (linQ rows.length c F b rows jb) (basQ rows.length (linQ rows.length c F b rows) jb).length rows.length) = (fun k => redN (basF (basQ rows.length (linQ rows.length c F b rows) j)) rows.length (linQ rows.length c F b rows j) (basQ rows.length (linQ rows.length c F b rows) j).length (rows.length + 1 + k) / redN (basF (basQ rows.length (linQ rows.length c F b rows) j)) rows.length (linQ rows.length c F b rows j) (basQ rows.length (linQ rows.length c F b rows) j).length rows.length) := fun h => by rw [h]
      generalize redN (basF (basQ rows.length (linQ rows.length c F b rows) j)) rows.length (linQ rows.length c F b rows j) (basQ rows.length (linQ rows.length c F b rows) j).length = R at *
      have hle := hI.le
      clear hred hB hBq hBI hI
      by_cases hf : firstQ R rows.length < rows.length
      · rw [if_pos hf] at hsucc
        have l2 : (basQ rows.length (linQ rows.length c F b rows) (j + 1)).length = (basQ rows.length (linQ rows.length c F b rows) j).length + 1 := by rw [hsucc]; simp
        refine st (s_assign rfl) rfl (Run.nil (pj_then (J_seq (J_seq (J_reg (st (s_move rfl) rfl (st (s_move rfl) rfl ?_)))))))
        refine st (s_callk (hfi ) rfl ⟨VT.le_refl _, VT.le_refl _, trivial⟩) rfl ?_
        refine st (s_move rfl) rfl (st (sT (by omega) (s_lt rfl rfl)) rfl (Run.nil (pj_then (J_cond1 rfl (J_seq (J_reg (st (s_move rfl) rfl (st (s_move rfl) rfl (stS1 rfl rfl rfl rfl ?_)))))))))
        (refine a_append 0 rfl rfl rfl (leN rfl) ?_ ?_ rfl (ltN rfl) (fun sv83 cap83 => ?_); omega; omega)
        refine st (s_assign rfl) rfl (Run.nil (pj_then (J_exit (px_then (px_block (pj_then (J_reg (st (s_move rfl) rfl (st (s_addN _ 1 rfl rfl (by omega)) rfl ?_)))))))))
        refine st (s_assign rfl) rfl (Run.nil ?_)
        refine pj_roundM ((j + 1, sv83, cap83)) (⟨hj, hnx (hcj.1 (.inl hf))⟩) (by omega) (by (repeat (first | exact SubG.nil | refine SubG.cons rfl (VT.le_refl _) ?_ | refine SubG.cons rfl (slV_len (by dsimp only; omega)) ?_))) (.keep (bas_snoc hsucc) (.keep (Own.le_refl _) (.keep (Own.le_refl _) (.keep (Own.le_refl _) (.nil)))))
      · rw [if_neg hf] at hsucc
        have l2 := congrArg List.length hsucc
        have hsg := rqSign_ok (R rows.length)
        by_cases h0 : R rows.length = 0
        · rw [(sgnI_zero (R rows.length).num).2 (Rat.num_eq_zero.2 h0)] at hsg
          refine st (s_assign rfl) rfl (Run.nil (pj_then (J_seq (J_seq (J_reg (st (s_move rfl) rfl (st (s_move rfl) rfl ?_)))))))
          refine st (s_callk (hfi ) rfl ⟨VT.le_refl _, VT.le_refl _, trivial⟩) rfl ?_
          refine st (s_move rfl) rfl (st (sF (by omega) (s_lt rfl rfl)) rfl (Run.nil (pj_then (J_cond0 rfl (J_skip (pj_then (J_seq (J_reg (st (s_move rfl) rfl ?_)))))))))
          refine st (s_move rfl) rfl (st (s_indexIN rfl rfl (by omega)) rfl (st (s_load rfl) rfl ?_))
          refine st (s_callk (hsg ) rfl ⟨VT.le_refl _, trivial⟩) rfl ?_
          refine st (sF (by omega) (s_ne rfl rfl)) rfl (Run.nil (pj_then (J_cond0 rfl (J_skip (pn_block (pj_then (J_reg (st (s_move rfl) rfl (st (s_addN _ 1 rfl rfl (by omega)) rfl ?_)))))))))
          refine st (s_assign rfl) rfl (Run.nil ?_)
          refine pj_roundM ((j + 1, svb, capb)) (⟨hj, hnx (hcj.1 (.inr h0))⟩) (by omega) (by (repeat (first | exact SubG.nil | refine SubG.cons rfl (VT.le_refl _) ?_ | refine SubG.cons rfl (slV_len (by dsimp only; omega)) ?_))) (.keep (bas_same hsucc) (.keep (Own.le_refl _) (.keep (Own.le_refl _) (.keep (Own.le_refl _) (.nil)))))
        · have hs0 : sgnI (R rows.length).num ≠ 0 := fun h => h0 (Rat.num_eq_zero.1 ((sgnI_zero (R rows.length).num).1 h))
          obtain ⟨hp0, hjj⟩ := hpf (fun h => by rcases hcj.2 h with h | h; exact hf h; exact h0 h)
          rw [hgoal hjj, hp0, if_neg (show ¬ false = true by simp)]
          clear hgoal hpf hcj hnx hsucc l2 hcons hp hjb
          generalize sgnI (R rows.length).num = sg at *
          refine st (s_assign rfl) rfl (Run.nil (pj_then (J_seq (J_seq (J_reg (st (s_move rfl) rfl (st (s_move rfl) rfl ?_)))))))
          refine st (s_callk (hfi ) rfl ⟨VT.le_refl _, VT.le_refl _, trivial⟩) rfl ?_
          refine st (s_move rfl) rfl (st (sF (by omega) (s_lt rfl rfl)) rfl (Run.nil (pj_then (J_cond0 rfl (J_skip (pj_then (J_seq (J_reg (st (s_move rfl) rfl ?_)))))))))
          refine st (s_move rfl) rfl (st (s_indexIN rfl rfl (by omega)) rfl (st (s_load rfl) rfl ?_))
          refine st (s_callk (hsg ) rfl ⟨VT.le_refl _, trivial⟩) rfl ?_
          refine st (sT (by assumption) (s_ne rfl rfl)) rfl (Run.nil (pj_then (J_cond1 rfl (J_seq (J_reg (stSO (n := 0) rfl rfl rfl rfl rfl ?_))))))
          refine PartsK.nil (fun bl => ?_)
          refine st (s_assign rfl) rfl (Run.nil (pj_then (J_seq (J_seq (J_reg (st (s_assign rfl) rfl (Run.nil (pj_then (J_block ?_)))))))))
          refine J_sub (Γ' := [(1, _), (2, _), (7, _), (8, _), (9, _), (10, _), (11, _), (12, _), (13, _), (15, _), (16, _)]) (SubG.cons rfl (VT.le_refl _) (SubG.cons rfl (VT.le_refl _) (SubG.cons rfl (VT.le_refl _) (SubG.cons rfl (VT.le_refl _) (SubG.cons rfl (VT.le_refl _) (SubG.cons rfl (VT.le_refl _) (SubG.cons rfl (VT.le_refl _) (SubG.cons rfl (VT.le_refl _) (SubG.cons rfl (VT.le_refl _) (SubG.cons rfl (VT.le_refl _) (SubG.cons rfl (VT.le_refl _) (SubG.nil)))))))))))) (SubM.refl _) ?_
          refine J_loopA (σ := Nat × Option Nat × Nat) (Γk := [(1, _), (2, _), (7, _), (8, _), (9, _), (10, _), (11, _), (12, _), (13, _)]) (SubG.cons rfl (VT.le_refl _) (SubG.cons rfl (VT.le_refl _) (SubG.cons rfl (VT.le_refl _) (SubG.cons rfl (VT.le_refl _) (SubG.cons rfl (VT.le_refl _) (SubG.cons rfl (VT.le_refl _) (SubG.cons rfl (VT.le_refl _) (SubG.cons rfl (VT.le_refl _) (SubG.cons rfl (VT.le_refl _) (SubG.nil)))))))))) (fun u => [(16, one (.int .i64 (u.1 : Nat))), (15, one (slV u.2.1 u.1 u.2.2))]) (fun u M0 => (M0.set 0 (sliO u.2.1 63 (.agg 4) u.2.2 u.1 (fun k => ratT (R (rows.length + 1 + k) / R rows.length))))) (fun u => u.1 ≤ c) (fun u => c - u.1) ((0, some bl, 0)) (Nat.zero_le _) (by repeat (first | exact SubG.refl _ | exact SubG.nil | refine SubG.cons rfl (VT.le_refl _) ?_ | (refine SubG.cons rfl (one_le ?_) ?_; (congr 1; first | omega | (simp; omega) | simp)))) (.keep (sliO_eq (fun q hq => absurd hq (Nat.not_lt_zero _))) (.keep (Own.le_refl _) (.keep (Own.le_refl _) (.keep (Own.le_refl _) (.keep (Own.le_refl _) (.nil)))))) (fun u hu => ?_)
          refine J_norm (Γ' := [(16, _), (15, _), (1, _), (2, _), (7, _), (8, _), (9, _), (10, _), (11, _), (12, _), (13, _)]) (M' := [_, _, _, _, _]) rfl rfl ?_
          obtain ⟨k, svy, capy⟩ := u
          dsimp only at hu ⊢
          by_cases hk : k < c
          · have hov := rqOver_ok (R (rows.length + 1 + k)) (R rows.length) _ _ (hqR _) (hqR _) (by omega) h0
            refine J_seq (J_seq (J_reg (st (s_move rfl) rfl (st (s_fieldAddr rfl) rfl (st (s_loadB 4 rfl rfl rfl) rfl (st (sT (by omega) (s_lt rfl rfl)) rfl (Run.nil (pj_then (J_cond1 rfl ?_)))))))))
            refine J_skip (pj_then (J_seq (J_block (J_regdT 14 mixed (by kernel_rfl) (by decide) (st (s_move rfl) rfl (st (s_move rfl) rfl (st (s_move rfl) rfl (st (s_addN _ 1 rfl rfl (by omega)) rfl (st (s_move rfl) rfl ?_)))))))))
            refine st (s_addN _ _ rfl rfl (by omega)) rfl (st (s_indexIN rfl rfl (by omega)) rfl (st (s_load rfl) rfl (st (s_move rfl) rfl (st (s_move rfl) rfl (st (s_indexIN rfl rfl (by omega)) rfl (st (s_load rfl) rfl ?_))))))
            refine st (s_callk (hov ) rfl ⟨VT.le_refl _, VT.le_refl _, trivial⟩) rfl ?_
            refine stS1 rfl rfl rfl rfl (Run.nil ?_)
            (refine a_append 0 rfl rfl rfl (leN rfl) ?_ ?_ rfl (ltN rfl) (fun sv111 cap111 => ?_); omega; omega)
            refine st (s_assign rfl) rfl (Run.nil (pn_block (pj_then (J_reg (st (s_move rfl) rfl (st (s_addN _ 1 rfl rfl (by omega)) rfl (st (s_assign rfl) rfl (Run.nil ?_))))))))
            refine pj_roundM ((k + 1, sv111, cap111)) (hk) (by omega) (by repeat (first | exact SubG.refl _ | exact SubG.nil | refine SubG.cons rfl (VT.le_refl _) ?_ | (refine SubG.cons rfl (one_le ?_) ?_; (congr 1; first | omega | (simp; omega) | simp)))) (.keep (rat_snoc (h := fun k => R (rows.length + 1 + k) / R rows.length) rfl) (.keep (Own.le_refl _) (.keep (Own.le_refl _) (.keep (Own.le_refl _) (.keep (Own.le_refl _) (.nil))))))
          · have hkc : k = c := by omega
            subst hkc
            refine J_seq (J_seq (J_reg (st (s_move rfl) rfl (st (s_fieldAddr rfl) rfl (st (s_loadB 4 rfl rfl rfl) rfl (st (sF (by omega) (s_lt rfl rfl)) rfl (Run.nil (pj_then (J_cond0 rfl ?_)))))))))
            refine J_exit (px_then (px_then (px_block (pj_then (J_seq (J_reg (st (s_move rfl) rfl (st (s_assign rfl) rfl (st (s_assign rfl) rfl ?_)))))))))
            refine st (s_assign rfl) rfl (Run.nil (pj_then (J_ret (pr_block (pr_then (pr_then (pr_block (pr_then (PJ_freeze (t := 5) (i := 0) rfl rfl ?_)))))))))
            refine retc3 Tryz.results14 (.tmp rfl (nil_slT)) (.tmp rfl (VT.le_refl _)) (.tmp rfl (VT.le_refl _))
  · have hjc : j = c := by omega
    subst hjc
    have hI := hBI j
    have hB : ∀ k, k < (basQ rows.length (linQ rows.length j F b rows) j).length → firstQ (basF (basQ rows.length (linQ rows.length j F b rows) j) k) rows.length < rows.length ∧ ∀ p, qz (newB α j) (basF (basQ rows.length (linQ rows.length j F b rows) j) k p) := fun k hk => ⟨(hBq j k hk).1, fun p => ((hBq j k hk).2 p).mono (newB_mono hI.le)⟩
    have hkl := hI.le
    rw [if_pos (hp.2 hcons)]
    clear hBq hBI hI hcons hqL hp hjb
    generalize basQ rows.length (linQ rows.length j F b rows) j = Q at *
    refine J_factM (i := 0) (F := svb = none → Q.length = 0) rfl (fun g h hp he => sliO_none hp he) (fun hsvb => ?_)
    obtain ⟨svx, capx⟩ := s29
    dsimp only
    refine J_factM (i := 1) (F := svx = none → r = 0) rfl (fun g h hp he => sliO_none hp he) (fun hsvx => ?_)
    generalize hBs : basF Q = B at *
    refine J_seq (J_seq (J_reg (st (s_move rfl) rfl (st (s_fieldAddr rfl) rfl (st (s_loadB 3 rfl rfl rfl) rfl (st (sF (by omega) (s_lt rfl rfl)) rfl (Run.nil (pj_then (J_cond0 rfl ?_)))))))))
    refine J_exit (px_then (px_then (px_block (pj_then (J_seq (J_seq (J_reg (st (s_move rfl) rfl (st (s_lenO rfl) rfl ?_)))))))))
    refine st (s_sub rfl rfl (wrap_i64 (by omega) (by omega))) rfl (st (s_assign rfl) rfl (Run.nil (pj_then (J_block (J_sub (Γ' := [(7, _), (9, _), (10, _), (11, _), (17, _)]) (SubG.cons rfl (VT.le_refl _) (SubG.cons rfl (VT.le_refl _) (SubG.cons rfl (VT.le_refl _) (SubG.cons rfl (VT.le_refl _) (SubG.cons rfl (VT.le_refl _) (SubG.nil)))))) (SubM.refl _) ?_)))))
    refine J_loopA (σ := Nat) (Γk := [(7, _), (9, _), (10, _), (11, _)]) (SubG.cons rfl (VT.le_refl _) (SubG.cons rfl (VT.le_refl _) (SubG.cons rfl (VT.le_refl _) (SubG.cons rfl (VT.le_refl _) (SubG.nil))))) (fun d => [(17, one (.int .i64 ((Q.length : Int) - 1 - (d : Int))))]) (fun d M0 => (M0.set 1 (sliO svx 63 (.agg 4) capx r (fun i => ratT (xQ rows.length B rows Q.length d i))))) (fun d => d ≤ Q.length) (fun d => Q.length - d) (0) (Nat.zero_le _) (by repeat (first | exact SubG.refl _ | exact SubG.nil | refine SubG.cons rfl (VT.le_refl _) ?_ | (refine SubG.cons rfl (one_le ?_) ?_; (congr 1; first | omega | (simp; omega) | simp)))) (.keep (Own.le_refl _) (.keep (Own.le_refl _) (.keep (Own.le_refl _) (.keep (Own.le_refl _) (.nil))))) (fun d hd => ?_)
    refine J_norm (Γ' := [(17, _), (7, _), (9, _), (10, _), (11, _)]) (M' := [_, _, _, _]) rfl rfl ?_
    by_cases hd : d < Q.length
    · obtain ⟨bb, rfl⟩ := sv_some hsvb (by omega)
      obtain ⟨hf, hq⟩ := hB (Q.length - 1 - d) (by omega)
      have hxq := qz_xQ (rows := rows) hB d (by omega)
      have hfi := r8first_ok rows.length (rows.length + 1 + j) (B (Q.length - 1 - d)) (by omega) (by omega)
      have hne := (firstQ_lt hf).1
      have hfr := hrm _ hf
      obtain ⟨bx, rfl⟩ := sv_some hsvx (by omega)
      have hxb1 : xB (newB α j) rows.length (d + 1) ≤ 1099511627700 := Nat.le_trans (xB_mono (by omega)) hz3
      have hxb2 : xB (newB α j) rows.length (d + 1) = xB (newB α j) rows.length d + suB (newB α j) (xB (newB α j) rows.length d) rows.length + newB α j := rfl
      have hst := fun sv T cap => xQ_step (sv := sv) (T := T) (cap := cap) (r := r) (n := rows.length) (k := Q.length) (d := d) (B := B) (rows := rows)
      refine J_retype (t := 17) (ψ := one (.int .i64 ((Q.length - 1 - d : Nat) : Int))) rfl (one_le (by congr 1; omega)) ?_
      have hmk : Q.length - 1 - d < Q.length := by omega
      have hmd : ((Q.length - 1 - d : Nat) : Int) - 1 = (Q.length : Int) - 1 - ((d + 1 : Nat) : Int) := by omega
      generalize Q.length - 1 - d = m at *
      have hsq := qz_sumQ (n := rows.length) (rows := rows) (f := firstQ (B m) rows.length) hq hxq
      refine J_seq (J_seq (J_reg (st (s_move rfl) rfl (st (sT (by omega) (s_ge rfl rfl)) rfl (Run.nil (pj_then (J_cond1 rfl (J_skip (pj_then ?_)))))))))
      refine J_seq (J_block (J_seq ?_))
      refine J_regU2 mixed (by kernel_rfl) (by kernel_rfl) ?_
      refine ux (fun B => s_move rfl) rfl rfl ?_
      refine ux (fun B => s_move rfl) rfl rfl ?_
      refine ux (fun B => s_indexON rfl rfl (by omega)) rfl rfl ?_
      refine ux (fun B => s_loadE 0 rfl rfl (by omega)) rfl rfl ?_
      refine ux (fun B => s_move rfl) rfl rfl ?_
      refine uxk (hfi ) rfl ⟨VT.le_refl _, VT.le_refl _, trivial⟩ rfl ?_
      refine ux (fun B => s_move rfl) rfl rfl ?_
      refine ux (fun B => s_move rfl) rfl rfl ?_
      refine ux (fun B => s_indexON rfl rfl (by omega)) rfl rfl ?_
      refine ux (fun B => s_loadE 0 rfl rfl (by omega)) rfl rfl ?_
      refine ux (fun B => s_move rfl) rfl rfl ?_
      refine ux (fun B => s_indexIN rfl rfl (by omega)) rfl rfl ?_
      refine ux (fun B => s_load rfl) rfl rfl ?_
      refine ua rfl ?_
      refine ux (fun B => s_assign rfl) rfl rfl ?_
      refine us rfl ?_
      refine RunU.nil (fun γ => ?_)
      refine PJ_normM (M' := [_, _, _, _, _]) rfl (pj_then (J_seq (J_seq (J_reg (st (s_assign rfl) rfl (Run.nil (pj_then (J_block (J_sub (Γ' := [(7, _), (9, _), (10, _), (11, _), (17, _), (18, _), (19, _), (20, _)]) (SubG.cons rfl (VT.le_refl _) (SubG.cons rfl (VT.le_refl _) (SubG.cons rfl (VT.le_refl _) (SubG.cons rfl (VT.le_refl _) (SubG.cons rfl (VT.le_refl _) (SubG.cons rfl (VT.le_refl _) (SubG.cons rfl (VT.le_refl _) (SubG.cons rfl (VT.le_refl _) (SubG.nil))))))))) (SubM.refl _) ?_)))))))))
      refine J_loopA (σ := Nat) (Γk := [(7, _), (9, _), (10, _), (11, _), (17, _), (18, _), (19, _)]) (SubG.cons rfl (VT.le_refl _) (SubG.cons rfl (VT.le_refl _) (SubG.cons rfl (VT.le_refl _) (SubG.cons rfl (VT.le_refl _) (SubG.cons rfl (VT.le_refl _) (SubG.cons rfl (VT.le_refl _) (SubG.cons rfl (VT.le_refl _) (SubG.nil)))))))) (fun t => [(20, one (.int .i64 (t : Nat)))]) (fun t M0 => (M0.set 0 (boxO (γ 19) 63 4 [(0, .agg 4, ratT (sumQ (B m) rows.length (xQ rows.length B rows Q.length d) rows (firstQ (B m) rows.length) t))]))) (fun t => t ≤ rows.length) (fun t => rows.length - t) (0) (Nat.zero_le _) (by repeat (first | exact SubG.refl _ | exact SubG.nil | refine SubG.cons rfl (VT.le_refl _) ?_ | (refine SubG.cons rfl (one_le ?_) ?_; (congr 1; first | omega | (simp; omega) | simp)))) (.keep (Own.le_refl _) (.keep (Own.le_refl _) (.keep (Own.le_refl _) (.keep (Own.le_refl _) (.keep (Own.le_refl _) (.nil)))))) (fun t ht => ?_)
      refine J_norm (Γ' := [(20, _), (7, _), (9, _), (10, _), (11, _), (17, _), (18, _), (19, _)]) (M' := [_, _, _, _, _]) rfl rfl ?_
      by_cases ht : t < rows.length
      · have htr := hrm t ht
        have hs1 : suB (newB α j) (xB (newB α j) rows.length d) (t + 1) ≤ 1099511627700 := by
          have := suB_mono (β := newB α j) (x := xB (newB α j) rows.length d) (show t + 1 ≤ rows.length from ht)
          omega
        have hs2 : suB (newB α j) (xB (newB α j) rows.length d) (t + 1) = suB (newB α j) (xB (newB α j) rows.length d) t + (newB α j + xB (newB α j) rows.length d) + 1 := rfl
        have hss : sumQ (B m) rows.length (xQ rows.length B rows Q.length d) rows (firstQ (B m) rows.length) (t + 1) = if t = firstQ (B m) rows.length then sumQ (B m) rows.length (xQ rows.length B rows Q.length d) rows (firstQ (B m) rows.length) t else sumQ (B m) rows.length (xQ rows.length B rows Q.length d) rows (firstQ (B m) rows.length) t - B m t * xQ rows.length B rows Q.length d (rows.getD t 0) := rfl
        by_cases hte : t = firstQ (B m) rows.length
        · rw [if_pos hte] at hss
          refine J_seq (J_seq (J_reg (st (s_move rfl) rfl (st (s_move rfl) rfl (st (sT (by omega) (s_lt rfl rfl)) rfl (Run.nil (pj_then (J_cond1 rfl (J_skip ?_)))))))))
          refine pj_then (J_seq (J_block (J_seq (J_reg (st (s_move rfl) rfl (st (s_move rfl) rfl (st (sF (by omega) (s_ne rfl rfl)) rfl (Run.nil (pj_then ?_)))))))))
          refine J_cond0 rfl (J_skip (pn_block (pj_then (J_reg (st (s_move rfl) rfl (st (s_addN _ 1 rfl rfl (by omega)) rfl (st (s_assign rfl) rfl (Run.nil ?_))))))))
          refine pj_roundM (t + 1) (ht) (by omega) (by repeat (first | exact SubG.refl _ | exact SubG.nil | refine SubG.cons rfl (VT.le_refl _) ?_ | (refine SubG.cons rfl (one_le ?_) ?_; (congr 1; first | omega | (simp; omega) | simp)))) (.keep (hss ▸ Own.le_refl _) (.keep (Own.le_refl _) (.keep (Own.le_refl _) (.keep (Own.le_refl _) (.keep (Own.le_refl _) (.nil))))))
        · rw [if_neg hte] at hss
          have hmul := rqMul_ok (B m t) (xQ rows.length B rows Q.length d (rows.getD t 0)) _ _ (hq t) (hxq _) (by omega)
          have hsub := rqSub_ok (sumQ (B m) rows.length (xQ rows.length B rows Q.length d) rows (firstQ (B m) rows.length) t) (B m t * xQ rows.length B rows Q.length d (rows.getD t 0)) _ _ (hsq t) (qz_mul (hq t) (hxq _)) (by omega)
          refine J_seq (J_seq (J_reg (st (s_move rfl) rfl (st (s_move rfl) rfl (st (sT (by omega) (s_lt rfl rfl)) rfl (Run.nil (pj_then (J_cond1 rfl (J_skip ?_)))))))))
          refine pj_then (J_seq (J_block (J_seq (J_reg (st (s_move rfl) rfl (st (s_move rfl) rfl (st (sT (by omega) (s_ne rfl rfl)) rfl (Run.nil (pj_then ?_)))))))))
          refine J_cond1 rfl (J_regd 17 mixed (by kernel_rfl) (by decide) (st (s_loadB 0 rfl rfl rfl) rfl (st (s_move rfl) rfl (st (s_move rfl) rfl (st (s_indexON rfl rfl (by omega)) rfl (st (s_loadE 1 rfl rfl (by omega)) rfl (st (s_move rfl) rfl (st (s_indexIN rfl rfl (by omega)) rfl (st (s_load rfl) rfl ?_)))))))))
          refine st (s_move rfl) rfl (st (s_move rfl) rfl (st (s_move rfl) rfl (st (s_indexIN rfl rfl (by omega)) rfl (st (s_load rfl) rfl (st (s_indexON rfl rfl (by omega)) rfl (st (s_loadE 2 rfl rfl (by omega)) rfl ?_))))))
          refine st (s_callk (hmul ) rfl ⟨VT.le_refl _, VT.le_refl _, trivial⟩) rfl ?_
          refine st (s_callk (hsub ) rfl ⟨VT.le_refl _, VT.le_refl _, trivial⟩) rfl ?_
          refine Run.nil (a_storeB 0 rfl rfl rfl rfl rfl (leN rfl) rfl (Run.nil (pn_block (pj_then (J_reg (st (s_move rfl) rfl (st (s_addN _ 1 rfl rfl (by omega)) rfl (st (s_assign rfl) rfl (Run.nil ?_)))))))))
          refine pj_roundM (t + 1) (ht) (by omega) (by repeat (first | exact SubG.refl _ | exact SubG.nil | refine SubG.cons rfl (VT.le_refl _) ?_ | (refine SubG.cons rfl (one_le ?_) ?_; (congr 1; first | omega | (simp; omega) | simp)))) (.keep (hss ▸ Own.le_refl _) (.keep (Own.le_refl _) (.keep (Own.le_refl _) (.keep (Own.le_refl _) (.keep (Own.le_refl _) (.nil))))))
      · have hte : t = rows.length := by omega
        subst hte
        have hov := rqOver_ok (sumQ (B m) rows.length (xQ rows.length B rows Q.length d) rows (firstQ (B m) rows.length) rows.length) (B m (firstQ (B m) rows.length)) _ _ (hsq _) (hq _) (by omega) hne
        refine J_seq (J_seq (J_reg (st (s_move rfl) rfl (st (s_move rfl) rfl (st (sF (by omega) (s_lt rfl rfl)) rfl (Run.nil (pj_then (J_cond0 rfl (J_exit ?_)))))))))
        refine px_then (px_then (px_block (pj_then (J_regd 14 mixed (by kernel_rfl) (by decide) (st (s_move rfl) rfl (st (s_move rfl) rfl (st (s_move rfl) rfl (st (s_indexIN rfl rfl (by omega)) rfl (st (s_load rfl) rfl ?_)))))))))
        refine st (s_loadB 0 rfl rfl rfl) rfl (st (s_move rfl) rfl (st (s_move rfl) rfl (st (s_indexON rfl rfl (by omega)) rfl (st (s_loadE 1 rfl rfl (by omega)) rfl (st (s_move rfl) rfl (st (s_indexIN rfl rfl (by omega)) rfl (st (s_load rfl) rfl ?_)))))))
        refine st (s_callk (hov ) rfl ⟨VT.le_refl _, VT.le_refl _, trivial⟩) rfl ?_
        refine Run.nil (st (s_indexON rfl rfl (by omega)) rfl ?_)
        (refine a_storeE 2 rfl rfl rfl ?_ rfl ?_; omega)
        refine Run.nil (pn_block (pj_then (J_reg (st (s_move rfl) rfl (st (s_sub rfl rfl (wrap_i64 (by omega) (by omega))) rfl (st (s_assign rfl) rfl (Run.nil ?_)))))))
        refine pj_roundM (d + 1) (hd) (by omega) (by repeat (first | exact SubG.refl _ | exact SubG.nil | refine SubG.cons rfl (VT.le_refl _) ?_ | (refine SubG.cons rfl (one_le ?_) ?_; (congr 1; first | omega | (simp; omega) | simp)))) (.drop (.keep (Own.le_refl _) (.keep (hst _ _ _) (.keep (Own.le_refl _) (.keep (Own.le_refl _) (.nil))))))
    · have hde : d = Q.length := by omega
      subst hde
      refine J_seq (J_seq (J_reg (st (s_move rfl) rfl (st (sF (by omega) (s_ge rfl rfl)) rfl (Run.nil (pj_then (J_cond0 rfl (J_exit (px_then ?_)))))))))
      refine px_then (px_block (pj_then (J_seq (J_reg (st (s_move rfl) rfl (st (s_assign rfl) rfl (st (s_assign rfl) rfl (st (s_assign rfl) rfl (Run.nil ?_)))))))))
      refine pj_then (J_ret (PJ_freeze (t := 4) (i := 1) rfl rfl ?_))
      refine retc3 Tryz.results14 (.tmp rfl (VT.le_refl _)) (.tmp rfl (nil_slT)) (.tmp rfl (VT.le_refl _))
end Tor
end
section
namespace Tor
open Go Go.RowKit Go.Proofs
theorem newL_eqS {r c : Nat} {F : Nat → Nat → Int} {b : Nat → Int} : Lin.newL c (r + 1 + c) (eqS r F b) r = Lin.newL c r (fun i j => F j i) r := by
  unfold Lin.newL
  refine List.filter_congr fun x hx => ?_
  have hx : x < r := List.mem_range.1 hx
  have key : Lin.isNew c (r + 1 + c) (eqS r F b) x ↔ Lin.isNew c r (fun i j => F j i) x := by
    unfold Lin.isNew
    refine not_congr ⟨fun ⟨y, y1, y2, y3⟩ => ⟨y, y1, y2, fun i hi => ?_⟩, fun ⟨y, y1, y2, y3⟩ => ⟨y, y1, y2, fun i hi => ?_⟩⟩
    · have h := y3 i hi
      rw [Nat.add_assoc, Lin.sm_app, Lin.sm_all0 (n := 1 + c) (fun k _ => by rw [y2 _ (by omega)]; exact Rat.zero_mul _)] at h
      rw [← h, Rat.add_zero]
      exact Lin.sm_congr fun k hk => by
        have : eqS r F b i k = F k i := by unfold eqS; rw [if_pos hk]
        rw [this]
    · have h := y3 i hi
      rw [Nat.add_assoc, Lin.sm_app, Lin.sm_all0 (n := 1 + c) (fun k _ => by rw [y2 _ (by omega)]; exact Rat.zero_mul _), Rat.add_zero, ← h]
      exact Lin.sm_congr fun k hk => by
        have : eqS r F b i k = F k i := by unfold eqS; rw [if_pos hk]
        rw [this]
  simp [key]
attribute [local irreducible] Tor.J Tor.PJ Tor.StepO Tor.one Tor.slT Tor.ptrT Tor.aggT Tor.tupT Tor.exT Tor.andT Tor.eP Tor.boxO Tor.sliO Tor.slV Tor.VT.le Tor.Ret Tor.anyT Tor.xO
attribute [local irreducible] bigT ratT rowF
end Tor
end
section
namespace Tor
open Go Go.RowKit Go.Proofs
theorem rdB4 {n : Nat} (h : n ≤ 4) : rdB 1 n ≤ 1099511627700 := Nat.le_trans (rdB_mono h) (by decide)
attribute [local irreducible] Tor.J Tor.PJ Tor.StepO Tor.one Tor.slT Tor.ptrT Tor.aggT Tor.tupT Tor.exT Tor.andT Tor.eP Tor.boxO Tor.sliO Tor.slV Tor.VT.le Tor.Ret Tor.anyT Tor.xO
attribute [local irreducible] bigT ratT rowF
end Tor
end
section
namespace Tor
open Go Go.RowKit Go.Proofs
theorem least_not {P : Nat → Prop} : ∀ {c : Nat}, (¬ ∀ j, j < c → P j) → ∃ b, b < c ∧ ¬ P b ∧ ∀ j, j < b → P j
  | 0, h => absurd (fun j hj => absurd hj (Nat.not_lt_zero _)) h
  | c + 1, h => by
    by_cases h1 : ∀ j, j < c → P j
    · refine ⟨c, Nat.lt_succ_self c, fun hc => h fun j hj => ?_, h1⟩
      by_cases e : j = c
      · exact e ▸ hc
      · exact h1 j (by omega)
    · obtain ⟨b, h2, h3, h4⟩ := least_not h1
      exact ⟨b, by omega, h3, h4⟩
theorem sol_only {r c : Nat} {F : Nat → Nat → Int} {x y : Nat → Rat} (hx : ∀ i, i ∉ Lin.newL c r (fun i j => F j i) r → x i = 0) (hy : ∀ i, i ∉ Lin.newL c r (fun i j => F j i) r → y i = 0)
    (h : ∀ j, j < c → Lin.sm r (fun i => x i * (F i j : Rat)) = Lin.sm r (fun i => y i * (F i j : Rat))) (i : Nat) : x i = y i := by
  by_cases hi : i ∈ Lin.newL c r (fun i j => F j i) r
  · have hk := Lin.new_indep (r := c) (w := r) (n := r) (F := fun i j => F j i) (Nat.le_refl r) (y := fun k => x ((Lin.newL c r (fun i j => F j i) r).getD k 0) - y ((Lin.newL c r (fun i j => F j i) r).getD k 0)) (fun j hj => by
      have e := sm_rows (r := r) (x := fun i => x i - y i) (g := fun i => (F i j : Rat)) (Lin.newL_sorted c r (fun i j => F j i) r) (fun i hi => (Lin.mem_newL.1 hi).1) (fun i hi => by rw [hx i hi, hy i hi]; grind)
      refine e.symm.trans ?_
      rw [Lin.sm_congr (g := fun i => x i * (F i j : Rat) - y i * (F i j : Rat)) (fun i _ => by grind), Lin.sm_sub, h j hj]
      grind)
    obtain ⟨p, hp, e⟩ := List.mem_iff_getElem.1 hi
    have e' : (Lin.newL c r (fun i j => F j i) r).getD p 0 = i := by simp [List.getD, hp, e]
    have := hk p hp
    rw [e'] at this
    grind
  · rw [hx i hi, hy i hi]
theorem newB4 {r : Nat} (h : r ≤ 5) : newB 1 r ≤ 1099511627700 := Nat.le_trans (newB_mono h) (by decide +kernel)
theorem xB4 : ∀ c, c ≤ 4 → ∀ n, n ≤ 4 → xB (newB 1 c) n (c + 1) ≤ 1099511627700 := by decide +kernel
theorem redB4 : ∀ k, k ≤ 4 → 2 * redB 1 (newB 1 k) k ≤ 1099511627700 := by decide +kernel
theorem solve_both (r c : Nat) (F : Nat → Nat → Int) (b : Nat → Int) (hr : r ≤ 4) (hc : c ≤ 4) (hF : ∀ i j, lz 1 (F i j)) (hb : ∀ j, lz 1 (b j)) :
    ∃ (f : Bool) (m k l : Nat) (u y z : Nat → Rat), Ok Tryz.prog 13 [matF r c F, rowF c b] (tupT [ratF m u, ratF k y, one (.bool f)]) ∧ Ok Tryz.prog 14 [matF r c F, rowF c b] (tupT [ratF m u, ratF l z, one (.bool f)]) ∧ m ≤ 4 := by
  obtain ⟨A, V, hE⟩ := Lin.elN_EL c (r + 1 + c) true (eqS r F b) r (by omega)
  have hsorted := Lin.newL_sorted c r (fun i j => F j i) r
  have hmem : ∀ i ∈ Lin.newL c r (fun i j => F j i) r, i < r := fun i hi => (Lin.mem_newL.1 hi).1
  have hlen : (Lin.newL c r (fun i j => F j i) r).length ≤ r := Lin.newL_le _ _ _ _
  have hget : ∀ i, i < (Lin.newL c r (fun i j => F j i) r).length → (Lin.newL c r (fun i j => F j i) r).getD i 0 < r := fun i hi => hmem _ (by simp [List.getD, hi])
  have hcons : ∀ x : Nat → Rat, (∀ i, i ∉ Lin.newL c r (fun i j => F j i) r → x i = 0) → (∀ j, j < c → Lin.sm r (fun i => x i * (F i j : Rat)) = (b j : Rat)) → ∀ j, j < c → consQ (Lin.newL c r (fun i j => F j i) r).length (linQ (Lin.newL c r (fun i j => F j i) r).length c F b (Lin.newL c r (fun i j => F j i) r)) j := fun x h0 hx j hj => cons_of (x := fun p => x ((Lin.newL c r (fun i j => F j i) r).getD p 0)) (fun j hj => by
    rw [← hx j hj]
    exact (sm_rows (x := x) (g := fun i => (F i j : Rat)) hsorted hmem h0).symm) hj
  have hso := fun p jb hp hjb => r8Solve_ok p jb r c F b 1 (Lin.newL c r (fun i j => F j i) r) (newQ_newL (Nat.le_refl r)) (by omega) (by omega) (by decide) hF hb (newB4 (by omega)) (newB4 (by omega)) (xB4 c hc _ (by omega)) (fun k hk => redB4 k (by omega)) hlen hget hp hjb
  cases h0 : firstP (elN c true (eqS r F b) r).R r (elN c true (eqS r F b) r).piv.length c with
  | some q =>
    have h1 := SolveY_ok r c F b 1 (by omega) (by omega) (elim04 hc) hF hb h0
    obtain ⟨hy1, hy2⟩ := hE.alt h0
    have hnot : ¬ ∀ j, j < c → consQ (Lin.newL c r (fun i j => F j i) r).length (linQ (Lin.newL c r (fun i j => F j i) r).length c F b (Lin.newL c r (fun i j => F j i) r)) j := fun hall => by
      have hX := fun j hj => xQ_all (b := b) hsorted hmem hall (j := j) hj
      generalize (fun k => Rat.divInt ((elN c true (eqS r F b) r).R q (r + 1 + k)) ((elN c true (eqS r F b) r).R q r)) = y at *
      generalize xQ _ _ _ _ _ = X at hX
      have e : Lin.sm c (fun k => (b k : Rat) * Rat.divInt ((elN c true (eqS r F b) r).R q (r + 1 + k)) ((elN c true (eqS r F b) r).R q r)) = 0 := by
        rw [Lin.sm_congr (g := fun k => Lin.sm r (fun i => X i * (Rat.divInt ((elN c true (eqS r F b) r).R q (r + 1 + k)) ((elN c true (eqS r F b) r).R q r) * (F i k : Rat)))) (fun k hk => by
          rw [← hX k hk, ← Lin.sm_mulr]; exact Lin.sm_congr fun i _ => by grind), Lin.sm_swap]
        refine Lin.sm_all0 fun i hi => ?_
        rw [Lin.sm_congr (g := fun k => (Rat.divInt ((elN c true (eqS r F b) r).R q (r + 1 + k)) ((elN c true (eqS r F b) r).R q r) * (F i k : Rat)) * X i) (fun k _ => by grind), Lin.sm_mulr, hy1 i hi, Rat.zero_mul]
      rw [e] at hy2
      exact absurd hy2 (by decide)
    obtain ⟨jb, hb1, hb2, hb3⟩ := least_not hnot
    have h2 := hso false jb ⟨fun h => (by cases h), fun h => absurd h hnot⟩ (fun j hj hn => ⟨by
      rcases Nat.lt_or_ge j jb with h | h
      · exact absurd (hb3 j h) hn
      · exact h, hb2⟩)
    rw [if_neg (by simp)] at h2
    exact ⟨false, 0, c, c, _, _, _, h1, h2, by omega⟩
  | none =>
    have h1 := SolveN_ok r c F b 1 (by omega) (by omega) (elim04 hc) hF hb h0
    have hsol := fun j (hj : j < c) => hE.solves h0 hj
    have hout : ∀ i, i ∉ Lin.newL c r (fun i j => F j i) r → xsN (elN c true (eqS r F b) r) r (elN c true (eqS r F b) r).piv.length i = 0 := fun i hi => Lin.xs_new hE (by rw [newL_eqS]; exact hi)
    have hall := hcons _ hout hsol
    have h2 := hso true 0 ⟨fun _ => hall, fun _ => rfl⟩ (fun j hj hn => absurd (hall j hj) hn)
    rw [if_pos rfl] at h2
    have hI := basQ_I (Lin.newL c r (fun i j => F j i) r).length (linQ (Lin.newL c r (fun i j => F j i) r).length c F b (Lin.newL c r (fun i j => F j i) r)) c
    have hX := fun j hj => xQ_all (b := b) hsorted hmem hall (j := j) hj
    refine ⟨true, r, 0, 0, _, _, _, h1, h2.le ⟨VT.le_refl _, VT.le_refl _, trivial⟩ (tup3_le (ratF_le fun i hi => ?_) (VT.le_refl _)), by omega⟩
    exact sol_only (F := F) (fun i hi => xQ_out rfl hI.ech.1 hi _ (Nat.le_refl _)) hout (fun j hj => by rw [hX j hj, hsol j hj]) i
attribute [local irreducible] Tor.J Tor.PJ Tor.StepO Tor.one Tor.slT Tor.ptrT Tor.aggT Tor.tupT Tor.exT Tor.andT Tor.eP Tor.boxO Tor.sliO Tor.slV Tor.VT.le Tor.Ret Tor.anyT Tor.xO
attribute [local irreducible] bigT ratT rowF ratF
set_option maxRecDepth 100000 in
set_option maxHeartbeats 8000000 in
theorem matchesLaw_ok (r c : Nat) (l : List Int) (r' c' : Nat) (l' v : List Int) : Ok Tryz.prog 3 [rawInT r c l, rawInT r' c' l', numT .i8 v] (one (.bool true)) := by
  have hmk := rMade5_ok r c l
  have hsq := rSquare_ok r' c' l'
  have hr : r % 5 ≤ 4 := by omega
  have hc : c % 5 ≤ 4 := by omega
  have hn : r' % 5 ≤ 4 := by omega
  generalize hF : (fun i j => dig l (i * (c % 5) + j)) = F at *
  generalize hG : (fun i j => dig l' (i * (r' % 5) + j)) = G at *
  have lF : ∀ i j, lz 1 (F i j) := fun i j => by rw [← hF]; exact lz_dig _ _
  have lG : ∀ i j, lz 1 (G i j) := fun i j => by rw [← hG]; exact lz_dig _ _
  generalize r % 5 = r at *
  generalize c % 5 = c at *
  generalize r' % 5 = n at *
  have hve := rVector_ok v c (by omega)
  have hsan := sanity_ok
  have hrk := Rank_ok r c F 1 (by omega) (by omega) (elim04 hr) (elim04 hc) lF
  have hrr : Ok Tryz.prog 12 [matF r c F] (tupT [pivT (Lin.newL c r (fun i j => F j i) r), pivT (Lin.newL r c F c)]) := by
    have h := r8Rank_ok r c F 1 (by omega) (by omega) (by decide) lF (newB4 (by omega)) (newB4 (by omega))
    rw [newQ_newL (Nat.le_refl r), newQ_newL (Nat.le_refl c)] at h
    exact h
  obtain ⟨f, m, k, k', u, y, z, hs1, hs2, hm4⟩ := solve_both r c F (dig v) hr hc lF (fun j => lz_dig v j)
  have hli := rqListF_ok m m u u (by omega)
  rw [decide_eq_true ⟨rfl, fun _ _ => rfl⟩] at hli
  have hle := Lin.newL_le r c F c
  have hle' := Lin.newL_le c r (fun i j => F j i) r
  have hi1 := r8Ints_ok (Lin.newL r c F c).length (Lin.newL r c F c).length (fun q => (((Lin.newL r c F c).getD q 0 : Nat) : Int)) (fun q => (((Lin.newL r c F c).getD q 0 : Nat) : Int)) (by omega)
  rw [decide_eq_true ⟨rfl, fun _ _ => rfl⟩] at hi1
  have hi2 := r8Ints_ok (Lin.newL c r (fun i j => F j i) r).length (Lin.newL c r (fun i j => F j i) r).length (fun q => (((Lin.newL c r (fun i j => F j i) r).getD q 0 : Nat) : Int)) (fun q => (((Lin.newL c r (fun i j => F j i) r).getD q 0 : Nat) : Int)) (by omega)
  rw [decide_eq_true ⟨rfl, fun _ _ => rfl⟩] at hi2
  have hd1 := Det_ok n G 1 (by omega) (elim04 hn) lG
  have hd2 := r8Det_ok n G 1 (by omega) (by decide) lG (rdB4 hn)
  have hsm := rSame_ok (Lin.detZ n G) (Lin.detZ n G)
  rw [decide_eq_true rfl] at hsm
  have ha1 : Ok Tryz.prog 19 [matF n n G] (tupT [matF n n (fun i j => cof n G j i), one (.int .i64 0)]) := (Adjugate_ok n G 1 (by omega) (elim04 hn) lG).le ⟨VT.le_refl _, trivial⟩ (tup2_le (matF_le fun i j hi hj => adj_all hi hj))
  have ha2 := r8Adjugate_ok n G 1 (by omega) (elim04 hn) lG (rdB4 hn)
  have hsa := same_self n n (fun i j => cof n G j i) (by omega)
  have hda : r = c → Ok Tryz.prog 17 [matF r c F] (tupT [bigT (Lin.detZ r F), one (.int .i64 0)]) := fun e => by
    subst e; exact Det_ok r F 1 (by omega) (elim04 hr) lF
  have haa : r = c → Ok Tryz.prog 19 [matF r c F] (tupT [matF r r (adjE r F (elN r true (wideF r F) r)), one (.int .i64 0)]) := fun e => by
    subst e; exact Adjugate_ok r F 1 (by omega) (elim04 hr) lF
  have hdb := fun h => DetS_ok r c F h
  have hab := fun h => AdjugateS_ok r c F h
  generalize Lin.newL c r (fun i j => F j i) r = rows at *
  generalize Lin.newL r c F c = cols at *
  generalize Lin.detZ n G = d at *
  generalize Lin.detZ r F = d' at *
  generalize (fun i j => cof n G j i) = H at *
  generalize adjE r F (elN r true (wideF r F) r) = H' at *
  unfold matF pivT pivF at *
  refine Ok.enter Tryz.func3 rfl Tryz.ntmps3 rfl (fun w O => ?_)
  by_cases hrc : r = c
  · have h1 := hda hrc
    have h2 := haa hrc
    clear hdb hab hda haa
    refine J_seq (J_reg ?_)
    refine a_boxS rfl rfl (ltN rfl) (fun b3 => ?_)
    refine a_boxS rfl rfl (ltN rfl) (fun b4 => ?_)
    refine st (s_assign rfl) rfl (Run.nil (pj_then (J_seq (J_reg (st (s_callk (hsan ) rfl trivial) rfl (st (s_assign rfl) rfl (Run.nil (pj_then (J_seq ?_)))))))))
    refine J_regU2 mixed (by kernel_rfl) (by kernel_rfl) ?_
    refine ux (fun B => s_loadW 1 rfl rfl) rfl rfl ?_
    refine uxk (hmk ) rfl ⟨VT.le_refl _, trivial⟩ rfl ?_
    refine ux (fun B => s_loadW 0 rfl rfl) rfl rfl ?_
    refine uxk (hsq ) rfl ⟨VT.le_refl _, trivial⟩ rfl ?_
    refine ua rfl (ua rfl (us rfl (us rfl ?_)))
    refine RunU.nil (fun γ => ?_)
    refine PJ_normM (M' := [_, _, _, _]) rfl (PJ_sub (SubG.refl _) (.keep box_flat (.keep box_flat (SubM.refl _))) (pj_then (J_seq (J_reg (st (s_move rfl) rfl (st (s_fieldAddr rfl) rfl (st (s_loadB 1 rfl rfl rfl) rfl ?_)))))))
    refine st (s_callk (hve ) rfl ⟨VT.le_refl _, VT.le_refl _, trivial⟩) rfl ?_
    refine st (s_assign rfl) rfl (Run.nil (pj_then (J_seq (J_reg (st (s_loadW 1 rfl rfl) rfl ?_)))))
    refine st (s_callk (hrk ) rfl ⟨VT.le_refl _, trivial⟩) rfl ?_
    refine st (s_move rfl) rfl (st (s_extract rfl rfl) rfl (st (s_extract rfl rfl) rfl (st (s_assign rfl) rfl (st (s_assign rfl) rfl (Run.nil (pj_then (J_seq (J_reg (st (s_loadW 1 rfl rfl) rfl ?_)))))))))
    refine st (s_callk (hrr ) rfl ⟨VT.le_refl _, trivial⟩) rfl ?_
    refine st (s_move rfl) rfl (st (s_extract rfl rfl) rfl (st (s_extract rfl rfl) rfl (st (s_assign rfl) rfl (st (s_assign rfl) rfl (Run.nil (pj_then (J_seq (J_reg (st (s_loadW 1 rfl rfl) rfl ?_)))))))))
    refine st (s_move rfl) rfl ?_
    refine st (s_callk (hs1 ) rfl ⟨VT.le_refl _, VT.le_refl _, trivial⟩) rfl ?_
    refine st (s_move rfl) rfl (st (s_extract rfl rfl) rfl (st (s_extract rfl rfl) rfl (st (s_extract rfl rfl) rfl (st (s_assign rfl) rfl (st (s_assign rfl) rfl (st (s_assign rfl) rfl (Run.nil (pj_then (J_seq ?_)))))))))
    refine J_reg (st (s_loadW 1 rfl rfl) rfl (st (s_move rfl) rfl ?_))
    refine st (s_callk (hs2 ) rfl ⟨VT.le_refl _, VT.le_refl _, trivial⟩) rfl ?_
    refine st (s_move rfl) rfl (st (s_extract rfl rfl) rfl (st (s_extract rfl rfl) rfl (st (s_extract rfl rfl) rfl (st (s_assign rfl) rfl (st (s_assign rfl) rfl (st (s_assign rfl) rfl (Run.nil (pj_then (J_seq ?_)))))))))
    refine J_seq (J_reg (st (s_move rfl) rfl (st (s_move rfl) rfl ?_)))
    refine st (s_callk (hi2 ) rfl ⟨VT.le_refl _, VT.le_refl _, trivial⟩) rfl ?_
    refine st (s_not rfl) rfl (st (s_move rfl) rfl (sg1 rfl rfl (s_move rfl) rfl (sg1 rfl rfl (s_move rfl) rfl ?_)))
    refine sg1 rfl rfl (s_callk (hi1 ) rfl ⟨VT.le_refl _, VT.le_refl _, trivial⟩) rfl ?_
    refine sg1 rfl rfl (s_not rfl) rfl (st (s_pickF rfl rfl) rfl (st (s_move rfl) rfl (sg1 rfl rfl (s_move rfl) rfl (sg1 rfl rfl (s_move rfl) rfl ?_))))
    refine sg1 rfl rfl (sBf (by (cases f <;> rfl)) (s_neB rfl rfl)) rfl ?_
    refine st (s_pickF rfl rfl) rfl (st (s_move rfl) rfl (sg1 rfl rfl (s_move rfl) rfl (sg1 rfl rfl (s_move rfl) rfl ?_)))
    refine sg1 rfl rfl (s_callk (hli ) rfl ⟨VT.le_refl _, VT.le_refl _, trivial⟩) rfl ?_
    refine sg1 rfl rfl (s_not rfl) rfl (st (s_pickF rfl rfl) rfl (Run.nil (pj_then (J_cond0 rfl (J_skip (pj_then (J_seq (J_reg (st (s_loadW 0 rfl rfl) rfl ?_)))))))))
    refine st (s_callk (hd1 ) rfl ⟨VT.le_refl _, trivial⟩) rfl ?_
    refine st (s_move rfl) rfl (st (s_extract rfl rfl) rfl (st (s_extract rfl rfl) rfl ?_))
    refine a_alloc (T := 43) rfl (ltN rfl) (fun b21 => ?_)
    refine a_storeB 0 rfl rfl rfl rfl rfl (leN rfl) rfl (st (s_assign rfl) rfl (Run.nil (pj_then (J_seq (J_reg (st (s_loadW 1 rfl rfl) rfl ?_))))))
    refine st (s_callk (hd2 ) rfl ⟨VT.le_refl _, trivial⟩) rfl ?_
    refine st (s_move rfl) rfl (st (s_extract rfl rfl) rfl (st (s_extract rfl rfl) rfl ?_))
    refine a_alloc (T := 43) rfl (ltN rfl) (fun b23 => ?_)
    refine a_storeB 0 rfl rfl rfl rfl rfl (leN rfl) rfl (st (s_assign rfl) rfl (Run.nil (pj_then (J_seq (J_reg (st (s_loadW 2 rfl rfl) rfl ?_))))))
    refine st (s_callk (ha1 ) rfl ⟨VT.le_refl _, trivial⟩) rfl ?_
    refine st (s_move rfl) rfl (st (s_extract rfl rfl) rfl (st (s_extract rfl rfl) rfl ?_))
    refine a_allocS (T := 28) rfl rfl rfl (fun b25 => ?_)
    refine a_storeW 0 rfl rfl rfl rfl (st (s_assign rfl) rfl (Run.nil (pj_then (J_seq (J_reg (st (s_loadW 3 rfl rfl) rfl ?_))))))
    refine st (s_callk (ha2 ) rfl ⟨VT.le_refl _, trivial⟩) rfl ?_
    refine st (s_move rfl) rfl (st (s_extract rfl rfl) rfl (st (s_extract rfl rfl) rfl ?_))
    refine a_allocS (T := 28) rfl rfl rfl (fun b27 => ?_)
    refine a_storeW 0 rfl rfl rfl rfl (st (s_assign rfl) rfl (Run.nil (pj_then (J_seq (J_reg (st (s_loadW 5 rfl rfl) rfl ?_))))))
    refine st (s_callk (h1 ) rfl ⟨VT.le_refl _, trivial⟩) rfl ?_
    refine st (s_move rfl) rfl (st (s_extract rfl rfl) rfl (st (s_extract rfl rfl) rfl ?_))
    refine a_alloc (T := 43) rfl (ltN rfl) (fun b29 => ?_)
    refine a_storeB 0 rfl rfl rfl rfl rfl (leN rfl) rfl (st (s_assign rfl) rfl (Run.nil (pj_then (J_seq (J_reg (st (s_loadW 6 rfl rfl) rfl ?_))))))
    refine st (s_callk (h2 ) rfl ⟨VT.le_refl _, trivial⟩) rfl ?_
    refine st (s_move rfl) rfl (st (s_extract rfl rfl) rfl (st (s_extract rfl rfl) rfl ?_))
    refine a_allocS (T := 28) rfl rfl rfl (fun b31 => ?_)
    refine a_storeW 0 rfl rfl rfl rfl (st (s_assign rfl) rfl (Run.nil (pj_then (J_seq (J_reg (st (s_fieldAddr rfl) rfl (st (s_loadB 7 rfl rfl rfl) rfl (st (s_fieldAddr rfl) rfl (st (s_loadB 7 rfl rfl rfl) rfl ?_)))))))))
    refine st (sT (by omega) (s_eq rfl rfl)) rfl (st (s_assign rfl) rfl (Run.nil (pj_then (J_seq (J_reg (st (s_move rfl) rfl (st (s_move rfl) rfl ?_)))))))
    refine st (sT (by (cases f <;> rfl)) (s_eq rfl rfl)) rfl ?_
    refine st (s_move rfl) rfl (sg1 rfl rfl (s_loadB 5 rfl rfl rfl) rfl (sg1 rfl rfl (s_loadB 4 rfl rfl rfl) rfl ?_))
    refine sg1 rfl rfl (s_callk (hsm ) rfl ⟨VT.le_refl _, VT.le_refl _, trivial⟩) rfl ?_
    refine st (s_pickT rfl rfl) rfl (st (s_move rfl) rfl (sg1 rfl rfl (s_move rfl) rfl (sg1 rfl rfl (s_move rfl) rfl ?_)))
    refine sg1 rfl rfl (sT (by (cases f <;> rfl)) (s_eq rfl rfl)) rfl ?_
    refine st (s_pickT rfl rfl) rfl (st (s_move rfl) rfl (sg1 rfl rfl (s_loadW 3 rfl rfl) rfl (sg1 rfl rfl (s_loadW 2 rfl rfl) rfl ?_)))
    refine sg1 rfl rfl (s_callk (hsa ) rfl ⟨VT.le_refl _, VT.le_refl _, trivial⟩) rfl ?_
    refine st (s_pickT rfl rfl) rfl (st (s_move rfl) rfl (sg1 rfl rfl (s_move rfl) rfl (sg1 rfl rfl (sF (by omega) (s_eq rfl rfl)) rfl (sg1 rfl rfl (s_move rfl) rfl (sg1 rfl rfl (s_not rfl) rfl (sg1 rfl rfl (s_eqB rfl rfl) rfl (st (s_pickT rfl rfl) rfl (st (s_move rfl) rfl (sg1 rfl rfl (s_move rfl) rfl ?_)))))))))
    refine sg1 rfl rfl (sF (by omega) (s_eq rfl rfl)) rfl (sg1 rfl rfl (s_move rfl) rfl (sg1 rfl rfl (s_not rfl) rfl (sg1 rfl rfl (s_eqB rfl rfl) rfl (st (s_pickT rfl rfl) rfl (st (s_move rfl) rfl (sg1 rfl rfl (s_move rfl) rfl (st (s_pickT rfl rfl) rfl (st (s_assign rfl) rfl (Run.nil ?_)))))))))
    refine pj_then (J_ret ?_)
    refine retc1 Tryz.results3 (.tmp rfl (VT.le_refl _))
  · have h1 := hdb hrc
    have h2 := hab hrc
    clear hdb hab hda haa
    refine J_seq (J_reg ?_)
    refine a_boxS rfl rfl (ltN rfl) (fun b3 => ?_)
    refine a_boxS rfl rfl (ltN rfl) (fun b4 => ?_)
    refine st (s_assign rfl) rfl (Run.nil (pj_then (J_seq (J_reg (st (s_callk (hsan ) rfl trivial) rfl (st (s_assign rfl) rfl (Run.nil (pj_then (J_seq ?_)))))))))
    refine J_regU2 mixed (by kernel_rfl) (by kernel_rfl) ?_
    refine ux (fun B => s_loadW 1 rfl rfl) rfl rfl ?_
    refine uxk (hmk ) rfl ⟨VT.le_refl _, trivial⟩ rfl ?_
    refine ux (fun B => s_loadW 0 rfl rfl) rfl rfl ?_
    refine uxk (hsq ) rfl ⟨VT.le_refl _, trivial⟩ rfl ?_
    refine ua rfl (ua rfl (us rfl (us rfl ?_)))
    refine RunU.nil (fun γ => ?_)
    refine PJ_normM (M' := [_, _, _, _]) rfl (PJ_sub (SubG.refl _) (.keep box_flat (.keep box_flat (SubM.refl _))) (pj_then (J_seq (J_reg (st (s_move rfl) rfl (st (s_fieldAddr rfl) rfl (st (s_loadB 1 rfl rfl rfl) rfl ?_)))))))
    refine st (s_callk (hve ) rfl ⟨VT.le_refl _, VT.le_refl _, trivial⟩) rfl ?_
    refine st (s_assign rfl) rfl (Run.nil (pj_then (J_seq (J_reg (st (s_loadW 1 rfl rfl) rfl ?_)))))
    refine st (s_callk (hrk ) rfl ⟨VT.le_refl _, trivial⟩) rfl ?_
    refine st (s_move rfl) rfl (st (s_extract rfl rfl) rfl (st (s_extract rfl rfl) rfl (st (s_assign rfl) rfl (st (s_assign rfl) rfl (Run.nil (pj_then (J_seq (J_reg (st (s_loadW 1 rfl rfl) rfl ?_)))))))))
    refine st (s_callk (hrr ) rfl ⟨VT.le_refl _, trivial⟩) rfl ?_
    refine st (s_move rfl) rfl (st (s_extract rfl rfl) rfl (st (s_extract rfl rfl) rfl (st (s_assign rfl) rfl (st (s_assign rfl) rfl (Run.nil (pj_then (J_seq (J_reg (st (s_loadW 1 rfl rfl) rfl ?_)))))))))
    refine st (s_move rfl) rfl ?_
    refine st (s_callk (hs1 ) rfl ⟨VT.le_refl _, VT.le_refl _, trivial⟩) rfl ?_
    refine st (s_move rfl) rfl (st (s_extract rfl rfl) rfl (st (s_extract rfl rfl) rfl (st (s_extract rfl rfl) rfl (st (s_assign rfl) rfl (st (s_assign rfl) rfl (st (s_assign rfl) rfl (Run.nil (pj_then (J_seq ?_)))))))))
    refine J_reg (st (s_loadW 1 rfl rfl) rfl (st (s_move rfl) rfl ?_))
    refine st (s_callk (hs2 ) rfl ⟨VT.le_refl _, VT.le_refl _, trivial⟩) rfl ?_
    refine st (s_move rfl) rfl (st (s_extract rfl rfl) rfl (st (s_extract rfl rfl) rfl (st (s_extract rfl rfl) rfl (st (s_assign rfl) rfl (st (s_assign rfl) rfl (st (s_assign rfl) rfl (Run.nil (pj_then (J_seq ?_)))))))))
    refine J_seq (J_reg (st (s_move rfl) rfl (st (s_move rfl) rfl ?_)))
    refine st (s_callk (hi2 ) rfl ⟨VT.le_refl _, VT.le_refl _, trivial⟩) rfl ?_
    refine st (s_not rfl) rfl (st (s_move rfl) rfl (sg1 rfl rfl (s_move rfl) rfl (sg1 rfl rfl (s_move rfl) rfl ?_)))
    refine sg1 rfl rfl (s_callk (hi1 ) rfl ⟨VT.le_refl _, VT.le_refl _, trivial⟩) rfl ?_
    refine sg1 rfl rfl (s_not rfl) rfl (st (s_pickF rfl rfl) rfl (st (s_move rfl) rfl (sg1 rfl rfl (s_move rfl) rfl (sg1 rfl rfl (s_move rfl) rfl ?_))))
    refine sg1 rfl rfl (sBf (by (cases f <;> rfl)) (s_neB rfl rfl)) rfl ?_
    refine st (s_pickF rfl rfl) rfl (st (s_move rfl) rfl (sg1 rfl rfl (s_move rfl) rfl (sg1 rfl rfl (s_move rfl) rfl ?_)))
    refine sg1 rfl rfl (s_callk (hli ) rfl ⟨VT.le_refl _, VT.le_refl _, trivial⟩) rfl ?_
    refine sg1 rfl rfl (s_not rfl) rfl (st (s_pickF rfl rfl) rfl (Run.nil (pj_then (J_cond0 rfl (J_skip (pj_then (J_seq (J_reg (st (s_loadW 0 rfl rfl) rfl ?_)))))))))
    refine st (s_callk (hd1 ) rfl ⟨VT.le_refl _, trivial⟩) rfl ?_
    refine st (s_move rfl) rfl (st (s_extract rfl rfl) rfl (st (s_extract rfl rfl) rfl ?_))
    refine a_alloc (T := 43) rfl (ltN rfl) (fun b21 => ?_)
    refine a_storeB 0 rfl rfl rfl rfl rfl (leN rfl) rfl (st (s_assign rfl) rfl (Run.nil (pj_then (J_seq (J_reg (st (s_loadW 1 rfl rfl) rfl ?_))))))
    refine st (s_callk (hd2 ) rfl ⟨VT.le_refl _, trivial⟩) rfl ?_
    refine st (s_move rfl) rfl (st (s_extract rfl rfl) rfl (st (s_extract rfl rfl) rfl ?_))
    refine a_alloc (T := 43) rfl (ltN rfl) (fun b23 => ?_)
    refine a_storeB 0 rfl rfl rfl rfl rfl (leN rfl) rfl (st (s_assign rfl) rfl (Run.nil (pj_then (J_seq (J_reg (st (s_loadW 2 rfl rfl) rfl ?_))))))
    refine st (s_callk (ha1 ) rfl ⟨VT.le_refl _, trivial⟩) rfl ?_
    refine st (s_move rfl) rfl (st (s_extract rfl rfl) rfl (st (s_extract rfl rfl) rfl ?_))
    refine a_allocS (T := 28) rfl rfl rfl (fun b25 => ?_)
    refine a_storeW 0 rfl rfl rfl rfl (st (s_assign rfl) rfl (Run.nil (pj_then (J_seq (J_reg (st (s_loadW 3 rfl rfl) rfl ?_))))))
    refine st (s_callk (ha2 ) rfl ⟨VT.le_refl _, trivial⟩) rfl ?_
    refine st (s_move rfl) rfl (st (s_extract rfl rfl) rfl (st (s_extract rfl rfl) rfl ?_))
    refine a_allocS (T := 28) rfl rfl rfl (fun b27 => ?_)
    refine a_storeW 0 rfl rfl rfl rfl (st (s_assign rfl) rfl (Run.nil (pj_then (J_seq (J_reg (st (s_loadW 5 rfl rfl) rfl ?_))))))
    refine st (s_callk (h1 ) rfl ⟨VT.le_refl _, trivial⟩) rfl ?_
    refine st (s_move rfl) rfl (st (s_extract rfl rfl) rfl (st (s_extract rfl rfl) rfl ?_))
    refine a_alloc (T := 43) rfl (ltN rfl) (fun b29 => ?_)
    refine a_storeB 0 rfl rfl rfl rfl rfl (leN rfl) rfl (st (s_assign rfl) rfl (Run.nil (pj_then (J_seq (J_reg (st (s_loadW 6 rfl rfl) rfl ?_))))))
    refine st (s_callk (h2 ) rfl ⟨VT.le_refl _, trivial⟩) rfl ?_
    refine st (s_move rfl) rfl (st (s_extract rfl rfl) rfl (st (s_extract rfl rfl) rfl ?_))
    refine a_allocS (T := 28) rfl rfl rfl (fun b31 => ?_)
    refine a_storeW 0 rfl rfl rfl rfl (st (s_assign rfl) rfl (Run.nil (pj_then (J_seq (J_reg (st (s_fieldAddr rfl) rfl (st (s_loadB 7 rfl rfl rfl) rfl (st (s_fieldAddr rfl) rfl (st (s_loadB 7 rfl rfl rfl) rfl ?_)))))))))
    refine st (sF (by omega) (s_eq rfl rfl)) rfl (st (s_assign rfl) rfl (Run.nil (pj_then (J_seq (J_reg (st (s_move rfl) rfl (st (s_move rfl) rfl ?_)))))))
    refine st (sT (by (cases f <;> rfl)) (s_eq rfl rfl)) rfl ?_
    refine st (s_move rfl) rfl (sg1 rfl rfl (s_loadB 5 rfl rfl rfl) rfl (sg1 rfl rfl (s_loadB 4 rfl rfl rfl) rfl ?_))
    refine sg1 rfl rfl (s_callk (hsm ) rfl ⟨VT.le_refl _, VT.le_refl _, trivial⟩) rfl ?_
    refine st (s_pickT rfl rfl) rfl (st (s_move rfl) rfl (sg1 rfl rfl (s_move rfl) rfl (sg1 rfl rfl (s_move rfl) rfl ?_)))
    refine sg1 rfl rfl (sT (by (cases f <;> rfl)) (s_eq rfl rfl)) rfl ?_
    refine st (s_pickT rfl rfl) rfl (st (s_move rfl) rfl (sg1 rfl rfl (s_loadW 3 rfl rfl) rfl (sg1 rfl rfl (s_loadW 2 rfl rfl) rfl ?_)))
    refine sg1 rfl rfl (s_callk (hsa ) rfl ⟨VT.le_refl _, VT.le_refl _, trivial⟩) rfl ?_
    refine st (s_pickT rfl rfl) rfl (st (s_move rfl) rfl (sg1 rfl rfl (s_move rfl) rfl ?_))
    refine sg1 rfl rfl (sT (by (cases f <;> rfl)) (s_eq rfl rfl)) rfl ?_
    refine sg1 rfl rfl (s_move rfl) rfl (sg1 rfl rfl (s_not rfl) rfl (sg1 rfl rfl (s_eqB rfl rfl) rfl (st (s_pickT rfl rfl) rfl (st (s_move rfl) rfl (sg1 rfl rfl (s_move rfl) rfl ?_)))))
    refine sg1 rfl rfl (sT (by (cases f <;> rfl)) (s_eq rfl rfl)) rfl ?_
    refine sg1 rfl rfl (s_move rfl) rfl (sg1 rfl rfl (s_not rfl) rfl (sg1 rfl rfl (s_eqB rfl rfl) rfl (st (s_pickT rfl rfl) rfl (st (s_move rfl) rfl (sg1 rfl rfl (s_move rfl) rfl (st (s_pickT rfl rfl) rfl (st (s_assign rfl) rfl (Run.nil (pj_then ?_)))))))))
    refine J_ret ?_
    refine retc1 Tryz.results3 (.tmp rfl (VT.le_refl _))
end Tor
end
section
set_option maxRecDepth 100000
namespace Tor
open Go Go.RowKit Go.ChangeShapes Go.WideShapes Go.ChangeAt Go.Joins Go.Proofs
theorem rd_raw {H : Type} {enc : TypeId × Value → H} {W : World} {base : Nat} {v : Value} {d : DataW H} {ps : List MemPlace} (hval : Value.okWide Tryz.prog W .any base 24 v) (hT : DataW.Trod enc Tryz.prog W 0 (fun _ => true) true 24 v d ps) (hw : ∀ x ∈ DataW.weights Tryz.prog 24 d, x ≤ reachBytes) :
    ∃ (r : Nat) (c : Nat) (l : List Int), (rawInT r c l).p v (view W) ∧ (r : Int) ≤ IntKind.max .u8 ∧ (c : Int) ≤ IntKind.max .u8 ∧ (∀ x ∈ l, IntKind.min .i8 ≤ x ∧ x ≤ IntKind.max .i8) ∧ True := by
  obtain ⟨cs, rfl, h⟩ := arg_agg 8 (ts := [5, 5, 22]) (by kernel_rfl) (.inl ⟨_, Tryz.underlying24⟩) hval hT hw
  obtain ⟨c0, r0, rfl, h0, g0⟩ := h
  obtain ⟨c1, r1, rfl, h1, g1⟩ := g0
  obtain ⟨c2, r2, rfl, h2, g2⟩ := g1
  cases g2
  obtain ⟨r, rfl, b0⟩ := leaf_nat Tryz.underlying5 rfl h0
  obtain ⟨c, rfl, b1⟩ := leaf_nat Tryz.underlying5 rfl h1
  obtain ⟨l, k2, b2⟩ := leaf_nums Tryz.underlying22 Tryz.underlying113 (by kernel_rfl) (of_decide_eq_true (by kernel_rfl)) h2
  exact ⟨r, c, l, agg_p (φs := [one (.int .u8 r), one (.int .u8 c), numT .i8 l]) ⟨rfl, rfl, ⟨rfl, rfl, ⟨k2, slT_one k2, trivial⟩⟩⟩, b0, b1, b2, trivial⟩
theorem rd_d8 {H : Type} {enc : TypeId × Value → H} {W : World} {base : Nat} {v : Value} {d : DataW H} {ps : List MemPlace} (hval : Value.okWide Tryz.prog W .any base 22 v) (hT : DataW.Trod enc Tryz.prog W 0 (fun _ => true) true 22 v d ps) (hw : ∀ x ∈ DataW.weights Tryz.prog 22 d, x ≤ reachBytes) :
    ∃ (d : List Int), (numT .i8 d).p v (view W) ∧ (∀ x ∈ d, IntKind.min .i8 ≤ x ∧ x ≤ IntKind.max .i8) ∧ True := by
  have h := arg_leaf (.inr (.inr ⟨_, Tryz.underlying22⟩)) hval hT hw
  obtain ⟨d, k0, b0⟩ := leaf_nums Tryz.underlying22 Tryz.underlying113 (by kernel_rfl) (of_decide_eq_true (by kernel_rfl)) h
  exact ⟨d, k0, b0, trivial⟩
end Tor
namespace Go.Proofs.YtinfobmidgammaaGreat
open Go.ChangeShapes Go.WideShapes Go.ChangeAt Go.RowKit Go.Joins Tor
theorem bareissMatchesReference_own : ownKnob Tryz.prog.godebug = none := by kernel_rfl
theorem bareissMatchesReference_laid : laidOutB Tryz.prog = true := by kernel_rfl
set_option maxRecDepth 100000 in
theorem bareissMatchesReference_lifted (os : Os) (started : os.Started) (H : Type) (enc : TypeId × Value → H) :
    ReturnsInHanded {} Tryz.checked os 3 .any (Rows.bareissMatchesReferenceSpec.pre6 enc Tryz.prog Tryz.f3 Rows.bareissMatchesReferenceRow.domain false) (Rows.bareissMatchesReferenceSpec.post enc Tryz.prog Tryz.f3 false true false false) := by
  refine returnsInHanded_of_change_sized (C := Tryz.checked) bareissMatchesReference_own started (by kernel_rfl) Tryz.func3
    (ChangeSpec.witness6 (enc := enc) (C := Tryz.checked) false ⟨#[], #[.agg #[.int .u8 0, .int .u8 0, .slice none 0 0], .agg #[.int .u8 0, .int .u8 0, .slice none 0 0], .slice none 0 0], []⟩ 8 (by kernel_rfl) (by kernel_rfl) (by kernel_rfl) (by kernel_rfl)) ?_
  intro W base args ds gs before hval0 hW hcnd hsz0 _
  have hval : ∀ (j : Nat) t v, Tryz.f3.params[j]? = some t → args[j]? = some v → Value.okWide Tryz.prog W .any base t v := hval0
  have hsz : (DataW.weightsEach Tryz.prog (Tryz.f3.params.toList ++ Rows.bareissMatchesReferenceSpec.plain.varTypes Tryz.prog) (ds ++ gs)).all (· ≤ reachBytes) = true := hsz0
  have hW' := hW
  obtain ⟨p, q, hA0, hV, rfl, hfz, hnd⟩ := hW
  have hA : DataW.TrodAll enc Tryz.prog W 0 (fun _ => true) true Tryz.f3.params.toList args.toList ds p := hA0
  rw [Tryz.params3] at hA hval hsz
  obtain ⟨v0, v1, v2, d0, d1, d2, p0, p1, p2, rfl, rfl, rfl, h0, h1, h2⟩ := trodAll_three hA
  obtain ⟨rfl, rfl⟩ := trodVars_none hV
  obtain ⟨r_0, c_0, l_0, x0, y0⟩ := rd_raw (hval 0 24 _ rfl rfl) h0 (arg_weights hsz 0 rfl rfl)
  obtain ⟨r_1, c_1, l_1, x1, y1⟩ := rd_raw (hval 1 24 _ rfl rfl) h1 (arg_weights hsz 1 rfl rfl)
  obtain ⟨d_2, x2, y2⟩ := rd_d8 (hval 2 22 _ rfl rfl) h2 (arg_weights hsz 2 rfl rfl)
  refine (Ok.outside (W := W) (args := #[v0, v1, v2]) (matchesLaw_ok r_0 c_0 l_0 r_1 c_1 l_1 d_2) (And.intro x0 (And.intro x1 (And.intro x2 (trivial))))).mono fun e W' ⟨v, he, hv, hw⟩ => ?_
  subst he
  have hv : v = .bool true := hv
  subst hv
  refine ⟨_, rfl, _, [], _, [], _, [], hW', trodAll_mk1 (shut_bool Tryz.underlying4 true), trodAll_mk3
    (Below.trod bareissMatchesReference_laid (by kernel_rfl) (of_decide_eq_true (by kernel_rfl)) h0 hw (fun x hx => by simpa using hW'.lt x (by simp only [List.mem_append] at hx ⊢; simp [hx])))
    (Below.trod bareissMatchesReference_laid (by kernel_rfl) (of_decide_eq_true (by kernel_rfl)) h1 hw (fun x hx => by simpa using hW'.lt x (by simp only [List.mem_append] at hx ⊢; simp [hx])))
    (Below.trod bareissMatchesReference_laid (by kernel_rfl) (of_decide_eq_true (by kernel_rfl)) h2 hw (fun x hx => by simpa using hW'.lt x (by simp only [List.mem_append] at hx ⊢; simp [hx]))), rfl, hw.frame _, fun h => by cases h⟩
theorem bareissMatchesReference_holds : Rows.BareissMatchesReferenceSaid :=
  OpenClaim.holds_of_wide 3 Tryz.f3 rfl rfl rfl rfl rfl rfl rfl ⟨rfl, rfl, rfl, rfl, rfl⟩ rfl rfl rfl rfl rfl (by kernel_rfl) Tryz.func3 (by kernel_rfl)
    (of_decide_eq_true (by kernel_rfl)) (by unfold Func.isWrapper; first | (rw [if_pos (by decide +kernel)]; kernel_rfl) | (rw [if_neg (by decide +kernel)]; exact ⟨rfl, rfl⟩))
    (fun os started H enc _ => bareissMatchesReference_lifted os started H enc)
end Go.Proofs.YtinfobmidgammaaGreat
namespace Tor
end Tor
end
