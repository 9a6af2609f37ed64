/-
  Contracts of package integer's functions on limbs: value, plus.
-/
import Derived.Test.YtmpnikllhpagcaaI1
set_option linter.unusedVariables false
set_option linter.unusedSimpArgs false
namespace Tor
open Go Go.RowKit Go.Proofs
attribute [local irreducible] Tor.J Tor.PJ Tor.StepO Tor.one Tor.slT Tor.ptrT Tor.aggT Tor.tupT Tor.exT Tor.andT Tor.gT Tor.eP Tor.boxO Tor.sliO Tor.slV Tor.VT.le Tor.Ret Tor.anyT
theorem value_ok (neg : Bool) (v : Nat) : Ok Try.prog 91 [one (.bool neg), natT v] (bigT (if neg then -(v : Int) else v)) := by
  refine Ok.enter Try.func91 rfl Try.ntmps91 rfl (fun w O => ?_)
  refine J_seq ?_
  refine J_reg ?_
  refine a_alloc (T := 29) rfl (ltN rfl) (fun b => ?_)
  refine Run.nil ?_
  refine pj_then ?_
  refine J_seq ?_
  refine J_reg ?_
  refine st (s_move rfl) rfl ?_
  refine st (s_callk (trim_ok _) rfl ⟨VT.le_refl _, trivial⟩) rfl ?_
  refine st (s_assign rfl) rfl ?_
  refine Run.nil ?_
  refine pj_then ?_
  refine J_seq ?_
  refine J_seq ?_
  refine J_reg ?_
  refine st (s_move rfl) rfl ?_
  refine st (s_len rfl) rfl ?_
  refine st (s_eq rfl rfl) rfl ?_
  refine Run.nil ?_
  refine pj_then ?_
  refine J_cond rfl (fun hc => ?_) (fun hc => ?_) <;> simp at hc
  · have hv : v = 0 := by rw [← lv_digs v, hc]; rfl
    subst hv
    refine J_seq ?_
    refine J_reg ?_
    refine stB rfl rfl rfl ?_
    refine BuildK.nil ?_
    refine a_storeB 0 rfl rfl rfl rfl rfl (leN rfl) rfl ?_
    refine Run.nil ?_
    refine pj_then ?_
    refine J_ret ?_
    refine pr_then ?_
    exact retc1 Try.results91 (.cellB 0 rfl rfl rfl (VT.le_trans bigT_zero (bigT_eq (by simp))))
  · have hv : v ≠ 0 := by intro e; subst e; exact hc rfl
    refine J_skip ?_
    refine pj_then ?_
    refine J_seq ?_
    refine J_reg ?_
    refine st (s_move rfl) rfl ?_
    refine st (s_move rfl) rfl ?_
    refine stB rfl rfl rfl ?_
    refine BuildK.cons rfl rfl rfl ?_
    refine BuildK.cons rfl rfl rfl ?_
    refine BuildK.nil ?_
    refine a_storeB 0 rfl rfl rfl rfl rfl (leN rfl) rfl ?_
    refine Run.nil ?_
    refine pj_then ?_
    refine J_ret ?_
    exact retc1 Try.results91 (.cellB 0 rfl rfl rfl (bigT_of hv))

/-- The relation of plus's loop. -/
structure PlusR (lx ly : List Nat) (zl : List Nat) (c : Nat) : Prop where
  len : zl.length ≤ lx.length
  lim : Limbs zl
  c1 : c ≤ 1
  val : lv zl + 4294967296 ^ zl.length * c = lv (lx.take zl.length) + lv (ly.take zl.length)
theorem PlusR.step {lx ly zl : List Nat} {c : Nat} (h : PlusR lx ly zl c) (hx : Limbs lx) (hy : Limbs ly) (hl : ly.length ≤ lx.length) (hlt : zl.length < lx.length) :
    PlusR lx ly (zl ++ [(c + lx.getD zl.length 0 + ly.getD zl.length 0) % 4294967296]) ((c + lx.getD zl.length 0 + ly.getD zl.length 0) / 4294967296) := by
  have h1 := getD_lt hx zl.length
  have h2 := getD_lt hy zl.length
  have h3 := h.c1
  refine ⟨by simp; omega, fun d hd => ?_, by omega, ?_⟩
  · rcases List.mem_append.1 hd with hd | hd
    · exact h.lim d hd
    · simp at hd; omega
  · have hy2 : lv (ly.take (zl.length + 1)) = lv (ly.take zl.length) + 4294967296 ^ zl.length * ly.getD zl.length 0 := by
      by_cases hk : zl.length < ly.length
      · exact lv_take_succ hk
      · rw [List.take_of_length_le (by omega), List.take_of_length_le (by omega)]; simp [List.getElem?_eq_none (Nat.le_of_not_lt hk)]
    simp only [List.length_append, List.length_cons, List.length_nil, Nat.zero_add]
    rw [lv_append, lv_take_succ hlt, hy2, Nat.pow_succ]
    have hv := h.val
    generalize lx.getD zl.length 0 = x at *
    generalize ly.getD zl.length 0 = y at *
    generalize 4294967296 ^ zl.length = B at *
    have e : (c + x + y) = 4294967296 * ((c + x + y) / 4294967296) + (c + x + y) % 4294967296 := by omega
    generalize (c + x + y) / 4294967296 = q at *
    generalize (c + x + y) % 4294967296 = r at *
    simp only [lv, Nat.mul_zero, Nat.add_zero]
    have e2 : B * (c + x + y) = B * (4294967296 * q + r) := by rw [e]
    simp only [Nat.mul_add, Nat.mul_assoc] at e2 ⊢
    omega

theorem plus_ok (a b : Nat) (ha : (digs a).length ≤ 1099511627776) (hb : (digs b).length ≤ 1099511627776) : Ok Try.prog 94 [limT (digs a), limT (digs b)] (natT (a + b)) := by
  refine Ok.enter Try.func94 rfl Try.ntmps94 rfl (fun w O => ?_)
  refine J_seq ?_
  refine J_reg ?_
  refine st (s_assign rfl) rfl ?_
  refine Run.nil ?_
  refine pj_then ?_
  refine J_seq ?_
  refine J_seq ?_
  refine J_reg ?_
  refine st (s_move rfl) rfl ?_
  refine st (s_len rfl) rfl ?_
  refine st (s_move rfl) rfl ?_
  refine st (s_len rfl) rfl ?_
  refine st (s_lt rfl rfl) rfl ?_
  refine Run.nil ?_
  refine pj_then ?_
  refine J_join (σ := List Nat × List Nat) (fun s => [(0, limT s.1), (1, limT s.2)]) (fun _ => []) (fun s => Limbs s.1 ∧ Limbs s.2 ∧ s.2.length ≤ s.1.length ∧ s.1.length ≤ 1099511627776 ∧ lv s.1 + lv s.2 = a + b) ?_ (fun s ⟨hx, hy, hl, hs, hv⟩ => ?_)
  · refine J_cond rfl (fun hc => ?_) (fun hc => ?_) <;> simp at hc
    · refine J_reg ?_
      refine st (s_move rfl) rfl ?_
      refine st (s_move rfl) rfl ?_
      refine st (s_assign rfl) rfl ?_
      refine st (s_assign rfl) rfl ?_
      refine Run.nil ?_
      exact pj_cut (digs b, digs a) ⟨limbs_digs _, limbs_digs _, Nat.le_of_lt hc, hb, by simp only [lv_digs]; omega⟩ (by repeat (first | exact SubG.nil | refine SubG.cons rfl (VT.le_refl _) ?_ | (refine SubG.cons rfl (one_le ?_) ?_; (congr 1; first | omega | (simp; omega) | simp)))) (SubM.refl _)
    · refine J_skip ?_
      exact pj_cut (digs a, digs b) ⟨limbs_digs _, limbs_digs _, hc, ha, by simp only [lv_digs]⟩ (by repeat (first | exact SubG.nil | refine SubG.cons rfl (VT.le_refl _) ?_ | (refine SubG.cons rfl (one_le ?_) ?_; (congr 1; first | omega | (simp; omega) | simp)))) (SubM.refl _)
  · obtain ⟨lx, ly⟩ := s
    simp only at hx hy hl hs hv ⊢
    refine pj_then ?_
    refine J_seq ?_
    refine J_reg ?_
    refine st (s_move rfl) rfl ?_
    refine st (s_len rfl) rfl ?_
    (refine st (s_add rfl rfl (wrap_i64 ?_ ?_)) rfl ?_; omega; omega)
    refine a_makeSlice (lx.length + 1) (lx.length + 1) rfl rfl (by simp) (by simp) (Nat.le_refl _) rfl rfl (by omega) rfl rfl (fun bz => ?_)
    refine st (s_assign rfl) rfl ?_
    refine Run.nil ?_
    refine pj_then ?_
    refine J_seq ?_
    refine J_reg ?_
    refine st (s_assign rfl) rfl ?_
    refine Run.nil ?_
    refine pj_then ?_
    refine J_seq ?_
    refine J_seq ?_
    refine J_reg ?_
    refine st (s_move rfl) rfl ?_
    refine st (s_len rfl) rfl ?_
    refine st (s_move rfl) rfl ?_
    refine Run.nil ?_
    refine pj_then ?_
    refine J_block ?_
    refine J_loop (σ := List Nat × Nat) (fun s => [(0, limT lx), (1, limT ly), (5, one (slV (some bz) (lx.length + 1) (lx.length + 1))), (6, one (.int .u64 (s.2 : Nat))), (20, one (.int .i64 lx.length)), (21, one (.int .i64 s.1.length))])
      (fun s => [sliO (some bz) 79 .one (lx.length + 1) (lx.length + 1) (fun q => one (.int .u32 (s.1.getD q 0 : Nat)))]) (fun s => PlusR lx ly s.1 s.2) (fun s => lx.length - s.1.length) ([], 0)
      ⟨by simp, (fun d hd => by cases hd), by decide, by simp [lv]⟩ (by repeat (first | exact SubG.nil | refine SubG.cons rfl (VT.le_refl _) ?_ | (refine SubG.cons rfl (one_le ?_) ?_; (congr 1; first | omega | (simp; omega) | simp)))) (.keep (sliO_eq (by simp)) .nil) (fun s hR => ?_)
    obtain ⟨zl, c⟩ := s
    simp only at hR ⊢
    refine J_seq ?_
    refine J_reg ?_
    refine st (s_lt rfl rfl) rfl ?_
    refine Run.nil ?_
    refine pj_then ?_
    refine J_seq ?_
    refine J_cond rfl (fun hc => ?_) (fun hc => ?_) <;> simp at hc
    · have h1 := getD_lt hx zl.length
      have h2 := getD_lt hy zl.length
      have h3 := hR.c1
      refine J_skip ?_
      refine pj_then ?_
      refine J_seq ?_
      refine J_block ?_
      refine J_seq ?_
      refine J_reg ?_
      refine st (s_move rfl) rfl ?_
      refine st (s_assign rfl) rfl ?_
      refine Run.nil ?_
      refine pj_then ?_
      refine J_seq ?_
      refine J_reg ?_
      refine st (s_move rfl) rfl ?_
      refine st (s_move rfl) rfl ?_
      refine st (s_move rfl) rfl ?_
      (refine st (s_indexIN rfl rfl ?_) rfl ?_; omega)
      refine st (s_load rfl) rfl ?_
      (refine st (s_toU64 rfl ?_) rfl ?_; omega)
      (refine st (s_addU rfl rfl ?_) rfl ?_; omega)
      refine st (s_assign rfl) rfl ?_
      refine Run.nil ?_
      refine pj_then ?_
      refine J_seq ?_
      refine J_seq ?_
      refine J_reg ?_
      refine st (s_move rfl) rfl ?_
      refine st (s_move rfl) rfl ?_
      refine st (s_len rfl) rfl ?_
      refine st (s_lt rfl rfl) rfl ?_
      refine Run.nil ?_
      refine pj_then ?_
      refine J_join (σ := Unit) (fun _ => [(0, limT lx), (1, limT ly), (5, one (slV (some bz) (lx.length + 1) (lx.length + 1))), (6, one (.int .u64 ((c + lx.getD zl.length 0 + ly.getD zl.length 0 : Nat) : Int))), (7, one (.int .i64 zl.length)), (20, one (.int .i64 lx.length)), (21, one (.int .i64 zl.length))])
        (fun _ => [sliO (some bz) 79 .one (lx.length + 1) (lx.length + 1) (fun q => one (.int .u32 (zl.getD q 0 : Nat)))]) (fun _ => True) ?_ (fun _ _ => ?_)
      · refine J_cond rfl (fun hc => ?_) (fun hc => ?_) <;> simp at hc
        · refine J_reg ?_
          refine st (s_move rfl) rfl ?_
          refine st (s_move rfl) rfl ?_
          refine st (s_move rfl) rfl ?_
          (refine st (s_indexIN rfl rfl ?_) rfl ?_; omega)
          refine st (s_load rfl) rfl ?_
          (refine st (s_toU64 rfl ?_) rfl ?_; omega)
          (refine st (s_addU rfl rfl ?_) rfl ?_; omega)
          refine st (s_assign rfl) rfl ?_
          refine Run.nil ?_
          exact pj_cut () trivial (by repeat (first | exact SubG.nil | refine SubG.cons rfl (VT.le_refl _) ?_ | (refine SubG.cons rfl (one_le ?_) ?_; (congr 1; first | omega | (simp; omega) | simp)))) (SubM.refl _)
        · have e0 : ly.getD zl.length 0 = 0 := by simp [List.getElem?_eq_none hc]
          refine J_skip ?_
          exact pj_cut () trivial (by repeat (first | exact SubG.nil | refine SubG.cons rfl (VT.le_refl _) ?_ | (refine SubG.cons rfl (one_le ?_) ?_; (congr 1; first | omega | (simp; omega) | simp)))) (SubM.refl _)
      · refine pj_then ?_
        refine J_seq ?_
        refine J_reg ?_
        refine st (s_move rfl) rfl ?_
        refine st (s_move rfl) rfl ?_
        refine st (s_move rfl) rfl ?_
        refine st (s_toU32 rfl) rfl ?_
        (refine st (s_indexON rfl rfl ?_) rfl ?_; omega)
        (refine a_storeE 0 rfl rfl rfl ?_ rfl ?_; omega)
        refine Run.nil ?_
        refine pj_then ?_
        refine J_reg ?_
        refine st (s_move rfl) rfl ?_
        refine st (s_shr32 rfl) rfl ?_
        refine st (s_assign rfl) rfl ?_
        refine Run.nil ?_
        refine pn_block ?_
        refine pj_then ?_
        refine J_reg ?_
        (refine st (s_add rfl rfl (wrap_i64 ?_ ?_)) rfl ?_; omega; omega)
        refine st (s_move rfl) rfl ?_
        refine Run.nil ?_
        have hstep := hR.step hx hy hl hc
        refine pj_round (s := (zl, c)) (zl ++ [(c + lx.getD zl.length 0 + ly.getD zl.length 0) % 4294967296], (c + lx.getD zl.length 0 + ly.getD zl.length 0) / 4294967296) hstep (by simp; omega) (by repeat (first | exact SubG.nil | refine SubG.cons rfl (VT.le_refl _) ?_ | (refine SubG.cons rfl (one_le ?_) ?_; (congr 1; first | omega | (simp; omega) | simp)))) (.keep (sliO_eq (fun q hq => ?_)) .nil)
        unfold upd; rw [getD_snoc]; split <;> rfl
    · have hlen : zl.length = lx.length := by have := hR.len; omega
      refine J_exit ?_
      refine px_then ?_
      refine px_then ?_
      refine px_block ?_
      refine pj_then ?_
      refine J_seq ?_
      refine J_reg ?_
      refine st (s_move rfl) rfl ?_
      refine st (s_move rfl) rfl ?_
      refine st (s_len rfl) rfl ?_
      refine st (s_move rfl) rfl ?_
      refine st (s_toU32 rfl) rfl ?_
      (refine st (s_indexON rfl rfl ?_) rfl ?_; omega)
      (refine a_storeE 0 rfl rfl rfl ?_ rfl ?_; omega)
      refine Run.nil ?_
      refine pj_then ?_
      refine J_seq ?_
      refine J_reg ?_
      refine st (s_move rfl) rfl ?_
      refine st (s_assign rfl) rfl ?_
      refine Run.nil ?_
      refine pj_then ?_
      refine J_ret ?_
      refine PJ_freeze (t := 4) (i := 0) rfl rfl ?_
      refine retc1 Try.results94 (.tmp rfl (VT.le_trans (slT_le' (m := (zl ++ [c]).length) (ψ := fun i => one (.int .u32 ((zl ++ [c]).getD i 0 : Nat))) (by simp [hlen]) (fun q hq => ?_)) (natT_of (l := zl ++ [c]) ?_ ?_)))
      · have h3 := hR.c1
        unfold upd; rw [getD_snoc, hlen]
        split
        · rw [Nat.mod_eq_of_lt (by omega)]
        · rfl
      · intro d hd
        have h3 := hR.c1
        rcases List.mem_append.1 hd with hd | hd
        · exact hR.lim d hd
        · simp at hd; omega
      · have h4 := hR.val
        rw [hlen, List.take_length, List.take_of_length_le (by omega)] at h4
        rw [lv_append, hlen]; simp only [lv, Nat.mul_zero, Nat.add_zero]; omega
end Tor
