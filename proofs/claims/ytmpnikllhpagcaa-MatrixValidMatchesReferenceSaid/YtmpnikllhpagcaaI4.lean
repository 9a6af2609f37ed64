/-
  Contract of integer's minus.
-/
import Derived.Test.YtmpnikllhpagcaaI1
set_option linter.unusedVariables false
set_option linter.unusedSimpArgs false
namespace Tor
open Go Go.RowKit Go.Proofs
attribute [local irreducible] Tor.J Tor.PJ Tor.StepO Tor.one Tor.slT Tor.ptrT Tor.aggT Tor.tupT Tor.exT Tor.andT Tor.gT Tor.eP Tor.boxO Tor.sliO Tor.slV Tor.VT.le Tor.Ret Tor.anyT
/-- The relation of minus's loop. -/
structure MinusR (lx ly : List Nat) (zl : List Nat) (c : Nat) : Prop where
  len : zl.length ≤ lx.length
  lim : Limbs zl
  c1 : c ≤ 1
  val : lv zl + lv (ly.take zl.length) = lv (lx.take zl.length) + 4294967296 ^ zl.length * c
theorem borrow_step {x y c d : Nat} (hx : x < 4294967296) (hy : y < 4294967296) (hc : c ≤ 1) (hd : d = ((x + 18446744073709551616 - c) % 18446744073709551616 + 18446744073709551616 - y) % 18446744073709551616) :
    d % 4294967296 + y + c = x + 4294967296 * (d / 9223372036854775808) ∧ d / 9223372036854775808 ≤ 1 := by
  rcases Nat.lt_or_ge x (y + c) with h | h
  · have h1 : d = x + 18446744073709551616 - (y + c) := by omega
    omega
  · have h1 : d = x - (y + c) := by omega
    omega
theorem MinusR.step {lx ly zl : List Nat} {c d : Nat} (h : MinusR lx ly zl c) (hx : Limbs lx) (hy : Limbs ly) (hl : ly.length ≤ lx.length) (hlt : zl.length < lx.length)
    (hd : d = ((lx.getD zl.length 0 + 18446744073709551616 - c) % 18446744073709551616 + 18446744073709551616 - ly.getD zl.length 0) % 18446744073709551616) :
    MinusR lx ly (zl ++ [d % 4294967296]) (d / 9223372036854775808) := by
  obtain ⟨h1, h2⟩ := borrow_step (getD_lt hx zl.length) (getD_lt hy zl.length) h.c1 hd
  refine ⟨by simp; omega, fun e he => ?_, h2, ?_⟩
  · rcases List.mem_append.1 he with he | he
    · exact h.lim e he
    · simp at he; omega
  · have hy2 : lv (ly.take (zl.length + 1)) = lv (ly.take zl.length) + 4294967296 ^ zl.length * ly.getD zl.length 0 := by
      by_cases hk : zl.length < ly.length
      · exact lv_take_succ hk
      · rw [List.take_of_length_le (by omega), List.take_of_length_le (by omega)]; simp [List.getElem?_eq_none (Nat.le_of_not_lt hk)]
    simp only [List.length_append, List.length_cons, List.length_nil, Nat.zero_add]
    rw [lv_append, lv_take_succ hlt, hy2, Nat.pow_succ]
    have hv := h.val
    clear hd
    generalize lx.getD zl.length 0 = x at *
    generalize ly.getD zl.length 0 = y at *
    generalize 4294967296 ^ zl.length = B at *
    generalize d % 4294967296 = r at *
    generalize d / 9223372036854775808 = q at *
    simp only [lv, Nat.mul_zero, Nat.add_zero]
    have e2 : B * (r + y + c) = B * (x + 4294967296 * q) := by rw [h1]
    simp only [Nat.mul_add, Nat.mul_assoc] at e2 ⊢
    omega

theorem minus_ok (a b : Nat) (hab : b ≤ a) (ha : (digs a).length ≤ 1099511627776) : Ok Try.prog 96 [limT (digs a), limT (digs b)] (natT (a - b)) := by
  refine Ok.enter Try.func96 rfl Try.ntmps96 rfl (fun w O => ?_)
  have hx := limbs_digs a
  have hy := limbs_digs b
  have hl := digs_len_le' hab
  have hva := lv_digs a
  have hvb := lv_digs b
  generalize digs a = lx at *
  generalize digs b = ly at *
  refine J_seq ?_
  refine J_reg ?_
  refine st (s_assign rfl) rfl ?_
  refine Run.nil ?_
  refine pj_then ?_
  refine J_seq ?_
  refine J_reg ?_
  refine st (s_move rfl) rfl ?_
  refine st (s_len rfl) rfl ?_
  refine a_makeSlice lx.length lx.length rfl rfl rfl rfl (Nat.le_refl _) rfl rfl (by omega) rfl rfl (fun bz => ?_)
  refine st (s_assign rfl) rfl ?_
  refine Run.nil ?_
  refine pj_then ?_
  refine J_seq ?_
  refine J_reg ?_
  refine st (s_assign rfl) rfl ?_
  refine Run.nil ?_
  refine pj_then ?_
  refine J_seq ?_
  refine J_seq ?_
  refine J_reg ?_
  refine st (s_move rfl) rfl ?_
  refine st (s_len rfl) rfl ?_
  refine st (s_move rfl) rfl ?_
  refine Run.nil ?_
  refine pj_then ?_
  refine J_block ?_
  refine J_loop (σ := List Nat × Nat) (fun s => [(0, limT lx), (1, limT ly), (5, one (slV (some bz) lx.length lx.length)), (6, one (.int .u64 (s.2 : Nat))), (13, one (.int .i64 lx.length)), (14, one (.int .i64 s.1.length))])
      (fun s => [sliO (some bz) 79 .one lx.length lx.length (fun q => one (.int .u32 (s.1.getD q 0 : Nat)))]) (fun s => MinusR lx ly s.1 s.2) (fun s => lx.length - s.1.length) ([], 0)
      ⟨by simp, (fun d hd => by cases hd), by decide, by simp [lv]⟩ (by repeat (first | exact SubG.nil | refine SubG.cons rfl (VT.le_refl _) ?_ | (refine SubG.cons rfl (one_le ?_) ?_; (congr 1; first | omega | (simp; omega) | simp)))) (.keep (sliO_eq (by simp)) .nil) (fun s hR => ?_)
  obtain ⟨zl, c⟩ := s
  simp only at hR ⊢
  refine J_seq ?_
  refine J_reg ?_
  refine st (s_lt rfl rfl) rfl ?_
  refine Run.nil ?_
  refine pj_then ?_
  refine J_seq ?_
  refine J_cond rfl (fun hc => ?_) (fun hc => ?_) <;> simp at hc
  · have h1 := getD_lt hx zl.length
    have h2 := getD_lt hy zl.length
    have h3 := hR.c1
    refine J_skip ?_
    refine pj_then ?_
    refine J_seq ?_
    refine J_block ?_
    refine J_seq ?_
    refine J_reg ?_
    refine st (s_move rfl) rfl ?_
    refine st (s_assign rfl) rfl ?_
    refine Run.nil ?_
    refine pj_then ?_
    refine J_seq ?_
    refine J_reg ?_
    refine st (s_move rfl) rfl ?_
    refine st (s_move rfl) rfl ?_
    (refine st (s_indexIN rfl rfl ?_) rfl ?_; omega)
    refine st (s_load rfl) rfl ?_
    (refine st (s_toU64 rfl ?_) rfl ?_; omega)
    refine st (s_move rfl) rfl ?_
    (refine st (s_subU rfl rfl ?_ ?_) rfl ?_; omega; omega)
    refine st (s_assign rfl) rfl ?_
    refine Run.nil ?_
    refine pj_then ?_
    refine J_seq ?_
    refine J_seq ?_
    refine J_reg ?_
    refine st (s_move rfl) rfl ?_
    refine st (s_move rfl) rfl ?_
    refine st (s_len rfl) rfl ?_
    refine st (s_lt rfl rfl) rfl ?_
    refine Run.nil ?_
    refine pj_then ?_
    generalize hD : ((lx.getD zl.length 0 + 18446744073709551616 - c) % 18446744073709551616 + 18446744073709551616 - ly.getD zl.length 0) % 18446744073709551616 = d
    refine J_join (σ := Unit) (fun _ => [(0, limT lx), (1, limT ly), (5, one (slV (some bz) lx.length lx.length)), (8, one (.int .u64 (d : Nat))), (7, one (.int .i64 zl.length)), (13, one (.int .i64 lx.length)), (14, one (.int .i64 zl.length))])
        (fun _ => [sliO (some bz) 79 .one lx.length lx.length (fun q => one (.int .u32 (zl.getD q 0 : Nat)))]) (fun _ => True) ?_ (fun _ _ => ?_)
    · refine J_cond rfl (fun hc => ?_) (fun hc => ?_) <;> simp at hc
      · refine J_reg ?_
        refine st (s_move rfl) rfl ?_
        refine st (s_move rfl) rfl ?_
        refine st (s_move rfl) rfl ?_
        (refine st (s_indexIN rfl rfl ?_) rfl ?_; omega)
        refine st (s_load rfl) rfl ?_
        (refine st (s_toU64 rfl ?_) rfl ?_; omega)
        (refine st (s_subU rfl rfl ?_ ?_) rfl ?_; omega; omega)
        refine st (s_assign rfl) rfl ?_
        refine Run.nil ?_
        exact pj_cut () trivial (by repeat (first | exact SubG.nil | refine SubG.cons rfl (VT.le_refl _) ?_ | (refine SubG.cons rfl (one_le ?_) ?_; (congr 1; first | omega | (simp; omega) | simp)))) (SubM.refl _)
      · have e0 : ly.getD zl.length 0 = 0 := by simp [List.getElem?_eq_none hc]
        refine J_skip ?_
        exact pj_cut () trivial (by repeat (first | exact SubG.nil | refine SubG.cons rfl (VT.le_refl _) ?_ | (refine SubG.cons rfl (one_le ?_) ?_; (congr 1; first | omega | (simp; omega) | simp)))) (SubM.refl _)
    · refine pj_then ?_
      refine J_seq ?_
      refine J_reg ?_
      refine st (s_move rfl) rfl ?_
      refine st (s_move rfl) rfl ?_
      refine st (s_move rfl) rfl ?_
      refine st (s_toU32 rfl) rfl ?_
      (refine st (s_indexON rfl rfl ?_) rfl ?_; omega)
      (refine a_storeE 0 rfl rfl rfl ?_ rfl ?_; omega)
      refine Run.nil ?_
      refine pj_then ?_
      refine J_reg ?_
      refine st (s_move rfl) rfl ?_
      refine st (s_shr63 rfl) rfl ?_
      refine st (s_assign rfl) rfl ?_
      refine Run.nil ?_
      refine pn_block ?_
      refine pj_then ?_
      refine J_reg ?_
      (refine st (s_add rfl rfl (wrap_i64 ?_ ?_)) rfl ?_; omega; omega)
      refine st (s_move rfl) rfl ?_
      refine Run.nil ?_
      have hstep := hR.step hx hy hl hc hD.symm
      refine pj_round (s := (zl, c)) (zl ++ [d % 4294967296], d / 9223372036854775808) hstep (by simp; omega) (by repeat (first | exact SubG.nil | refine SubG.cons rfl (VT.le_refl _) ?_ | (refine SubG.cons rfl (one_le ?_) ?_; (congr 1; first | omega | (simp; omega) | simp)))) (.keep (sliO_eq (fun q hq => ?_)) .nil)
      unfold upd; rw [getD_snoc]; split <;> rfl
  · have hlen : zl.length = lx.length := by have := hR.len; omega
    refine J_exit ?_
    refine px_then ?_
    refine px_then ?_
    refine px_block ?_
    refine pj_then ?_
    refine J_seq ?_
    refine J_reg ?_
    refine st (s_move rfl) rfl ?_
    refine st (s_assign rfl) rfl ?_
    refine Run.nil ?_
    refine pj_then ?_
    refine J_ret ?_
    refine PJ_freeze (t := 4) (i := 0) rfl rfl ?_
    refine retc1 Try.results96 (.tmp rfl (VT.le_trans (slT_le' (m := zl.length) (ψ := fun i => one (.int .u32 (zl.getD i 0 : Nat))) hlen.symm (fun q hq => rfl)) (natT_of (l := zl) hR.lim ?_)))
    have h4 := hR.val
    rw [hlen, List.take_length, List.take_of_length_le (by omega), hva, hvb] at h4
    have h5 := lv_lt hR.lim
    rw [hlen] at h5
    have h3 := hR.c1
    have : c = 0 := by
      rcases Nat.eq_zero_or_pos c with h | h
      · exact h
      · have : c = 1 := by omega
        subst this; omega
    subst this; omega
end Tor
