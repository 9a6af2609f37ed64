/-
  torsionref01.minus.
-/
import Derived.Test.YtmpnikllhpagcaaR3
set_option linter.unusedVariables false
set_option linter.unusedSimpArgs false
namespace Tor
open Go Go.RowKit Go.Proofs
theorem RMinus.step {lx ly zl : List Nat} {c : Nat} (h : MinusR lx ly zl c) (hx : Limbs lx) (hy : Limbs ly) (hl : ly.length ≤ lx.length) (hlt : zl.length < lx.length) :
    MinusR lx ly (zl ++ [(lx.getD zl.length 0 + 4294967296 - c - ly.getD zl.length 0) % 4294967296]) (if lx.getD zl.length 0 < c + ly.getD zl.length 0 then 1 else 0) := by
  have h1 := getD_lt hx zl.length
  have h2 := getD_lt hy zl.length
  have h3 := h.c1
  have := h.step hx hy hl hlt rfl
  generalize lx.getD zl.length 0 = x at *
  generalize ly.getD zl.length 0 = y at *
  have e1 : ((x + 18446744073709551616 - c) % 18446744073709551616 + 18446744073709551616 - y) % 18446744073709551616 % 4294967296 = (x + 4294967296 - c - y) % 4294967296 := by omega
  have e2 : ((x + 18446744073709551616 - c) % 18446744073709551616 + 18446744073709551616 - y) % 18446744073709551616 / 9223372036854775808 = if x < c + y then 1 else 0 := by split <;> omega
  rw [e1, e2] at this
  exact this
theorem snoc_fun' (zl : List Nat) (v : Nat) : ∀ q, q < zl.length + 1 → v < 4294967296 → (if q < zl.length then one (.int .u32 (zl.getD q 0 : Nat)) else one (.int .u32 (v % 4294967296 : Nat))) = one (.int .u32 ((zl ++ [v]).getD q 0 : Nat)) := by
  intro q hq hv
  rw [Nat.mod_eq_of_lt hv]
  exact snoc_fun zl v q hq
attribute [local irreducible] Tor.J Tor.PJ Tor.StepO Tor.one Tor.slT Tor.ptrT Tor.aggT Tor.tupT Tor.exT Tor.andT Tor.gT Tor.eP Tor.boxO Tor.sliO Tor.slV Tor.VT.le Tor.Ret Tor.anyT
set_option maxHeartbeats 2000000 in
theorem rminus_ok (a b : Nat) (hab : b ≤ a) (ha : (digs a).length ≤ 1099511627776) : Ok Try.prog 88 [limT (digs a), limT (digs b)] (natS (a - b)) := by
  refine Ok.enter Try.func88 rfl Try.ntmps88 rfl (fun w O => ?_)
  have hx := limbs_digs a
  have hy := limbs_digs b
  have hl := digs_len_le' hab
  have hva := lv_digs a
  have hvb := lv_digs b
  generalize digs a = lx at *
  generalize digs b = ly at *
  refine J_seq ?_
  refine J_reg ?_
  refine st (s_assign rfl) rfl ?_
  refine Run.nil ?_
  refine pj_then ?_
  refine J_seq ?_
  refine J_reg ?_
  refine stSO (n := 0) rfl rfl rfl rfl rfl ?_
  refine PartsK.nil (fun b => ?_)
  refine st (s_assign rfl) rfl ?_
  refine st (s_assign rfl) rfl ?_
  refine Run.nil ?_
  refine pj_then ?_
  refine J_seq ?_
  refine J_seq ?_
  refine J_reg ?_
  refine st (s_assign rfl) rfl ?_
  refine Run.nil ?_
  refine pj_then ?_
  refine J_block ?_
  refine J_loop (σ := List Nat × Nat × Option Nat × Nat) (fun s => [(0, limT lx), (1, limT ly), (5, one (slV s.2.2.1 s.1.length s.2.2.2)), (6, one (.int .i64 (s.2.1 : Nat))), (7, one (.int .i64 s.1.length))])
      (fun s => [sliO s.2.2.1 79 .one s.2.2.2 s.1.length (fun q => one (.int .u32 (s.1.getD q 0 : Nat)))]) (fun s => MinusR lx ly s.1 s.2.1) (fun s => lx.length - s.1.length) ([], 0, some b, 0)
      ⟨by simp, (fun d hd => by cases hd), Nat.zero_le _, by simp [lv]⟩ (by repeat (first | exact SubG.nil | refine SubG.cons rfl (VT.le_refl _) ?_ | (refine SubG.cons rfl (one_le ?_) ?_; (congr 1; first | omega | (simp; omega) | simp)))) (.keep (sliO_eq (fun q hq => by omega)) .nil) (fun s hR => ?_)
  obtain ⟨zl, c, sv0, cap0⟩ := s
  simp only at hR ⊢
  have h3 := hR.c1
  have hlen := hR.len
  refine J_seq ?_
  refine J_seq ?_
  refine J_reg ?_
  refine st (s_move rfl) rfl ?_
  refine st (s_move rfl) rfl ?_
  refine st (s_len rfl) rfl ?_
  refine st (s_lt rfl rfl) rfl ?_
  refine Run.nil ?_
  refine pj_then ?_
  refine J_cond rfl (fun hc => ?_) (fun hc => ?_) <;> simp at hc
  · have hstep := RMinus.step hR hx hy hl hc
    have g1 := getD_lt hx zl.length
    have g2 := getD_lt hy zl.length
    refine J_skip ?_
    refine pj_then ?_
    refine J_seq ?_
    refine J_block ?_
    refine J_seq ?_
    refine J_reg ?_
    refine st (s_move rfl) rfl ?_
    refine st (s_move rfl) rfl ?_
    (refine st (s_indexIN rfl rfl ?_) rfl ?_; omega)
    refine st (s_load rfl) rfl ?_
    (refine st (s_toI64 rfl ?_ ?_) rfl ?_; omega; omega)
    refine st (s_move rfl) rfl ?_
    (refine st (s_sub rfl rfl (wrap_i64 ?_ ?_)) rfl ?_; omega; omega)
    refine st (s_assign rfl) rfl ?_
    refine Run.nil ?_
    refine pj_then ?_
    refine J_seq ?_
    refine J_seq ?_
    refine J_reg ?_
    refine st (s_move rfl) rfl ?_
    refine st (s_move rfl) rfl ?_
    refine st (s_len rfl) rfl ?_
    refine st (s_lt rfl rfl) rfl ?_
    refine Run.nil ?_
    refine pj_then ?_
    refine J_join (σ := Unit) (fun _ => [(0, limT lx), (1, limT ly), (5, one (slV sv0 zl.length cap0)), (8, one (.int .i64 ((lx.getD zl.length 0 : Nat) - (c : Nat) - (ly.getD zl.length 0 : Nat)))), (7, one (.int .i64 zl.length))])
      (fun _ => [sliO sv0 79 .one cap0 zl.length (fun q => one (.int .u32 (zl.getD q 0 : Nat)))]) (fun _ => True) ?_ (fun _ _ => ?_)
    · refine J_cond rfl (fun hc => ?_) (fun hc => ?_) <;> simp at hc
      · refine J_reg ?_
        refine st (s_move rfl) rfl ?_
        refine st (s_move rfl) rfl ?_
        refine st (s_move rfl) rfl ?_
        (refine st (s_indexIN rfl rfl ?_) rfl ?_; omega)
        refine st (s_load rfl) rfl ?_
        (refine st (s_toI64 rfl ?_ ?_) rfl ?_; omega; omega)
        (refine st (s_sub rfl rfl (wrap_i64 ?_ ?_)) rfl ?_; omega; omega)
        refine st (s_assign rfl) rfl ?_
        refine Run.nil ?_
        exact pj_cut () trivial (by repeat (first | exact SubG.nil | refine SubG.cons rfl (VT.le_refl _) ?_ | (refine SubG.cons rfl (one_le ?_) ?_; (congr 1; first | omega | (simp; omega) | simp)))) (SubM.refl _)
      · have e0 : ly.getD zl.length 0 = 0 := by simp [List.getElem?_eq_none (show ly.length ≤ zl.length by omega)]
        refine J_skip ?_
        exact pj_cut () trivial (by repeat (first | exact SubG.nil | refine SubG.cons rfl (VT.le_refl _) ?_ | (refine SubG.cons rfl (one_le ?_) ?_; (congr 1; first | omega | (simp; omega) | simp)))) (SubM.refl _)
    · generalize lx.getD zl.length 0 = x at *
      generalize ly.getD zl.length 0 = y at *
      refine pj_then ?_
      refine J_seq ?_
      refine J_reg ?_
      refine st (s_assign rfl) rfl ?_
      refine Run.nil ?_
      refine pj_then ?_
      refine J_seq ?_
      refine J_seq ?_
      refine J_reg ?_
      refine st (s_move rfl) rfl ?_
      refine st (s_lt rfl rfl) rfl ?_
      refine Run.nil ?_
      refine pj_then ?_
      refine J_join (σ := Unit) (fun _ => [(0, limT lx), (1, limT ly), (5, one (slV sv0 zl.length cap0)), (6, one (.int .i64 ((if x < c + y then 1 else 0 : Nat)))), (8, one (.int .i64 ((x + 4294967296 - c - y) % 4294967296 : Nat))), (7, one (.int .i64 zl.length))])
        (fun _ => [sliO sv0 79 .one cap0 zl.length (fun q => one (.int .u32 (zl.getD q 0 : Nat)))]) (fun _ => True) ?_ (fun _ _ => ?_)
      · refine J_cond rfl (fun hc => ?_) (fun hc => ?_) <;> simp at hc
        · refine J_seq ?_
          refine J_reg ?_
          refine st (s_move rfl) rfl ?_
          (refine st (s_add rfl rfl (wrap_i64 ?_ ?_)) rfl ?_; omega; omega)
          refine st (s_assign rfl) rfl ?_
          refine Run.nil ?_
          refine pj_then ?_
          refine J_reg ?_
          refine st (s_assign rfl) rfl ?_
          refine Run.nil ?_
          rw [if_pos (by omega)]
          exact pj_cut () trivial (.cons rfl (VT.le_refl _) (.cons rfl (VT.le_refl _) (.cons rfl (VT.le_refl _) (.cons rfl (VT.le_refl _) (.cons rfl (one_le (by congr 1; omega)) (.cons rfl (VT.le_refl _) .nil)))))) (SubM.refl _)
        · refine J_skip ?_
          rw [if_neg (by omega)]
          exact pj_cut () trivial (.cons rfl (VT.le_refl _) (.cons rfl (VT.le_refl _) (.cons rfl (VT.le_refl _) (.cons rfl (VT.le_refl _) (.cons rfl (one_le (by congr 1; omega)) (.cons rfl (VT.le_refl _) .nil)))))) (SubM.refl _)
      · generalize (x + 4294967296 - c - y) % 4294967296 = d at *
        generalize (if x < c + y then 1 else 0) = c2 at *
        refine pj_then ?_
        refine J_reg ?_
        refine st (s_move rfl) rfl ?_
        refine st (s_move rfl) rfl ?_
        refine st (s_toU32 rfl) rfl ?_
        refine stS1 rfl rfl rfl rfl ?_
        (refine a_append 0 rfl rfl rfl (leN rfl) ?_ ?_ rfl (ltN rfl) (fun sv cap => ?_); omega; omega)
        refine st (s_assign rfl) rfl ?_
        refine Run.nil ?_
        refine pn_block ?_
        refine pj_then ?_
        refine J_reg ?_
        refine st (s_move rfl) rfl ?_
        (refine st (s_add rfl rfl (wrap_i64 ?_ ?_)) rfl ?_; omega; omega)
        refine st (s_assign rfl) rfl ?_
        refine Run.nil ?_
        refine pj_round (s := (zl, c, sv0, cap0)) (zl ++ [d], c2, sv, cap) hstep ?_ (.cons rfl (VT.le_refl _) (.cons rfl (VT.le_refl _) (.cons rfl (slV_len (by simp)) (.cons rfl (VT.le_refl _) (.cons rfl (one_le (by simp)) .nil))))) (.keep (sliO_len (by simp) (fun q hq => snoc_fun' zl _ q (by simpa using hq) (hstep.lim d (by simp)))) .nil)
        simp only [List.length_append, List.length_cons, List.length_nil, Nat.zero_add] at *
        omega
  · have hlen : zl.length = lx.length := by have := hR.len; omega
    refine J_exit ?_
    refine px_then ?_
    refine px_then ?_
    refine px_block ?_
    refine pj_then ?_
    refine J_seq ?_
    refine J_reg ?_
    refine st (s_move rfl) rfl ?_
    refine st (s_assign rfl) rfl ?_
    refine Run.nil ?_
    refine pj_then ?_
    refine J_ret ?_
    refine PJ_freeze (t := 4) (i := 0) rfl rfl ?_
    refine retc1 Try.results88 (.tmp rfl (natS_of (l := zl) hR.lim ?_ (by omega)))
    have h4 := hR.val
    rw [hlen, List.take_length, List.take_of_length_le (by omega), hva, hvb] at h4
    have h5 := lv_lt hR.lim
    rw [hlen] at h5
    have h6 := lv_lt hx
    rcases Nat.le_one_iff_eq_zero_or_eq_one.1 hR.c1 with h7 | h7 <;> simp only [h7, Nat.mul_zero, Nat.mul_one, Nat.add_zero] at h4 <;> omega
end Tor
