/-
  Contract of integer's times.
-/
import Derived.Test.YtmpnikllhpagcaaI1
set_option linter.unusedVariables false
set_option linter.unusedSimpArgs false
namespace Tor
open Go Go.RowKit Go.Proofs
attribute [local irreducible] Tor.J Tor.PJ Tor.StepO Tor.one Tor.slT Tor.ptrT Tor.aggT Tor.tupT Tor.exT Tor.andT Tor.gT Tor.eP Tor.boxO Tor.sliO Tor.slV Tor.VT.le Tor.Ret Tor.anyT
/-- The relation of times's outer loop: the product of the first i limbs of x with y. -/
structure TimesR (lx ly zz : List Nat) (i : Nat) : Prop where
  le : i ≤ lx.length
  len : zz.length = lx.length + ly.length
  lim : Limbs zz
  zero : ∀ k, i + ly.length ≤ k → zz.getD k 0 = 0
  val : lv zz = lv (lx.take i) * lv ly
/-- That of its inner loop. -/
structure TimesI (lx ly z0 zz : List Nat) (i j c : Nat) : Prop where
  le : j ≤ ly.length
  len : zz.length = lx.length + ly.length
  lim : Limbs zz
  zero : ∀ k, i + ly.length ≤ k → zz.getD k 0 = 0
  c1 : c < 4294967296
  val : lv zz + 4294967296 ^ (i + j) * c = lv z0 + 4294967296 ^ i * (lx.getD i 0 * lv (ly.take j))
theorem TimesI.step {lx ly z0 zz : List Nat} {i j c : Nat} (h : TimesI lx ly z0 zz i j c) (hx : Limbs lx) (hy : Limbs ly) (hi : i < lx.length) (hj : j < ly.length) :
    TimesI lx ly z0 (zz.set (i + j) ((c + (lx.getD i 0 * ly.getD j 0 + zz.getD (i + j) 0)) % 4294967296)) i (j + 1) ((c + (lx.getD i 0 * ly.getD j 0 + zz.getD (i + j) 0)) / 4294967296) := by
  have hlim := mul_lim (getD_lt hx i) (getD_lt hy j) (getD_lt h.lim (i + j)) h.c1
  have hlt : i + j < zz.length := by rw [h.len]; omega
  refine ⟨hj, by rw [List.length_set]; exact h.len, h.lim.set (by omega), fun k hk => ?_, by omega, ?_⟩
  · rw [getD_setL hlt, if_neg (by omega)]; exact h.zero k hk
  · have hs := lv_set (l := zz) (k := i + j) (v := (c + (lx.getD i 0 * ly.getD j 0 + zz.getD (i + j) 0)) % 4294967296) hlt
    have hv := h.val
    rw [lv_take_succ hj]
    generalize lx.getD i 0 = x at *
    generalize ly.getD j 0 = y at *
    generalize zz.getD (i + j) 0 = z at *
    have e : c + (x * y + z) = 4294967296 * ((c + (x * y + z)) / 4294967296) + (c + (x * y + z)) % 4294967296 := by omega
    generalize (c + (x * y + z)) / 4294967296 = q at *
    generalize (c + (x * y + z)) % 4294967296 = r at *
    rw [show i + (j + 1) = (i + j) + 1 by omega, Nat.pow_succ]
    have eB : 4294967296 ^ i * 4294967296 ^ j = 4294967296 ^ (i + j) := (Nat.pow_add _ _ _).symm
    have e3 : 4294967296 ^ i * (x * (lv (ly.take j) + 4294967296 ^ j * y)) = 4294967296 ^ i * (x * lv (ly.take j)) + 4294967296 ^ (i + j) * (x * y) := by
      rw [Nat.mul_add, Nat.mul_add, ← eB]
      congr 1
      rw [Nat.mul_assoc]; congr 1
      rw [Nat.mul_left_comm]
    rw [e3]
    generalize 4294967296 ^ (i + j) = B at *
    have e2 : B * (c + (x * y + z)) = B * (4294967296 * q + r) := by rw [e]
    simp only [Nat.mul_add, ← Nat.mul_assoc] at e2 ⊢ hs hv
    omega
theorem TimesR.start {lx ly z0 : List Nat} {i : Nat} (h : TimesR lx ly z0 i) : TimesI lx ly z0 z0 i 0 0 := ⟨Nat.zero_le _, h.len, h.lim, h.zero, by decide, by simp [lv]⟩
theorem TimesI.finish {lx ly z0 zz : List Nat} {i c : Nat} (h0 : TimesR lx ly z0 i) (h : TimesI lx ly z0 zz i ly.length c) (hi : i < lx.length) : TimesR lx ly (zz.set (i + ly.length) (c % 4294967296)) (i + 1) := by
  have hlt : i + ly.length < zz.length := by rw [h.len]; omega
  have hc := h.c1
  refine ⟨hi, by rw [List.length_set]; exact h.len, h.lim.set (by omega), fun k hk => ?_, ?_⟩
  · rw [getD_setL hlt, if_neg (by omega)]; exact h.zero k (by omega)
  · have hs := lv_set (l := zz) (k := i + ly.length) (v := c % 4294967296) hlt
    rw [h.zero _ (Nat.le_refl _), Nat.mul_zero, Nat.add_zero, Nat.mod_eq_of_lt hc] at hs
    rw [Nat.mod_eq_of_lt hc, hs, h.val, List.take_length, h0.val, lv_take_succ hi, Nat.add_mul, Nat.mul_assoc]
theorem Limbs.replicate (n : Nat) : Limbs (List.replicate n 0) := fun d hd => by
  have := (List.mem_replicate.1 hd).2; omega
theorem lv_replicate : ∀ n, lv (List.replicate n 0) = 0
  | 0 => rfl
  | n + 1 => by rw [List.replicate_succ, lv, lv_replicate n]
theorem getD_replicate0 (n q : Nat) : (List.replicate n 0).getD q 0 = 0 := by
  simp only [List.getD, List.getElem?_replicate]; split <;> rfl

theorem times_ok (a b : Nat) (ha : (digs a).length ≤ 1099511627776) (hb : (digs b).length ≤ 1099511627776) : Ok Try.prog 92 [limT (digs a), limT (digs b)] (natT (a * b)) := by
  refine Ok.enter Try.func92 rfl Try.ntmps92 rfl (fun w O => ?_)
  have hx := limbs_digs a
  have hy := limbs_digs b
  have hva := lv_digs a
  have hvb := lv_digs b
  generalize digs a = lx at *
  generalize digs b = ly at *
  refine J_seq ?_
  refine J_reg ?_
  refine st (s_assign rfl) rfl ?_
  refine Run.nil ?_
  refine pj_then ?_
  refine J_seq ?_
  refine J_reg ?_
  refine st (s_move rfl) rfl ?_
  refine st (s_len rfl) rfl ?_
  refine st (s_move rfl) rfl ?_
  refine st (s_len rfl) rfl ?_
  (refine st (s_add rfl rfl (wrap_i64 ?_ ?_)) rfl ?_; omega; omega)
  refine a_makeSlice (lx.length + ly.length) (lx.length + ly.length) rfl rfl (by simp) (by simp) (Nat.le_refl _) rfl rfl (by omega) rfl rfl (fun bz => ?_)
  refine st (s_assign rfl) rfl ?_
  refine Run.nil ?_
  refine pj_then ?_
  refine J_seq ?_
  refine J_seq ?_
  refine J_reg ?_
  refine st (s_move rfl) rfl ?_
  refine st (s_len rfl) rfl ?_
  refine st (s_move rfl) rfl ?_
  refine Run.nil ?_
  refine pj_then ?_
  refine J_block ?_
  refine J_loop (σ := List Nat × Nat) (fun s => [(1, limT ly), (5, one (slV (some bz) (lx.length + ly.length) (lx.length + ly.length))), (17, limT lx), (18, one (.int .i64 lx.length)), (19, one (.int .i64 (s.2 : Nat)))])
      (fun s => [sliO (some bz) 79 .one (lx.length + ly.length) (lx.length + ly.length) (fun q => one (.int .u32 (s.1.getD q 0 : Nat)))]) (fun s => TimesR lx ly s.1 s.2) (fun s => lx.length - s.2) (List.replicate (lx.length + ly.length) 0, 0)
      ⟨by simp, by simp, Limbs.replicate _, fun k _ => getD_replicate0 _ _, by simp [lv_replicate, lv]⟩ (by repeat (first | exact SubG.nil | refine SubG.cons rfl (VT.le_refl _) ?_ | (refine SubG.cons rfl (one_le ?_) ?_; (congr 1; first | omega | (simp; omega) | simp)))) (.keep (sliO_eq (fun q _ => by rw [getD_replicate0]; rfl)) .nil) (fun s hR => ?_)
  obtain ⟨z0, i⟩ := s
  simp only at hR ⊢
  refine J_seq ?_
  refine J_reg ?_
  refine st (s_lt rfl rfl) rfl ?_
  refine Run.nil ?_
  refine pj_then ?_
  refine J_seq ?_
  refine J_cond rfl (fun hc => ?_) (fun hc => ?_) <;> simp at hc
  · have h1 := getD_lt hx i
    refine J_skip ?_
    refine pj_then ?_
    refine J_seq ?_
    refine J_block ?_
    refine J_seq ?_
    refine J_reg ?_
    refine st (s_move rfl) rfl ?_
    (refine st (s_indexIN rfl rfl ?_) rfl ?_; omega)
    refine st (s_load rfl) rfl ?_
    refine st (s_assign rfl) rfl ?_
    refine st (s_assign rfl) rfl ?_
    refine Run.nil ?_
    refine pj_then ?_
    refine J_seq ?_
    refine J_reg ?_
    refine st (s_assign rfl) rfl ?_
    refine Run.nil ?_
    refine pj_then ?_
    refine J_seq ?_
    refine J_seq ?_
    refine J_reg ?_
    refine st (s_move rfl) rfl ?_
    refine st (s_len rfl) rfl ?_
    refine st (s_move rfl) rfl ?_
    refine Run.nil ?_
    refine pj_then ?_
    refine J_block ?_
    refine J_loop (σ := List Nat × Nat × Nat) (fun s => [(1, limT ly), (5, one (slV (some bz) (lx.length + ly.length) (lx.length + ly.length))), (6, one (.int .i64 i)), (7, one (.int .u32 (lx.getD i 0 : Nat))), (8, one (.int .u64 (s.2.2 : Nat))), (24, limT ly), (25, one (.int .i64 ly.length)), (26, one (.int .i64 (s.2.1 : Nat))), (17, limT lx), (18, one (.int .i64 lx.length)), (19, one (.int .i64 i))])
      (fun s => [sliO (some bz) 79 .one (lx.length + ly.length) (lx.length + ly.length) (fun q => one (.int .u32 (s.1.getD q 0 : Nat)))]) (fun s => TimesI lx ly z0 s.1 i s.2.1 s.2.2) (fun s => ly.length - s.2.1) (z0, 0, 0)
      hR.start (by repeat (first | exact SubG.nil | refine SubG.cons rfl (VT.le_refl _) ?_ | (refine SubG.cons rfl (one_le ?_) ?_; (congr 1; first | omega | (simp; omega) | simp)))) (SubM.refl _) (fun s hI => ?_)
    obtain ⟨zz, j, c⟩ := s
    simp only at hI ⊢
    refine J_seq ?_
    refine J_reg ?_
    refine st (s_lt rfl rfl) rfl ?_
    refine Run.nil ?_
    refine pj_then ?_
    refine J_seq ?_
    refine J_cond rfl (fun hc2 => ?_) (fun hc2 => ?_) <;> simp at hc2
    · have h2 := getD_lt hy j
      have h3 := getD_lt hI.lim (i + j)
      have h4 := mul_lim h1 h2 h3 hI.c1
      have h5 := hI.c1
      refine J_skip ?_
      refine pj_then ?_
      refine J_seq ?_
      refine J_block ?_
      refine J_seq ?_
      refine J_reg ?_
      refine st (s_move rfl) rfl ?_
      (refine st (s_indexIN rfl rfl ?_) rfl ?_; omega)
      refine st (s_load rfl) rfl ?_
      refine st (s_assign rfl) rfl ?_
      refine st (s_assign rfl) rfl ?_
      refine Run.nil ?_
      refine pj_then ?_
      refine J_seq ?_
      refine J_reg ?_
      refine st (s_move rfl) rfl ?_
      refine st (s_move rfl) rfl ?_
      (refine st (s_toU64 rfl ?_) rfl ?_; omega)
      refine st (s_move rfl) rfl ?_
      (refine st (s_toU64 rfl ?_) rfl ?_; omega)
      (refine st (s_mulU rfl rfl ?_) rfl ?_; omega)
      refine st (s_move rfl) rfl ?_
      refine st (s_move rfl) rfl ?_
      refine st (s_move rfl) rfl ?_
      (refine st (s_add rfl rfl (wrap_i64 ?_ ?_)) rfl ?_; omega; omega)
      (refine st (s_indexON rfl rfl ?_) rfl ?_; omega)
      (refine st (s_loadE 0 rfl rfl ?_) rfl ?_; omega)
      (refine st (s_toU64 rfl ?_) rfl ?_; omega)
      (refine st (s_addU rfl rfl ?_) rfl ?_; omega)
      (refine st (s_addU rfl rfl ?_) rfl ?_; omega)
      refine st (s_assign rfl) rfl ?_
      refine Run.nil ?_
      refine pj_then ?_
      refine J_seq ?_
      refine J_reg ?_
      refine st (s_move rfl) rfl ?_
      refine st (s_move rfl) rfl ?_
      refine st (s_move rfl) rfl ?_
      (refine st (s_add rfl rfl (wrap_i64 ?_ ?_)) rfl ?_; omega; omega)
      refine st (s_move rfl) rfl ?_
      refine st (s_toU32 rfl) rfl ?_
      (refine st (s_indexON rfl rfl ?_) rfl ?_; omega)
      (refine a_storeE 0 rfl rfl rfl ?_ rfl ?_; omega)
      refine Run.nil ?_
      refine pj_then ?_
      refine J_reg ?_
      refine st (s_move rfl) rfl ?_
      refine st (s_shr32 rfl) rfl ?_
      refine st (s_assign rfl) rfl ?_
      refine Run.nil ?_
      refine pn_block ?_
      refine pj_then ?_
      refine J_reg ?_
      (refine st (s_add rfl rfl (wrap_i64 ?_ ?_)) rfl ?_; omega; omega)
      refine st (s_move rfl) rfl ?_
      refine Run.nil ?_
      have hstep := hI.step hx hy hc hc2
      have hlt : i + j < zz.length := by rw [hI.len]; omega
      refine pj_round (s := (zz, j, c)) (zz.set (i + j) ((c + (lx.getD i 0 * ly.getD j 0 + zz.getD (i + j) 0)) % 4294967296), j + 1, (c + (lx.getD i 0 * ly.getD j 0 + zz.getD (i + j) 0)) / 4294967296) hstep (by simp; omega) (by repeat (first | exact SubG.nil | refine SubG.cons rfl (VT.le_refl _) ?_ | (refine SubG.cons rfl (one_le ?_) ?_; (congr 1; first | omega | (simp; omega) | simp)))) (.keep (sliO_eq (fun q hq => ?_)) .nil)
      unfold upd; rw [getD_setL hlt]; split <;> rfl
    · have hj : j = ly.length := by have := hI.le; omega
      subst hj
      refine J_exit ?_
      refine px_then ?_
      refine px_then ?_
      refine px_block ?_
      refine pj_then ?_
      refine J_reg ?_
      refine st (s_move rfl) rfl ?_
      refine st (s_move rfl) rfl ?_
      refine st (s_move rfl) rfl ?_
      refine st (s_len rfl) rfl ?_
      (refine st (s_add rfl rfl (wrap_i64 ?_ ?_)) rfl ?_; omega; omega)
      refine st (s_move rfl) rfl ?_
      refine st (s_toU32 rfl) rfl ?_
      (refine st (s_indexON rfl rfl ?_) rfl ?_; omega)
      (refine a_storeE 0 rfl rfl rfl ?_ rfl ?_; omega)
      refine Run.nil ?_
      refine pn_block ?_
      refine pj_then ?_
      refine J_reg ?_
      (refine st (s_add rfl rfl (wrap_i64 ?_ ?_)) rfl ?_; omega; omega)
      refine st (s_move rfl) rfl ?_
      refine Run.nil ?_
      have hfin := hI.finish hR hc
      have hlt : i + ly.length < zz.length := by rw [hI.len]; omega
      refine pj_round (s := (z0, i)) (zz.set (i + ly.length) (c % 4294967296), i + 1) hfin (by simp; omega) (by repeat (first | exact SubG.nil | refine SubG.cons rfl (VT.le_refl _) ?_ | (refine SubG.cons rfl (one_le ?_) ?_; (congr 1; first | omega | (simp; omega) | simp)))) (.keep (sliO_eq (fun q hq => ?_)) .nil)
      unfold upd; rw [getD_setL hlt]; split <;> rfl
  · have hi : i = lx.length := by have := hR.le; omega
    refine J_exit ?_
    refine px_then ?_
    refine px_then ?_
    refine px_block ?_
    refine pj_then ?_
    refine J_seq ?_
    refine J_reg ?_
    refine st (s_move rfl) rfl ?_
    refine st (s_assign rfl) rfl ?_
    refine Run.nil ?_
    refine pj_then ?_
    refine J_ret ?_
    refine PJ_freeze (t := 4) (i := 0) rfl rfl ?_
    refine retc1 Try.results92 (.tmp rfl (VT.le_trans (slT_le' (m := z0.length) (ψ := fun i => one (.int .u32 (z0.getD i 0 : Nat))) hR.len.symm (fun q hq => rfl)) (natT_of (l := z0) hR.lim ?_)))
    rw [hR.val, hi, List.take_length, hva, hvb]
end Tor
