/-
  Theorems that the proofs of laws of this seat rest on.
  No condition.
-/
import Derived.Test.YtelkiipjepcjmaaFB3
import Init
set_option linter.unusedVariables false
set_option linter.unusedSimpArgs false
section
namespace Tor
open Go Go.RowKit Go.Proofs
attribute [local irreducible] Tor.J Tor.PJ Tor.StepO Tor.one Tor.slT Tor.ptrT Tor.aggT Tor.tupT Tor.exT Tor.andT Tor.eP Tor.boxO Tor.sliO Tor.slV Tor.VT.le Tor.Ret Tor.anyT
structure TimesR (lx ly zz : List Nat) (i : Nat) : Prop where
  le : i ≤ lx.length
  len : zz.length = lx.length + ly.length
  lim : Limbs zz
  zero : ∀ k, i + ly.length ≤ k → zz.getD k 0 = 0
  val : lv zz = lv (lx.take i) * lv ly
structure TimesI (lx ly z0 zz : List Nat) (i j c : Nat) : Prop where
  le : j ≤ ly.length
  len : zz.length = lx.length + ly.length
  lim : Limbs zz
  zero : ∀ k, i + ly.length ≤ k → zz.getD k 0 = 0
  c1 : c < 4294967296
  val : lv zz + 4294967296 ^ (i + j) * c = lv z0 + 4294967296 ^ i * (lx.getD i 0 * lv (ly.take j))
theorem TimesI.step {lx ly z0 zz : List Nat} {i j c : Nat} (h : TimesI lx ly z0 zz i j c) (hx : Limbs lx) (hy : Limbs ly) (hi : i < lx.length) (hj : j < ly.length) :
    TimesI lx ly z0 (zz.set (i + j) ((c + (lx.getD i 0 * ly.getD j 0 + zz.getD (i + j) 0)) % 4294967296)) i (j + 1) ((c + (lx.getD i 0 * ly.getD j 0 + zz.getD (i + j) 0)) / 4294967296) := by
  have hlim := mul_lim (getD_lt hx i) (getD_lt hy j) (getD_lt h.lim (i + j)) h.c1
  have hlt : i + j < zz.length := by rw [h.len]; omega
  refine ⟨hj, by rw [List.length_set]; exact h.len, h.lim.set (by omega), fun k hk => ?_, by omega, ?_⟩
  · rw [getD_setL hlt, if_neg (by omega)]; exact h.zero k hk
  · have hs := lv_set (l := zz) (k := i + j) (v := (c + (lx.getD i 0 * ly.getD j 0 + zz.getD (i + j) 0)) % 4294967296) hlt
    have hv := h.val
    rw [lv_take_succ hj]
    generalize lx.getD i 0 = x at *
    generalize ly.getD j 0 = y at *
    generalize zz.getD (i + j) 0 = z at *
    have e : c + (x * y + z) = 4294967296 * ((c + (x * y + z)) / 4294967296) + (c + (x * y + z)) % 4294967296 := by omega
    generalize (c + (x * y + z)) / 4294967296 = q at *
    generalize (c + (x * y + z)) % 4294967296 = r at *
    rw [show i + (j + 1) = (i + j) + 1 by omega, Nat.pow_succ]
    have eB : 4294967296 ^ i * 4294967296 ^ j = 4294967296 ^ (i + j) := (Nat.pow_add _ _ _).symm
    have e3 : 4294967296 ^ i * (x * (lv (ly.take j) + 4294967296 ^ j * y)) = 4294967296 ^ i * (x * lv (ly.take j)) + 4294967296 ^ (i + j) * (x * y) := by
      rw [Nat.mul_add, Nat.mul_add, ← eB]
      congr 1
      rw [Nat.mul_assoc]; congr 1
      rw [Nat.mul_left_comm]
    rw [e3]
    generalize 4294967296 ^ (i + j) = B at *
    have e2 : B * (c + (x * y + z)) = B * (4294967296 * q + r) := by rw [e]
    simp only [Nat.mul_add, ← Nat.mul_assoc] at e2 ⊢ hs hv
    omega
theorem TimesR.start {lx ly z0 : List Nat} {i : Nat} (h : TimesR lx ly z0 i) : TimesI lx ly z0 z0 i 0 0 := ⟨Nat.zero_le _, h.len, h.lim, h.zero, by decide, by simp [lv]⟩
theorem TimesI.finish {lx ly z0 zz : List Nat} {i c : Nat} (h0 : TimesR lx ly z0 i) (h : TimesI lx ly z0 zz i ly.length c) (hi : i < lx.length) : TimesR lx ly (zz.set (i + ly.length) (c % 4294967296)) (i + 1) := by
  have hlt : i + ly.length < zz.length := by rw [h.len]; omega
  have hc := h.c1
  refine ⟨hi, by rw [List.length_set]; exact h.len, h.lim.set (by omega), fun k hk => ?_, ?_⟩
  · rw [getD_setL hlt, if_neg (by omega)]; exact h.zero k (by omega)
  · have hs := lv_set (l := zz) (k := i + ly.length) (v := c % 4294967296) hlt
    rw [h.zero _ (Nat.le_refl _), Nat.mul_zero, Nat.add_zero, Nat.mod_eq_of_lt hc] at hs
    rw [Nat.mod_eq_of_lt hc, hs, h.val, List.take_length, h0.val, lv_take_succ hi, Nat.add_mul, Nat.mul_assoc]
theorem Limbs.replicate (n : Nat) : Limbs (List.replicate n 0) := fun d hd => by
  have := (List.mem_replicate.1 hd).2; omega
theorem lv_replicate : ∀ n, lv (List.replicate n 0) = 0
  | 0 => rfl
  | n + 1 => by rw [List.replicate_succ, lv, lv_replicate n]
theorem getD_replicate0 (n q : Nat) : (List.replicate n 0).getD q 0 = 0 := by
  simp only [List.getD, List.getElem?_replicate]; split <;> rfl
theorem times_ok (a b : Nat) (ha : (digs a).length ≤ 1099511627776) (hb : (digs b).length ≤ 1099511627776) : Ok Try.prog 73 [limT (digs a), limT (digs b)] (natT (a * b)) := by
  refine Ok.enter Try.func73 rfl Try.ntmps73 rfl (fun w O => ?_)
  have hx := limbs_digs a
  have hy := limbs_digs b
  have hva := lv_digs a
  have hvb := lv_digs b
  generalize digs a = lx at *
  generalize digs b = ly at *
  refine J_seq (J_reg (st (s_assign rfl) rfl (Run.nil (pj_then (J_seq (J_reg (st (s_move rfl) rfl (st (s_len rfl) rfl (st (s_move rfl) rfl ?_)))))))))
  refine st (s_len rfl) rfl ?_
  (refine st (s_add rfl rfl (wrap_i64 ?_ ?_)) rfl ?_; omega; omega)
  refine a_makeSlice (lx.length + ly.length) (lx.length + ly.length) rfl rfl (by simp) (by simp) (Nat.le_refl _) rfl rfl (by omega) rfl rfl (fun bz => ?_)
  refine st (s_assign rfl) rfl (Run.nil (pj_then (J_seq (J_seq (J_reg (st (s_move rfl) rfl (st (s_len rfl) rfl (st (s_move rfl) rfl (Run.nil ?_)))))))))
  refine pj_then (J_block ?_)
  refine J_loop (σ := List Nat × Nat) (fun s => [(1, limT ly), (5, one (slV (some bz) (lx.length + ly.length) (lx.length + ly.length))), (17, limT lx), (18, one (.int .i64 lx.length)), (19, one (.int .i64 (s.2 : Nat)))])
      (fun s => [sliO (some bz) 78 .one (lx.length + ly.length) (lx.length + ly.length) (fun q => one (.int .u32 (s.1.getD q 0 : Nat)))]) (fun s => TimesR lx ly s.1 s.2) (fun s => lx.length - s.2) (List.replicate (lx.length + ly.length) 0, 0)
      ⟨by simp, by simp, Limbs.replicate _, fun k _ => getD_replicate0 _ _, by simp [lv_replicate, lv]⟩ (by repeat (first | exact SubG.nil | refine SubG.cons rfl (VT.le_refl _) ?_ | (refine SubG.cons rfl (one_le ?_) ?_; (congr 1; first | omega | (simp; omega) | simp)))) (.keep (sliO_eq (fun q _ => by rw [getD_replicate0]; rfl)) .nil) (fun s hR => ?_)
  obtain ⟨z0, i⟩ := s
  simp only at hR ⊢
  refine J_seq (J_reg (st (s_lt rfl rfl) rfl (Run.nil (pj_then (J_seq ?_)))))
  refine J_cond rfl (fun hc => ?_) (fun hc => ?_) <;> simp at hc
  · have h1 := getD_lt hx i
    refine J_skip (pj_then (J_seq (J_block (J_seq (J_reg (st (s_move rfl) rfl ?_))))))
    (refine st (s_indexIN rfl rfl ?_) rfl ?_; omega)
    refine st (s_load rfl) rfl (st (s_assign rfl) rfl (st (s_assign rfl) rfl (Run.nil (pj_then (J_seq (J_reg (st (s_assign rfl) rfl (Run.nil (pj_then ?_)))))))))
    refine J_seq (J_seq (J_reg (st (s_move rfl) rfl (st (s_len rfl) rfl (st (s_move rfl) rfl (Run.nil (pj_then (J_block ?_))))))))
    refine J_loop (σ := List Nat × Nat × Nat) (fun s => [(1, limT ly), (5, one (slV (some bz) (lx.length + ly.length) (lx.length + ly.length))), (6, one (.int .i64 i)), (7, one (.int .u32 (lx.getD i 0 : Nat))), (8, one (.int .u64 (s.2.2 : Nat))), (24, limT ly), (25, one (.int .i64 ly.length)), (26, one (.int .i64 (s.2.1 : Nat))), (17, limT lx), (18, one (.int .i64 lx.length)), (19, one (.int .i64 i))])
      (fun s => [sliO (some bz) 78 .one (lx.length + ly.length) (lx.length + ly.length) (fun q => one (.int .u32 (s.1.getD q 0 : Nat)))]) (fun s => TimesI lx ly z0 s.1 i s.2.1 s.2.2) (fun s => ly.length - s.2.1) (z0, 0, 0)
      hR.start (by repeat (first | exact SubG.nil | refine SubG.cons rfl (VT.le_refl _) ?_ | (refine SubG.cons rfl (one_le ?_) ?_; (congr 1; first | omega | (simp; omega) | simp)))) (SubM.refl _) (fun s hI => ?_)
    obtain ⟨zz, j, c⟩ := s
    simp only at hI ⊢
    refine J_seq (J_reg (st (s_lt rfl rfl) rfl (Run.nil (pj_then (J_seq ?_)))))
    refine J_cond rfl (fun hc2 => ?_) (fun hc2 => ?_) <;> simp at hc2
    · have h2 := getD_lt hy j
      have h3 := getD_lt hI.lim (i + j)
      have h4 := mul_lim h1 h2 h3 hI.c1
      have h5 := hI.c1
      refine J_skip (pj_then (J_seq (J_block (J_seq (J_reg (st (s_move rfl) rfl ?_))))))
      (refine st (s_indexIN rfl rfl ?_) rfl ?_; omega)
      refine st (s_load rfl) rfl (st (s_assign rfl) rfl (st (s_assign rfl) rfl (Run.nil (pj_then (J_seq (J_reg (st (s_move rfl) rfl (st (s_move rfl) rfl ?_))))))))
      (refine st (s_toU64 rfl ?_) rfl ?_; omega)
      refine st (s_move rfl) rfl ?_
      (refine st (s_toU64 rfl ?_) rfl ?_; omega)
      (refine st (s_mulU rfl rfl ?_) rfl ?_; omega)
      refine st (s_move rfl) rfl (st (s_move rfl) rfl (st (s_move rfl) rfl ?_))
      (refine st (s_add rfl rfl (wrap_i64 ?_ ?_)) rfl ?_; omega; omega)
      (refine st (s_indexON rfl rfl ?_) rfl ?_; omega)
      (refine st (s_loadE 0 rfl rfl ?_) rfl ?_; omega)
      (refine st (s_toU64 rfl ?_) rfl ?_; omega)
      (refine st (s_addU rfl rfl ?_) rfl ?_; omega)
      (refine st (s_addU rfl rfl ?_) rfl ?_; omega)
      refine st (s_assign rfl) rfl (Run.nil (pj_then (J_seq (J_reg (st (s_move rfl) rfl (st (s_move rfl) rfl (st (s_move rfl) rfl ?_)))))))
      (refine st (s_add rfl rfl (wrap_i64 ?_ ?_)) rfl ?_; omega; omega)
      refine st (s_move rfl) rfl (st (s_toU32 rfl) rfl ?_)
      (refine st (s_indexON rfl rfl ?_) rfl ?_; omega)
      (refine a_storeE 0 rfl rfl rfl ?_ rfl ?_; omega)
      refine Run.nil (pj_then (J_reg (st (s_move rfl) rfl (st (s_shr32 rfl) rfl (st (s_assign rfl) rfl (Run.nil (pn_block (pj_then (J_reg ?_)))))))))
      (refine st (s_add rfl rfl (wrap_i64 ?_ ?_)) rfl ?_; omega; omega)
      refine st (s_move rfl) rfl (Run.nil ?_)
      have hstep := hI.step hx hy hc hc2
      have hlt : i + j < zz.length := by rw [hI.len]; omega
      refine pj_round (s := (zz, j, c)) (zz.set (i + j) ((c + (lx.getD i 0 * ly.getD j 0 + zz.getD (i + j) 0)) % 4294967296), j + 1, (c + (lx.getD i 0 * ly.getD j 0 + zz.getD (i + j) 0)) / 4294967296) hstep (by simp; omega) (by repeat (first | exact SubG.nil | refine SubG.cons rfl (VT.le_refl _) ?_ | (refine SubG.cons rfl (one_le ?_) ?_; (congr 1; first | omega | (simp; omega) | simp)))) (.keep (sliO_eq (fun q hq => ?_)) .nil)
      unfold upd; rw [getD_setL hlt]; split <;> rfl
    · have hj : j = ly.length := by have := hI.le; omega
      subst hj
      refine J_exit (px_then (px_then (px_block (pj_then (J_reg (st (s_move rfl) rfl (st (s_move rfl) rfl (st (s_move rfl) rfl (st (s_len rfl) rfl ?_)))))))))
      (refine st (s_add rfl rfl (wrap_i64 ?_ ?_)) rfl ?_; omega; omega)
      refine st (s_move rfl) rfl (st (s_toU32 rfl) rfl ?_)
      (refine st (s_indexON rfl rfl ?_) rfl ?_; omega)
      (refine a_storeE 0 rfl rfl rfl ?_ rfl ?_; omega)
      refine Run.nil (pn_block (pj_then (J_reg ?_)))
      (refine st (s_add rfl rfl (wrap_i64 ?_ ?_)) rfl ?_; omega; omega)
      refine st (s_move rfl) rfl (Run.nil ?_)
      have hfin := hI.finish hR hc
      have hlt : i + ly.length < zz.length := by rw [hI.len]; omega
      refine pj_round (s := (z0, i)) (zz.set (i + ly.length) (c % 4294967296), i + 1) hfin (by simp; omega) (by repeat (first | exact SubG.nil | refine SubG.cons rfl (VT.le_refl _) ?_ | (refine SubG.cons rfl (one_le ?_) ?_; (congr 1; first | omega | (simp; omega) | simp)))) (.keep (sliO_eq (fun q hq => ?_)) .nil)
      unfold upd; rw [getD_setL hlt]; split <;> rfl
  · have hi : i = lx.length := by have := hR.le; omega
    refine J_exit (px_then (px_then (px_block (pj_then (J_seq (J_reg (st (s_move rfl) rfl (st (s_assign rfl) rfl (Run.nil ?_)))))))))
    refine pj_then (J_ret (PJ_freeze (t := 4) (i := 0) rfl rfl ?_))
    refine retc1 Try.results73 (.tmp rfl (VT.le_trans (slT_le' (m := z0.length) (ψ := fun i => one (.int .u32 (z0.getD i 0 : Nat))) hR.len.symm (fun q hq => rfl)) (natT_of (l := z0) hR.lim ?_)))
    rw [hR.val, hi, List.take_length, hva, hvb]
end Tor
end
section
namespace Tor
open Go Go.RowKit Go.Proofs
def sgT (neg : Bool) (v : Nat) : VT := aggT 2 [(0, .one, one (.bool neg)), (1, .one, limT (digs v))]
def sv (neg : Bool) (v : Nat) : Int := if neg then -(v : Int) else v
theorem bigT_sg (x : Int) : VT.le (bigT x) (sgT (decide (x < 0)) x.natAbs) := VT.le_refl _
theorem sv_big (x : Int) : sv (decide (x < 0)) x.natAbs = x := by
  unfold sv; by_cases h : x < 0
  · rw [decide_eq_true h, if_pos rfl]; omega
  · rw [decide_eq_false h]; simp only [Bool.false_eq_true, if_false]; omega
attribute [local irreducible] Tor.J Tor.PJ Tor.StepO Tor.one Tor.slT Tor.ptrT Tor.aggT Tor.tupT Tor.exT Tor.andT Tor.eP Tor.boxO Tor.sliO Tor.slV Tor.VT.le Tor.Ret Tor.anyT
attribute [local irreducible] bigT
theorem limbs_ok (u : Nat) (hu : u < 18446744073709551616) : Ok Try.prog 65 [one (.int .u64 u)] (natT u) := by
  refine Ok.enter Try.func65 rfl Try.ntmps65 rfl (fun w O => ?_)
  refine J_seq (J_reg (st (s_assign rfl) rfl (Run.nil (pj_then (J_seq (J_reg (st (s_move rfl) rfl (st (s_toU32 rfl) rfl (st (s_move rfl) rfl ?_)))))))))
  refine st (s_shr32 rfl) rfl (st (s_toU32 rfl) rfl (stS rfl rfl rfl rfl (PartsK.cons rfl (PartsK.cons rfl (PartsK.nil (st (s_assign rfl) rfl (Run.nil (pj_then (J_ret ?_)))))))))
  refine retc1 Try.results65 (.tmp rfl (VT.le_trans (slT_le' (m := [u % 4294967296, u / 4294967296 % 4294967296].length) (ψ := fun i => one (.int .u32 ([u % 4294967296, u / 4294967296 % 4294967296].getD i 0 : Nat))) rfl (fun q hq => ?_)) (natT_of (l := [u % 4294967296, u / 4294967296 % 4294967296]) ?_ ?_)))
  · match q, hq with
    | 0, _ => rfl
    | 1, _ => rfl
  · intro d hd; simp at hd; omega
  · simp only [lv]; omega
theorem Of_ok (n : Int) (h1 : -9223372036854775808 ≤ n) (h2 : n ≤ 9223372036854775807) : Ok Try.prog 44 [one (.int .i64 n)] (bigT n) := by
  refine Ok.enter Try.func44 rfl Try.ntmps44 rfl (fun w O => ?_)
  by_cases hn : n < 0
  · refine J_seq (J_reg ?_)
    refine a_alloc (T := 32) rfl (ltN rfl) (fun b => ?_)
    refine Run.nil (pj_then (J_seq (J_reg (st (s_move rfl) rfl (st (s_conv (r := ((18446744073709551616 - n.natAbs : Nat) : Int)) rfl (by rw [wrap_u64]; omega)) rfl (st (s_assign rfl) rfl (Run.nil (pj_then (J_seq ?_)))))))))
    refine J_seq (J_reg (st (s_move rfl) rfl (st (s_lt rfl rfl) rfl (Run.nil (pj_then ?_)))))
    refine J_cond rfl (fun hc => ?_) (fun hc => ?_) <;> simp at hc
    · refine J_reg (st (s_move rfl) rfl (st (s_neg (r := (n.natAbs : Int)) rfl (by rw [wrap_u64]; omega)) rfl (st (s_assign rfl) rfl (Run.nil (pj_then (J_seq (J_reg (st (s_move rfl) rfl (st (s_lt rfl rfl) rfl ?_)))))))))
      refine st (s_move rfl) rfl ?_
      refine st (s_callk (limbs_ok _ (by omega)) rfl ⟨VT.le_refl _, trivial⟩) rfl ?_
      refine st (s_callk (value_ok _ _) rfl ⟨VT.le_refl _, VT.le_refl _, trivial⟩) rfl ?_
      refine a_storeB 0 rfl rfl rfl rfl rfl (leN rfl) rfl (Run.nil (pj_then (J_ret ?_)))
      exact retc1 Try.results44 (.cellB 0 rfl rfl rfl (bigT_eq (by rw [decide_eq_true hn, if_pos rfl]; omega)))
    · omega
  · refine J_seq (J_reg ?_)
    refine a_alloc (T := 32) rfl (ltN rfl) (fun b => ?_)
    refine Run.nil (pj_then (J_seq (J_reg (st (s_move rfl) rfl (st (s_conv (r := (n.natAbs : Int)) rfl (by rw [wrap_u64]; omega)) rfl (st (s_assign rfl) rfl (Run.nil (pj_then (J_seq ?_)))))))))
    refine J_seq (J_reg (st (s_move rfl) rfl (st (s_lt rfl rfl) rfl (Run.nil (pj_then ?_)))))
    refine J_cond rfl (fun hc => ?_) (fun hc => ?_) <;> simp at hc
    · omega
    · refine J_skip (pj_then (J_seq (J_reg (st (s_move rfl) rfl (st (s_lt rfl rfl) rfl (st (s_move rfl) rfl ?_))))))
      refine st (s_callk (limbs_ok _ (by omega)) rfl ⟨VT.le_refl _, trivial⟩) rfl ?_
      refine st (s_callk (value_ok _ _) rfl ⟨VT.le_refl _, VT.le_refl _, trivial⟩) rfl ?_
      refine a_storeB 0 rfl rfl rfl rfl rfl (leN rfl) rfl (Run.nil (pj_then (J_ret ?_)))
      exact retc1 Try.results44 (.cellB 0 rfl rfl rfl (bigT_eq (by rw [decide_eq_false hn]; simp; omega)))
def sgnI (x : Int) : Int := if x = 0 then 0 else if x < 0 then -1 else 1
theorem Sign_ok (neg : Bool) (v : Nat) : Ok Try.prog 41 [sgT neg v] (one (.int .i64 (sgnI (sv neg v)))) := by
  refine Ok.enter Try.func41 rfl Try.ntmps41 rfl (fun w O => ?_)
  refine J_seq (J_reg ?_)
  refine a_boxS rfl rfl (ltN rfl) (fun b => ?_)
  refine st (s_assign rfl) rfl (Run.nil (pj_then (J_seq (J_block (J_seq (J_reg (st (s_fieldAddr rfl) rfl (st (s_loadB 0 rfl rfl rfl) rfl ?_))))))))
  refine st (s_callk (trim_ok _) rfl ⟨natT_digs _, trivial⟩) rfl ?_
  refine st (s_len rfl) rfl (st (s_eq rfl rfl) rfl (st (s_assign rfl) rfl (Run.nil (pj_then ?_))))
  refine J_cond rfl (fun hc => ?_) (fun hc => ?_) <;> simp at hc
  · have hv : v = 0 := by rw [← lv_digs v, hc]; rfl
    refine J_seq (J_reg (st (s_assign rfl) rfl (Run.nil (pj_then (J_ret (pr_block (pr_then ?_)))))))
    exact retc1 Try.results41 (.tmp rfl (one_le (by subst hv; simp [sgnI, sv])))
  · have hv : v ≠ 0 := by intro e; subst e; exact hc rfl
    refine J_seq (J_reg (st (s_fieldAddr rfl) rfl (st (s_loadB 0 rfl rfl rfl) rfl (st (s_assign rfl) rfl (Run.nil (pj_then ?_))))))
    refine J_cond rfl (fun hc2 => ?_) (fun hc2 => ?_)
    · subst hc2
      refine J_seq (J_reg (st (s_assign rfl) rfl (Run.nil (pj_then (J_ret (pr_block (pr_then ?_)))))))
      exact retc1 Try.results41 (.tmp rfl (one_le (by congr 1; unfold sgnI sv; simp only [if_true]; rw [if_neg (by omega), if_pos (by omega)])))
    · subst hc2
      refine J_skip (pn_block (pj_then (J_seq (J_reg (st (s_assign rfl) rfl (Run.nil (pj_then (J_ret ?_))))))))
      exact retc1 Try.results41 (.tmp rfl (one_le (by congr 1; unfold sgnI sv; simp only [Bool.false_eq_true, if_false]; rw [if_neg (by omega), if_neg (by omega)])))
theorem Add_ok (n1 n2 : Bool) (v1 v2 : Nat) (h1 : (digs v1).length ≤ 1099511627776) (h2 : (digs v2).length ≤ 1099511627776) : Ok Try.prog 51 [sgT n1 v1, sgT n2 v2] (bigT (sv n1 v1 + sv n2 v2)) := by
  refine Ok.enter Try.func51 rfl Try.ntmps51 rfl (fun w O => ?_)
  refine J_seq (J_reg ?_)
  refine a_boxS rfl rfl (ltN rfl) (fun b => ?_)
  refine a_boxS rfl rfl (ltN rfl) (fun b => ?_)
  refine a_alloc (T := 32) rfl (ltN rfl) (fun b => ?_)
  refine Run.nil (pj_then (J_seq (J_regd 8 mixed (by kernel_rfl) (by decide) (st (s_fieldAddr rfl) rfl (st (s_loadB 2 rfl rfl rfl) rfl ?_)))))
  refine st (s_callk (trim_ok _) rfl ⟨natT_digs _, trivial⟩) rfl ?_
  refine st (s_fieldAddr rfl) rfl (st (s_loadB 1 rfl rfl rfl) rfl ?_)
  refine st (s_callk (trim_ok _) rfl ⟨natT_digs _, trivial⟩) rfl ?_
  refine st (s_assign rfl) rfl (st (s_assign rfl) rfl (Run.nil (Run.nil (pj_then (J_seq (J_block (J_seq (J_reg (st (s_fieldAddr rfl) rfl ?_)))))))))
  refine st (s_loadB 2 rfl rfl rfl) rfl (st (s_fieldAddr rfl) rfl (st (s_loadB 1 rfl rfl rfl) rfl (st (s_eqB rfl rfl) rfl (st (s_assign rfl) rfl (Run.nil (pj_then ?_))))))
  refine J_cond rfl (fun hc => ?_) (fun hc => ?_) <;> simp at hc
  · subst hc
    refine J_seq (J_regd 6 mixed (by kernel_rfl) (by decide) (st (s_fieldAddr rfl) rfl (st (s_loadB 2 rfl rfl rfl) rfl (st (s_move rfl) rfl (st (s_move rfl) rfl ?_)))))
    refine st (s_callk (plus_ok _ _ h1 h2) rfl ⟨VT.le_refl _, VT.le_refl _, trivial⟩) rfl ?_
    refine st (s_callk (value_ok _ _) rfl ⟨VT.le_refl _, VT.le_refl _, trivial⟩) rfl ?_
    refine Run.nil (a_storeB 0 rfl rfl rfl rfl rfl (leN rfl) rfl (Run.nil (pj_then (J_ret (pr_block (pr_then ?_))))))
    exact retc1 Try.results51 (.cellB 0 rfl rfl rfl (bigT_eq (by unfold sv; split <;> omega)))
  · refine J_seq (J_reg (st (s_move rfl) rfl (st (s_move rfl) rfl ?_)))
    refine st (s_callk (compare_ok _ _) rfl ⟨VT.le_refl _, VT.le_refl _, trivial⟩) rfl ?_
    refine st (s_lt rfl rfl) rfl (st (s_assign rfl) rfl (Run.nil (pj_then ?_)))
    refine J_cond rfl (fun hc2 => ?_) (fun hc2 => ?_) <;> simp at hc2
    · have hlt : v1 < v2 := by
        unfold cmpN at hc2; split at hc2
        · assumption
        · split at hc2 <;> omega
      refine J_seq (J_regd 6 mixed (by kernel_rfl) (by decide) (st (s_fieldAddr rfl) rfl (st (s_loadB 1 rfl rfl rfl) rfl (st (s_move rfl) rfl (st (s_move rfl) rfl ?_)))))
      refine st (s_callk (minus_ok _ _ (by omega) h2) rfl ⟨VT.le_refl _, VT.le_refl _, trivial⟩) rfl ?_
      refine st (s_callk (value_ok _ _) rfl ⟨VT.le_refl _, VT.le_refl _, trivial⟩) rfl ?_
      refine Run.nil (a_storeB 0 rfl rfl rfl rfl rfl (leN rfl) rfl (Run.nil (pj_then (J_ret (pr_block (pr_then ?_))))))
      exact retc1 Try.results51 (.cellB 0 rfl rfl rfl (bigT_eq (by unfold sv; cases n1 <;> cases n2 <;> simp at hc ⊢ <;> omega)))
    · have hge : v2 ≤ v1 := by
        unfold cmpN at hc2; split at hc2 <;> omega
      refine J_skip (pn_block (pj_then (J_seq (J_regd 6 mixed (by kernel_rfl) (by decide) (st (s_fieldAddr rfl) rfl (st (s_loadB 2 rfl rfl rfl) rfl (st (s_move rfl) rfl (st (s_move rfl) rfl ?_))))))))
      refine st (s_callk (minus_ok _ _ (by omega) h1) rfl ⟨VT.le_refl _, VT.le_refl _, trivial⟩) rfl ?_
      refine st (s_callk (value_ok _ _) rfl ⟨VT.le_refl _, VT.le_refl _, trivial⟩) rfl ?_
      refine Run.nil (a_storeB 0 rfl rfl rfl rfl rfl (leN rfl) rfl (Run.nil (pj_then (J_ret ?_))))
      exact retc1 Try.results51 (.cellB 0 rfl rfl rfl (bigT_eq (by unfold sv; cases n1 <;> cases n2 <;> simp at hc ⊢ <;> omega)))
theorem Mul_ok (n1 n2 : Bool) (v1 v2 : Nat) (h1 : (digs v1).length ≤ 1099511627776) (h2 : (digs v2).length ≤ 1099511627776) : Ok Try.prog 52 [sgT n1 v1, sgT n2 v2] (bigT (sv n1 v1 * sv n2 v2)) := by
  refine Ok.enter Try.func52 rfl Try.ntmps52 rfl (fun w O => ?_)
  refine J_seq (J_reg ?_)
  refine a_boxS rfl rfl (ltN rfl) (fun b => ?_)
  refine a_boxS rfl rfl (ltN rfl) (fun b => ?_)
  refine a_alloc (T := 32) rfl (ltN rfl) (fun b => ?_)
  refine Run.nil (pj_then (J_seq (J_regd 13 mixed (by kernel_rfl) (by decide) (st (s_fieldAddr rfl) rfl (st (s_loadB 2 rfl rfl rfl) rfl (st (s_fieldAddr rfl) rfl (st (s_loadB 1 rfl rfl rfl) rfl (st (s_neB rfl rfl) rfl (st (s_fieldAddr rfl) rfl ?_)))))))))
  refine st (s_loadB 2 rfl rfl rfl) rfl ?_
  refine st (s_callk (trim_ok _) rfl ⟨natT_digs _, trivial⟩) rfl ?_
  refine st (s_fieldAddr rfl) rfl (st (s_loadB 1 rfl rfl rfl) rfl ?_)
  refine st (s_callk (trim_ok _) rfl ⟨natT_digs _, trivial⟩) rfl ?_
  skip
  refine st (s_callk (times_ok _ _ h1 h2) rfl ⟨VT.le_refl _, VT.le_refl _, trivial⟩) rfl ?_
  refine st (s_callk (value_ok _ _) rfl ⟨VT.le_refl _, VT.le_refl _, trivial⟩) rfl ?_
  refine Run.nil (a_storeB 0 rfl rfl rfl rfl rfl (leN rfl) rfl (Run.nil (pj_then (J_ret ?_))))
  exact retc1 Try.results52 (.cellB 0 rfl rfl rfl (bigT_eq (by unfold sv; cases n1 <;> cases n2 <;> simp [Int.neg_mul, Int.mul_neg])))
theorem cmp_sgn {n1 n2 : Bool} {v1 v2 : Nat} (h : sgnI (sv n1 v1) = sgnI (sv n2 v2)) : IntKind.i64.wrap (sgnI (sv n1 v1) * cmpN v1 v2) = cmpI (sv n1 v1) (sv n2 v2) := by
  have key : sgnI (sv n1 v1) * cmpN v1 v2 = cmpI (sv n1 v1) (sv n2 v2) := by
    unfold sgnI sv cmpN cmpI at *
    cases n1 <;> cases n2 <;> simp only [if_true, if_false, Bool.false_eq_true] at * <;> (repeat' split at h) <;> (try omega) <;> (repeat' split) <;> omega
  rw [key]
  unfold cmpI; split
  · decide
  · split <;> decide
theorem Cmp_ok (n1 n2 : Bool) (v1 v2 : Nat) : Ok Try.prog 54 [sgT n1 v1, sgT n2 v2] (one (.int .i64 (cmpI (sv n1 v1) (sv n2 v2)))) := by
  refine Ok.enter Try.func54 rfl Try.ntmps54 rfl (fun w O => ?_)
  refine J_seq (J_reg ?_)
  refine a_boxS rfl rfl (ltN rfl) (fun b => ?_)
  refine a_boxS rfl rfl (ltN rfl) (fun b => ?_)
  refine st (s_assign rfl) rfl (Run.nil (pj_then (J_seq (J_regd 6 mixed (by kernel_rfl) (by decide) (st (s_loadW 1 rfl rfl) rfl ?_)))))
  refine st (s_callk (Sign_ok n1 v1) rfl ⟨VT.le_refl _, trivial⟩) rfl ?_
  refine st (s_loadW 0 rfl rfl) rfl ?_
  refine st (s_callk (Sign_ok n2 v2) rfl ⟨VT.le_refl _, trivial⟩) rfl ?_
  refine st (s_assign rfl) rfl (st (s_assign rfl) rfl (Run.nil (Run.nil (pj_then (J_seq (J_seq (J_reg (st (s_move rfl) rfl (st (s_move rfl) rfl ?_)))))))))
  refine st (s_ne rfl rfl) rfl (Run.nil (pj_then ?_))
  refine J_cond rfl (fun hc => ?_) (fun hc => ?_) <;> simp only [decide_eq_true_eq, decide_eq_false_iff_not, ne_eq, Decidable.not_not] at hc
  · refine J_seq (J_reg (st (s_move rfl) rfl (st (s_move rfl) rfl ?_)))
    refine st (s_callk (cmpCompare_int _ _) rfl ⟨VT.le_refl _, VT.le_refl _, trivial⟩) rfl ?_
    refine st (s_assign rfl) rfl (Run.nil (pj_then (J_ret (pr_then ?_))))
    exact retc1 Try.results54 (.tmp rfl (one_le (by congr 1; unfold sgnI at *; unfold cmpI; split at hc <;> split at hc <;> (try split at hc) <;> (try split at hc) <;> simp at * <;> (repeat' split) <;> omega)))
  · refine J_skip (pj_then (J_seq (J_regd 10 mixed (by kernel_rfl) (by decide) (st (s_move rfl) rfl (st (s_fieldAddr rfl) rfl (st (s_loadB 1 rfl rfl rfl) rfl ?_))))))
    refine st (s_callk (trim_ok _) rfl ⟨natT_digs _, trivial⟩) rfl ?_
    refine st (s_fieldAddr rfl) rfl (st (s_loadB 0 rfl rfl rfl) rfl ?_)
    refine st (s_callk (trim_ok _) rfl ⟨natT_digs _, trivial⟩) rfl ?_
    skip
    refine st (s_callk (compare_ok _ _) rfl ⟨VT.le_refl _, VT.le_refl _, trivial⟩) rfl ?_
    refine st (s_mul (r := cmpI (sv n1 v1) (sv n2 v2)) rfl rfl (cmp_sgn hc)) rfl (st (s_assign rfl) rfl (Run.nil (Run.nil (pj_then (J_ret ?_)))))
    exact retc1 Try.results54 (.tmp rfl (VT.le_refl _))
end Tor
end
section
namespace Tor
open Go Go.RowKit Go.Proofs
theorem bigT_made {nb neg : Bool} {v : Nat} (h : nb = (neg && decide (v ≠ 0))) : VT.le (aggT 2 [(0, .one, one (.bool nb)), (1, .one, limT (digs v))]) (bigT (if neg then -(v : Int) else v)) := by
  refine aggT_le (fun q hq => ?_)
  simp only [List.mem_cons, List.not_mem_nil, or_false] at hq
  rcases hq with rfl | rfl
  · have e : decide ((if neg then -(v : Int) else v) < 0) = nb := by rw [h]; cases neg <;> simp <;> (try omega) <;> (rw [Bool.eq_iff_iff]; simp; omega)
    exact ⟨_, List.mem_cons_self, le_eq (by rw [e])⟩
  · refine ⟨_, List.mem_cons_of_mem _ List.mem_cons_self, limT_eq ?_⟩
    cases neg <;> simp
theorem agg2_le {b : Bool} {φ ψ : VT} (h : VT.le φ ψ) : VT.le (aggT 2 [(0, .one, one (.bool b)), (1, .one, φ)]) (aggT 2 [(0, .one, one (.bool b)), (1, .one, ψ)]) := by
  refine aggT_le (fun q hq => ?_)
  simp only [List.mem_cons, List.not_mem_nil, or_false] at hq
  rcases hq with rfl | rfl
  · exact ⟨_, List.mem_cons_self, VT.le_refl _⟩
  · exact ⟨_, List.mem_cons_of_mem _ List.mem_cons_self, h⟩
attribute [local irreducible] Tor.J Tor.PJ Tor.StepO Tor.one Tor.slT Tor.ptrT Tor.aggT Tor.tupT Tor.exT Tor.andT Tor.eP Tor.boxO Tor.sliO Tor.slV Tor.VT.le Tor.Ret Tor.anyT
attribute [local irreducible] bigT
set_option maxHeartbeats 2000000 in
theorem rMade_ok (neg : Bool) (v : Nat) : Ok Try.prog 27 [natS v, one (.bool neg)] (bigT (if neg then -(v : Int) else v)) := by
  refine Ok.enter Try.func27 rfl Try.ntmps27 rfl (fun w O => ?_)
  refine J_ex (t := 0) rfl (fun l => J_and (t := 0) rfl (fun ⟨hL, hv, hb⟩ => ?_))
  subst hv
  refine J_seq (J_reg ?_)
  refine a_alloc (T := 32) rfl (ltN rfl) (fun b => ?_)
  refine Run.nil (pj_then (J_seq (J_reg (st (s_move rfl) rfl (st (s_len rfl) rfl (st (s_assign rfl) rfl (Run.nil (pj_then (J_seq ?_)))))))))
  refine J_block ?_
  refine J_loop (σ := Nat) (fun n => [(0, limT l), (1, one (.bool neg)), (4, one (.pointer (some ⟨b, 0, none⟩))), (5, one (.int .i64 n))]) (fun _ => [boxO b 32 2 [(0, .agg 2, one (.agg #[.bool false, .slice none 0 0]))]]) (fun n => n ≤ l.length ∧ trimN l n = trimN l l.length) (fun n => n) l.length ⟨Nat.le_refl _, rfl⟩ (by repeat (first | exact SubG.nil | refine SubG.cons rfl (VT.le_refl _) ?_ | (refine SubG.cons rfl (one_le ?_) ?_; (congr 1; first | omega | (simp; omega) | simp)))) (SubM.refl _) (fun n ⟨hn, ht⟩ => ?_)
  have hd := take_trimN hL
  refine J_seq (J_seq ?_)
  refine J_join (σ := Unit) (fun _ => [(0, limT l), (1, one (.bool neg)), (4, one (.pointer (some ⟨b, 0, none⟩))), (5, one (.int .i64 n)), (17, one (.bool (decide (0 < n ∧ l.getD (n - 1) 0 = 0))))]) (fun _ => [boxO b 32 2 [(0, .agg 2, one (.agg #[.bool false, .slice none 0 0]))]]) (fun _ => True) ?_ (fun _ _ => ?_)
  · by_cases h0 : 0 < n
    · obtain ⟨n, rfl⟩ : ∃ m, n = m + 1 := ⟨n - 1, by omega⟩
      refine J_reg (st (s_move rfl) rfl (st (s_gt rfl rfl) rfl (st (s_move rfl) rfl ?_)))
      refine bsel (t := 10) rfl (fun b hb => ?_)
      rw [hb]
      have : b = true := by rw [← hb]; simp
      subst this
      refine sg1 rfl rfl (s_move rfl) rfl (sg1 rfl rfl (s_move rfl) rfl ?_)
      (refine sg1 rfl rfl (s_sub rfl rfl (wrap_i64 ?_ ?_)) rfl ?_; omega; omega)
      (refine sg1 rfl rfl (s_indexI rfl rfl ?_ ?_) rfl ?_; omega; omega)
      refine sg1 rfl rfl (s_load rfl) rfl (sg1 rfl rfl (s_eq rfl rfl) rfl (st (s_pickT rfl rfl) rfl (Run.nil ?_)))
      exact pj_cut () trivial (.cons rfl (VT.le_refl _) (.cons rfl (VT.le_refl _) (.cons rfl (VT.le_refl _) (.cons rfl (VT.le_refl _) (.cons rfl (one_le (by simp)) .nil))))) (SubM.refl _)
    · refine J_reg (st (s_move rfl) rfl (st (s_gt rfl rfl) rfl (st (s_move rfl) rfl ?_)))
      refine bsel (t := 10) rfl (fun b hb => ?_)
      rw [hb]
      have : b = false := by rw [← hb]; simp; omega
      subst this
      refine sg0 rfl rfl rfl rfl (sg0 rfl rfl rfl rfl (sg0 rfl rfl rfl rfl (sg0 rfl rfl rfl rfl (sg0 rfl rfl rfl rfl (sg0 rfl rfl rfl rfl (st (s_pickF rfl rfl) rfl (Run.nil ?_)))))))
      exact pj_cut () trivial (.cons rfl (VT.le_refl _) (.cons rfl (VT.le_refl _) (.cons rfl (VT.le_refl _) (.cons rfl (VT.le_refl _) (.cons rfl (one_le (by simp; omega)) .nil))))) (SubM.refl _)
  · refine pj_then ?_
    refine J_cond rfl (fun hc => ?_) (fun hc => ?_) <;> simp only [decide_eq_true_eq, decide_eq_false_iff_not] at hc
    · obtain ⟨n, rfl⟩ : ∃ m, n = m + 1 := ⟨n - 1, by omega⟩
      refine J_skip (pj_then (J_block (J_reg (st (s_move rfl) rfl ?_))))
      (refine st (s_sub rfl rfl (wrap_i64 ?_ ?_)) rfl ?_; omega; omega)
      refine st (s_assign rfl) rfl (Run.nil (pn_block ?_))
      refine pj_round (s := n + 1) n ⟨by omega, by have h2 : l.getD n 0 = 0 := hc.2; rw [← ht, trimN, if_pos h2]⟩ (by omega) (by repeat (first | exact SubG.nil | refine SubG.cons rfl (VT.le_refl _) ?_ | (refine SubG.cons rfl (one_le ?_) ?_; (congr 1; first | omega | (simp; omega) | simp)))) (SubM.refl _)
    · have hz : trimN l n = n := by
        cases n with
        | zero => rfl
        | succ n =>
          have h2 : ¬ l.getD n 0 = 0 := fun h => hc ⟨by omega, h⟩
          rw [trimN, if_neg h2]
      rw [ht] at hz
      rw [hz] at hd
      have hlen : (digs (lv l)).length = n := by rw [← hd, List.length_take_of_le hn]
      have hnz : (0 < n) ↔ lv l ≠ 0 := by
        constructor
        · intro h e; rw [e] at hlen; simp [digs_zero] at hlen; omega
        · intro h; rw [← hlen]; exact Nat.pos_of_ne_zero (fun e => h (by rw [← lv_digs (lv l), List.eq_nil_of_length_eq_zero e]; rfl))
      have hmag : VT.le (slT .one (0 + ((n : Int) - 0).toNat) fun q => if q < 0 then [].reverse.getD q anyT else one (.int .u32 (l.getD (Int.toNat 0 + (q - 0)) 0 : Nat))) (limT (digs (lv l))) :=
        VT.le_trans (slT_le' (m := (l.take n).length) (ψ := fun q => one (.int .u32 ((l.take n).getD q 0 : Nat))) (by rw [List.length_take_of_le hn]; omega) (fun q hq => by
          simp only [Nat.not_lt_zero, if_false]
          rw [show Int.toNat 0 + (q - 0) = q from by simp]
          simp [List.getElem?_take_of_lt (show q < n by omega)])) (limT_eq hd)
      cases neg
      · refine J_exit (px_then (px_then (px_block (pj_then (J_seq (J_reg (st (s_move rfl) rfl (st (s_move rfl) rfl (sg0 rfl rfl rfl rfl ?_)))))))))
        refine sg0 rfl rfl rfl rfl (st (s_pickF rfl rfl) rfl (stSO (n := 0) rfl rfl rfl rfl rfl ?_))
        refine PartsK.nil (fun b => ?_)
        refine st (s_move rfl) rfl (st (s_move rfl) rfl ?_)
        (refine st (s_slice rfl rfl rfl rfl (fun _ => rfl) ?_ ?_ ?_ ?_) rfl ?_; omega; omega; omega; omega)
        (refine a_append 0 rfl rfl rfl (leN rfl) ?_ ?_ rfl (ltN rfl) (fun sv cap => ?_); omega; omega)
        refine Run_freeze (t := 29) (j := 0) rfl rfl (stB rfl rfl rfl (BuildK.cons rfl rfl rfl (BuildK.cons rfl rfl rfl (BuildK.nil (a_storeB 0 rfl rfl rfl rfl rfl (leN rfl) rfl (Run.nil (pj_then (J_ret ?_))))))))
        exact retc1 Try.results27 (.cellB 0 rfl rfl rfl (VT.le_trans (agg2_le hmag) (bigT_made (by simp))))
      · refine J_exit (px_then (px_then (px_block (pj_then (J_seq (J_reg (st (s_move rfl) rfl (st (s_move rfl) rfl (sg1 rfl rfl (s_move rfl) rfl ?_)))))))))
        refine sg1 rfl rfl (s_gt rfl rfl) rfl (st (s_pickT rfl rfl) rfl (stSO (n := 0) rfl rfl rfl rfl rfl ?_))
        refine PartsK.nil (fun b => ?_)
        refine st (s_move rfl) rfl (st (s_move rfl) rfl ?_)
        (refine st (s_slice rfl rfl rfl rfl (fun _ => rfl) ?_ ?_ ?_ ?_) rfl ?_; omega; omega; omega; omega)
        (refine a_append 0 rfl rfl rfl (leN rfl) ?_ ?_ rfl (ltN rfl) (fun sv cap => ?_); omega; omega)
        refine Run_freeze (t := 29) (j := 0) rfl rfl (stB rfl rfl rfl (BuildK.cons rfl rfl rfl (BuildK.cons rfl rfl rfl (BuildK.nil (a_storeB 0 rfl rfl rfl rfl rfl (leN rfl) rfl (Run.nil (pj_then (J_ret ?_))))))))
        exact retc1 Try.results27 (.cellB 0 rfl rfl rfl (VT.le_trans (agg2_le hmag) (bigT_made (by rw [Bool.true_and]; exact decide_eq_decide.2 (by rw [← hnz]; omega)))))
end Tor
end
section
namespace Tor
open Go Go.RowKit Go.Proofs
attribute [local irreducible] Tor.J Tor.PJ Tor.StepO Tor.one Tor.slT Tor.ptrT Tor.aggT Tor.tupT Tor.exT Tor.andT Tor.eP Tor.boxO Tor.sliO Tor.slV Tor.VT.le Tor.Ret Tor.anyT
set_option maxHeartbeats 1000000 in
theorem rless_ok (a b : Nat) : Ok Try.prog 43 [limT (digs a), limT (digs b)] (one (.bool (decide (a < b)))) := by
  refine Ok.enter Try.func43 rfl Try.ntmps43 rfl (fun w O => ?_)
  refine J_fact (t := 0) rfl (fun _ _ => slT_bound) (fun hb => ?_)
  refine J_seq (J_reg (st (s_assign rfl) rfl (Run.nil (pj_then (J_seq (J_seq (J_reg (st (s_move rfl) rfl (st (s_len rfl) rfl ?_)))))))))
  refine st (s_move rfl) rfl (st (s_len rfl) rfl (st (s_ne rfl rfl) rfl (Run.nil (pj_then ?_))))
  refine J_cond rfl (fun hc => ?_) (fun hc => ?_) <;> simp only [decide_eq_true_eq, decide_eq_false_iff_not, ne_eq, Decidable.not_not] at hc
  · refine J_seq (J_reg (st (s_move rfl) rfl (st (s_len rfl) rfl (st (s_move rfl) rfl (st (s_len rfl) rfl (st (s_lt rfl rfl) rfl (st (s_assign rfl) rfl (Run.nil (pj_then ?_)))))))))
    refine J_ret (pr_then ?_)
    refine retc1 Try.results43 (.tmp rfl (one_le ?_))
    congr 1
    rw [decide_eq_decide]
    constructor
    · intro h; exact digs_len_mono (by omega)
    · intro h; have := digs_len_le' (Nat.le_of_lt h); omega
  · have hlen : (digs a).length = (digs b).length := by omega
    refine J_skip (pj_then (J_seq (J_seq (J_reg (st (s_move rfl) rfl (st (s_len rfl) rfl ?_))))))
    (refine st (s_sub rfl rfl (wrap_i64 ?_ ?_)) rfl ?_; omega; omega)
    refine st (s_assign rfl) rfl (Run.nil (pj_then (J_block ?_)))
    refine J_loop (σ := Nat) (fun n => [(0, limT (digs a)), (1, limT (digs b)), (5, one (.int .i64 ((n : Int) - 1)))]) (fun _ => []) (fun n => n ≤ (digs a).length ∧ (digs a).drop n = (digs b).drop n) (fun n => n) (digs a).length
      ⟨Nat.le_refl _, by rw [List.drop_length, hlen, List.drop_length]⟩ (by repeat (first | exact SubG.nil | refine SubG.cons rfl (VT.le_refl _) ?_ | (refine SubG.cons rfl (one_le ?_) ?_; (congr 1; first | omega | (simp; omega) | simp)))) (SubM.refl _) (fun n ⟨hn, hd⟩ => ?_)
    refine J_seq (J_seq (J_reg (st (s_move rfl) rfl (st (s_ge rfl rfl) rfl (Run.nil (pj_then ?_))))))
    refine J_cond rfl (fun hc2 => ?_) (fun hc2 => ?_) <;> simp only [decide_eq_true_eq, decide_eq_false_iff_not] at hc2
    · obtain ⟨n, rfl⟩ : ∃ m, n = m + 1 := ⟨n - 1, by omega⟩
      have e : ((n + 1 : Nat) : Int) - 1 = n := by omega
      rw [e]
      refine J_skip (pj_then (J_seq (J_block (J_seq (J_regd 9 mixed (by kernel_rfl) (by decide) (st (s_move rfl) rfl (st (s_move rfl) rfl ?_)))))))
      (refine st (s_indexIN rfl rfl ?_) rfl ?_; omega)
      refine st (s_load rfl) rfl (st (s_move rfl) rfl (st (s_move rfl) rfl ?_))
      (refine st (s_indexIN rfl rfl ?_) rfl ?_; omega)
      refine st (s_load rfl) rfl (st (s_ne rfl rfl) rfl (Run.nil (Run.nil (pj_then ?_))))
      refine J_cond rfl (fun hc3 => ?_) (fun hc3 => ?_) <;> simp only [decide_eq_true_eq, decide_eq_false_iff_not, ne_eq, Decidable.not_not] at hc3
      · refine J_seq (J_regd 10 mixed (by kernel_rfl) (by decide) (st (s_move rfl) rfl (st (s_move rfl) rfl ?_)))
        (refine st (s_indexIN rfl rfl ?_) rfl ?_; omega)
        refine st (s_load rfl) rfl (st (s_move rfl) rfl (st (s_move rfl) rfl ?_))
        (refine st (s_indexIN rfl rfl ?_) rfl ?_; omega)
        refine st (s_load rfl) rfl (st (s_lt rfl rfl) rfl (st (s_assign rfl) rfl (Run.nil (Run.nil (pj_then (J_ret (pr_block (pr_then (pr_then ?_)))))))))
        refine pr_block (pr_then ?_)
        refine retc1 Try.results43 (.tmp rfl (one_le ?_))
        congr 1
        rw [decide_eq_decide]
        by_cases h1 : (digs a).getD n 0 < (digs b).getD n 0
        · have := lv_cmp (limbs_digs a) (limbs_digs b) hlen (i := n) (by omega) hd h1
          rw [lv_digs, lv_digs] at this
          exact ⟨fun _ => this, fun _ => by omega⟩
        · have := lv_cmp (limbs_digs b) (limbs_digs a) hlen.symm (i := n) (by omega) hd.symm (by omega)
          rw [lv_digs, lv_digs] at this
          exact ⟨fun h => by omega, fun h => by omega⟩
      · refine J_skip (pn_block (pj_then (J_reg (st (s_move rfl) rfl ?_))))
        (refine st (s_sub rfl rfl (wrap_i64 ?_ ?_)) rfl ?_; omega; omega)
        refine st (s_assign rfl) rfl (Run.nil ?_)
        refine pj_round (s := n + 1) n ⟨by omega, ?_⟩ (by omega) (by repeat (first | exact SubG.nil | refine SubG.cons rfl (VT.le_refl _) ?_ | (refine SubG.cons rfl (one_le ?_) ?_; (congr 1; first | omega | (simp; omega) | simp)))) (SubM.refl _)
        have h3 : (digs a).getD n 0 = (digs b).getD n 0 := by omega
        have e1 := drop_getD (l := digs a) (k := n) (by omega)
        have e2 := drop_getD (l := digs b) (k := n) (by omega)
        rw [e1, e2, h3, hd]
    · refine J_exit (px_then (px_then (px_block (pj_then (J_seq (J_reg (st (s_assign rfl) rfl (Run.nil (pj_then ?_)))))))))
      refine J_ret ?_
      have h0 : n = 0 := by omega
      subst h0
      have h4 : a = b := digs_inj (by simpa using hd)
      exact retc1 Try.results43 (.tmp rfl (one_le (by subst h4; simp)))
theorem rSign_ok (neg : Bool) (v : Nat) : Ok Try.prog 19 [sgT neg v] (one (.int .i64 (sgnI (sv neg v)))) := by
  refine Ok.enter Try.func19 rfl Try.ntmps19 rfl (fun w O => ?_)
  refine J_seq (J_reg ?_)
  refine a_boxS rfl rfl (ltN rfl) (fun b => ?_)
  refine st (s_assign rfl) rfl (Run.nil (pj_then (J_seq (J_seq (J_reg (st (s_fieldAddr rfl) rfl (st (s_loadB 0 rfl rfl rfl) rfl (st (s_len rfl) rfl (st (s_eq rfl rfl) rfl ?_)))))))))
  refine Run.nil (pj_then ?_)
  refine J_cond rfl (fun hc => ?_) (fun hc => ?_) <;> simp at hc
  · have hv : v = 0 := by rw [← lv_digs v, hc]; rfl
    refine J_seq (J_reg (st (s_assign rfl) rfl (Run.nil (pj_then (J_ret (pr_then ?_))))))
    exact retc1 Try.results19 (.tmp rfl (one_le (by subst hv; simp [sgnI, sv])))
  · have hv : v ≠ 0 := by intro e; subst e; exact hc rfl
    refine J_skip (pj_then (J_seq (J_seq (J_reg (st (s_fieldAddr rfl) rfl (st (s_loadB 0 rfl rfl rfl) rfl (Run.nil (pj_then ?_))))))))
    refine J_cond rfl (fun hc2 => ?_) (fun hc2 => ?_)
    · subst hc2
      refine J_seq (J_reg (st (s_assign rfl) rfl (Run.nil (pj_then (J_ret (pr_then ?_))))))
      exact retc1 Try.results19 (.tmp rfl (one_le (by congr 1; unfold sgnI sv; simp only [if_true]; rw [if_neg (by omega), if_pos (by omega)])))
    · subst hc2
      refine J_skip (pj_then (J_seq (J_reg (st (s_assign rfl) rfl (Run.nil (pj_then (J_ret ?_)))))))
      exact retc1 Try.results19 (.tmp rfl (one_le (by congr 1; unfold sgnI sv; simp only [Bool.false_eq_true, if_false]; rw [if_neg (by omega), if_neg (by omega)])))
set_option maxHeartbeats 1000000 in
theorem rSame_ok (x y : Int) : Ok Try.prog 13 [bigT x, bigT y] (one (.bool (decide (x = y)))) := by
  refine Ok.enter Try.func13 rfl Try.ntmps13 rfl (fun w O => ?_)
  refine J_seq (J_reg ?_)
  refine a_boxS rfl rfl (ltN rfl) (fun b => ?_)
  refine a_boxS rfl rfl (ltN rfl) (fun b => ?_)
  refine st (s_assign rfl) rfl (Run.nil (pj_then (J_seq (J_reg (st (s_fieldAddr rfl) rfl (st (s_loadB 1 rfl rfl rfl) rfl (st (s_fieldAddr rfl) rfl (st (s_loadB 0 rfl rfl rfl) rfl (st (s_eqB rfl rfl) rfl ?_)))))))))
  refine st (s_move rfl) rfl ?_
  refine bsel (t := 10) rfl (fun b hb => ?_)
  rw [hb]
  cases b
  · refine sg0 rfl rfl rfl rfl (sg0 rfl rfl rfl rfl (sg0 rfl rfl rfl rfl (sg0 rfl rfl rfl rfl (sg0 rfl rfl rfl rfl (sg0 rfl rfl rfl rfl (st (s_pickF rfl rfl) rfl (st (s_move rfl) rfl (sg0 rfl rfl rfl rfl (sg0 rfl rfl rfl rfl ?_)))))))))
    refine sg0 rfl rfl rfl rfl (sg0 rfl rfl rfl rfl (sg0 rfl rfl rfl rfl (sg0 rfl rfl rfl rfl (st (s_pickF rfl rfl) rfl (st (s_assign rfl) rfl (Run.nil (pj_then (J_ret ?_))))))))
    refine retc1 Try.results13 (.tmp rfl (one_le ?_))
    congr 1
    have : ¬ (x = y) := by intro e; subst e; simp at hb
    simp [this]
  · have hs : (x < 0) ↔ (y < 0) := by simpa using hb
    refine sg1 rfl rfl (s_fieldAddr rfl) rfl (sg1 rfl rfl (s_loadB 1 rfl rfl rfl) rfl (sg1 rfl rfl (s_fieldAddr rfl) rfl (sg1 rfl rfl (s_loadB 0 rfl rfl rfl) rfl ?_)))
    refine sg1 rfl rfl (s_callk (rless_ok _ _) rfl ⟨VT.le_refl _, VT.le_refl _, trivial⟩) rfl ?_
    refine sg1 rfl rfl (s_not rfl) rfl (st (s_pickT rfl rfl) rfl (st (s_move rfl) rfl ?_))
    refine bsel (t := 18) rfl (fun b hb2 => ?_)
    rw [hb2]
    cases b
    · refine sg0 rfl rfl rfl rfl (sg0 rfl rfl rfl rfl (sg0 rfl rfl rfl rfl (sg0 rfl rfl rfl rfl (sg0 rfl rfl rfl rfl (sg0 rfl rfl rfl rfl (st (s_pickF rfl rfl) rfl (st (s_assign rfl) rfl (Run.nil (pj_then ?_)))))))))
      refine J_ret ?_
      refine retc1 Try.results13 (.tmp rfl (one_le ?_))
      congr 1
      simp at hb2
      have : ¬ (x = y) := by intro e; subst e; omega
      simp [this]
    · simp at hb2
      refine sg1 rfl rfl (s_fieldAddr rfl) rfl (sg1 rfl rfl (s_loadB 0 rfl rfl rfl) rfl (sg1 rfl rfl (s_fieldAddr rfl) rfl (sg1 rfl rfl (s_loadB 1 rfl rfl rfl) rfl ?_)))
      refine sg1 rfl rfl (s_callk (rless_ok _ _) rfl ⟨VT.le_refl _, VT.le_refl _, trivial⟩) rfl ?_
      refine sg1 rfl rfl (s_not rfl) rfl (st (s_pickT rfl rfl) rfl (st (s_assign rfl) rfl (Run.nil (pj_then (J_ret ?_)))))
      refine retc1 Try.results13 (.tmp rfl (one_le ?_))
      congr 1
      rw [← decide_not, decide_eq_decide]
      omega
end Tor
end
section
namespace Tor
open Go Go.RowKit Go.Proofs
theorem take_getD_succ (l : List Nat) (k : Nat) : lv (l.take (k + 1)) = lv (l.take k) + 4294967296 ^ k * l.getD k 0 := by
  by_cases hk : k < l.length
  · exact lv_take_succ hk
  · rw [List.take_of_length_le (by omega), List.take_of_length_le (by omega)]; simp [List.getElem?_eq_none (Nat.le_of_not_lt hk)]
structure RPlus (lx ly zl : List Nat) (c : Nat) : Prop where
  lim : Limbs zl
  c1 : c ≤ 1
  val : lv zl + 4294967296 ^ zl.length * c = lv (lx.take zl.length) + lv (ly.take zl.length)
  len : zl.length ≤ max lx.length ly.length + 1
  big : max lx.length ly.length < zl.length → c = 0
theorem RPlus.step {lx ly zl : List Nat} {c : Nat} (h : RPlus lx ly zl c) (hx : Limbs lx) (hy : Limbs ly) (hgo : zl.length < lx.length ∨ zl.length < ly.length ∨ 0 < c) :
    RPlus lx ly (zl ++ [(c + lx.getD zl.length 0 + ly.getD zl.length 0) % 4294967296]) ((c + lx.getD zl.length 0 + ly.getD zl.length 0) / 4294967296) := by
  have h1 := getD_lt hx zl.length
  have h2 := getD_lt hy zl.length
  have h3 := h.c1
  refine ⟨fun d hd => ?_, by omega, ?_, ?_, ?_⟩
  · rcases List.mem_append.1 hd with hd | hd
    · exact h.lim d hd
    · simp at hd; omega
  · simp only [List.length_append, List.length_cons, List.length_nil, Nat.zero_add]
    rw [lv_append, take_getD_succ, take_getD_succ, Nat.pow_succ]
    have hv := h.val
    generalize lx.getD zl.length 0 = x at *
    generalize ly.getD zl.length 0 = y at *
    generalize 4294967296 ^ zl.length = B at *
    have e : (c + x + y) = 4294967296 * ((c + x + y) / 4294967296) + (c + x + y) % 4294967296 := by omega
    generalize (c + x + y) / 4294967296 = q at *
    generalize (c + x + y) % 4294967296 = r at *
    simp only [lv, Nat.mul_zero, Nat.add_zero]
    have e2 : B * (c + x + y) = B * (4294967296 * q + r) := by rw [e]
    simp only [Nat.mul_add, Nat.mul_assoc] at e2 ⊢
    omega
  · simp only [List.length_append, List.length_cons, List.length_nil, Nat.zero_add]
    have := h.big; omega
  · simp only [List.length_append, List.length_cons, List.length_nil, Nat.zero_add]
    intro hb
    have e1 : lx.getD zl.length 0 = 0 := by simp [List.getElem?_eq_none (show lx.length ≤ zl.length by omega)]
    have e2 : ly.getD zl.length 0 = 0 := by simp [List.getElem?_eq_none (show ly.length ≤ zl.length by omega)]
    rw [e1, e2]; omega
theorem snoc_fun (zl : List Nat) (v : Nat) : ∀ q, q < zl.length + 1 → (if q < zl.length then one (.int .u32 (zl.getD q 0 : Nat)) else one (.int .u32 (v : Nat))) = one (.int .u32 ((zl ++ [v]).getD q 0 : Nat)) := by
  intro q hq
  rw [getD_snoc]
  by_cases h : q < zl.length
  · rw [if_pos h, if_neg (by omega)]
  · have : q = zl.length := by omega
    subst this
    rw [if_neg h, if_pos rfl]
theorem sliO_len {sv : Option Nat} {T : TypeId} {L : Lay} {cap n m : Nat} {φ ψ : Nat → VT} (h : n = m) (H : ∀ q, q < n → φ q = ψ q) : Own.le (sliO sv T L cap n φ) (sliO sv T L cap m ψ) := by
  subst h; exact sliO_eq H
theorem slV_len {sv : Option Nat} {n m cap : Nat} (h : n = m) : VT.le (one (slV sv n cap)) (one (slV sv m cap)) := h ▸ VT.le_refl _
attribute [local irreducible] Tor.J Tor.PJ Tor.StepO Tor.one Tor.slT Tor.ptrT Tor.aggT Tor.tupT Tor.exT Tor.andT Tor.eP Tor.boxO Tor.sliO Tor.slV Tor.VT.le Tor.Ret Tor.anyT
set_option maxHeartbeats 2000000 in
theorem rplus_ok (a b : Nat) (ha : (digs a).length ≤ 1099511627776) (hb : (digs b).length ≤ 1099511627776) : Ok Try.prog 66 [limT (digs a), limT (digs b)] (natS (a + b)) := by
  refine Ok.enter Try.func66 rfl Try.ntmps66 rfl (fun w O => ?_)
  have hx := limbs_digs a
  have hy := limbs_digs b
  have hva := lv_digs a
  have hvb := lv_digs b
  generalize digs a = lx at *
  generalize digs b = ly at *
  refine J_seq (J_reg (st (s_assign rfl) rfl (Run.nil (pj_then (J_seq (J_reg (stSO (n := 0) rfl rfl rfl rfl rfl ?_)))))))
  refine PartsK.nil (fun b => ?_)
  refine st (s_assign rfl) rfl (st (s_assign rfl) rfl (Run.nil (pj_then (J_seq (J_seq (J_reg (st (s_assign rfl) rfl (Run.nil (pj_then ?_)))))))))
  refine J_block ?_
  refine J_loop (σ := List Nat × Nat × Option Nat × Nat) (fun s => [(0, limT lx), (1, limT ly), (5, one (slV s.2.2.1 s.1.length s.2.2.2)), (6, one (.int .u64 (s.2.1 : Nat))), (7, one (.int .i64 s.1.length))])
      (fun s => [sliO s.2.2.1 78 .one s.2.2.2 s.1.length (fun q => one (.int .u32 (s.1.getD q 0 : Nat)))]) (fun s => RPlus lx ly s.1 s.2.1) (fun s => 2 * (max lx.length ly.length - s.1.length) + s.2.1) ([], 0, some b, 0)
      ⟨(fun d hd => by cases hd), Nat.zero_le _, by simp [lv], by simp, by simp⟩ (by repeat (first | exact SubG.nil | refine SubG.cons rfl (VT.le_refl _) ?_ | (refine SubG.cons rfl (one_le ?_) ?_; (congr 1; first | omega | (simp; omega) | simp)))) (.keep (sliO_eq (fun q hq => by omega)) .nil) (fun s hR => ?_)
  obtain ⟨zl, c, sv0, cap0⟩ := s
  simp only at hR ⊢
  have h3 := hR.c1
  have hlen := hR.len
  refine J_seq (J_seq ?_)
  refine J_join (σ := Unit) (fun _ => [(0, limT lx), (1, limT ly), (5, one (slV sv0 zl.length cap0)), (6, one (.int .u64 (c : Nat))), (7, one (.int .i64 zl.length)), (22, one (.bool (decide (zl.length < lx.length ∨ zl.length < ly.length ∨ 0 < c))))])
    (fun _ => [sliO sv0 78 .one cap0 zl.length (fun q => one (.int .u32 (zl.getD q 0 : Nat)))]) (fun _ => True) ?_ (fun _ _ => ?_)
  · refine J_reg (st (s_move rfl) rfl (st (s_move rfl) rfl (st (s_len rfl) rfl (st (s_lt rfl rfl) rfl (st (s_move rfl) rfl ?_)))))
    refine bsel (t := 13) rfl (fun b h1 => ?_)
    rw [h1]
    cases b
    · simp at h1
      refine sg1 rfl rfl (s_move rfl) rfl (sg1 rfl rfl (s_move rfl) rfl (sg1 rfl rfl (s_len rfl) rfl (sg1 rfl rfl (s_lt rfl rfl) rfl (st (s_pickF rfl rfl) rfl (st (s_move rfl) rfl ?_)))))
      refine bsel (t := 19) rfl (fun b h2 => ?_)
      rw [h2]
      cases b
      · simp at h2
        refine sg1 rfl rfl (s_move rfl) rfl (sg1 rfl rfl (s_gt rfl rfl) rfl (st (s_pickF rfl rfl) rfl (Run.nil ?_)))
        exact pj_cut () trivial (.cons rfl (VT.le_refl _) (.cons rfl (VT.le_refl _) (.cons rfl (VT.le_refl _) (.cons rfl (VT.le_refl _) (.cons rfl (VT.le_refl _) (.cons rfl (one_le (by congr 1; rw [decide_eq_decide]; omega)) .nil)))))) (SubM.refl _)
      · simp at h2
        refine sg0 rfl rfl rfl rfl (sg0 rfl rfl rfl rfl (st (s_pickT rfl rfl) rfl (Run.nil ?_)))
        exact pj_cut () trivial (.cons rfl (VT.le_refl _) (.cons rfl (VT.le_refl _) (.cons rfl (VT.le_refl _) (.cons rfl (VT.le_refl _) (.cons rfl (VT.le_refl _) (.cons rfl (one_le (by simp; omega)) .nil)))))) (SubM.refl _)
    · simp at h1
      refine sg0 rfl rfl rfl rfl (sg0 rfl rfl rfl rfl (sg0 rfl rfl rfl rfl (sg0 rfl rfl rfl rfl (st (s_pickT rfl rfl) rfl (st (s_move rfl) rfl (sg0 rfl rfl rfl rfl (sg0 rfl rfl rfl rfl (st (s_pickT rfl rfl) rfl (Run.nil ?_)))))))))
      exact pj_cut () trivial (.cons rfl (VT.le_refl _) (.cons rfl (VT.le_refl _) (.cons rfl (VT.le_refl _) (.cons rfl (VT.le_refl _) (.cons rfl (VT.le_refl _) (.cons rfl (one_le (by simp; omega)) .nil)))))) (SubM.refl _)
  · refine pj_then ?_
    refine J_cond rfl (fun hc => ?_) (fun hc => ?_) <;> simp only [decide_eq_true_eq, decide_eq_false_iff_not] at hc
    · have hstep := hR.step hx hy hc
      have g1 := getD_lt hx zl.length
      have g2 := getD_lt hy zl.length
      refine J_skip (pj_then (J_seq (J_block (J_seq (J_seq (J_reg (st (s_move rfl) rfl (st (s_move rfl) rfl (st (s_len rfl) rfl ?_)))))))))
      refine st (s_lt rfl rfl) rfl (Run.nil (pj_then ?_))
      refine J_join (σ := Unit) (fun _ => [(0, limT lx), (1, limT ly), (5, one (slV sv0 zl.length cap0)), (6, one (.int .u64 (c + lx.getD zl.length 0 : Nat))), (7, one (.int .i64 zl.length))])
        (fun _ => [sliO sv0 78 .one cap0 zl.length (fun q => one (.int .u32 (zl.getD q 0 : Nat)))]) (fun _ => True) ?_ (fun _ _ => ?_)
      · refine J_cond rfl (fun hc2 => ?_) (fun hc2 => ?_) <;> simp only [decide_eq_true_eq, decide_eq_false_iff_not] at hc2
        · refine J_reg (st (s_move rfl) rfl (st (s_move rfl) rfl (st (s_move rfl) rfl ?_)))
          (refine st (s_indexIN rfl rfl ?_) rfl ?_; omega)
          refine st (s_load rfl) rfl ?_
          (refine st (s_toU64 rfl ?_) rfl ?_; omega)
          (refine st (s_addU rfl rfl ?_) rfl ?_; omega)
          refine st (s_assign rfl) rfl (Run.nil ?_)
          exact pj_cut () trivial (by repeat (first | exact SubG.nil | refine SubG.cons rfl (VT.le_refl _) ?_ | (refine SubG.cons rfl (one_le ?_) ?_; (congr 1; first | omega | (simp; omega) | simp)))) (SubM.refl _)
        · have e0 : lx.getD zl.length 0 = 0 := by simp [List.getElem?_eq_none (show lx.length ≤ zl.length by omega)]
          refine J_skip ?_
          exact pj_cut () trivial (by repeat (first | exact SubG.nil | refine SubG.cons rfl (VT.le_refl _) ?_ | (refine SubG.cons rfl (one_le ?_) ?_; (congr 1; first | omega | (simp; omega) | simp)))) (SubM.refl _)
      · refine pj_then (J_seq (J_seq (J_reg (st (s_move rfl) rfl (st (s_move rfl) rfl (st (s_len rfl) rfl (st (s_lt rfl rfl) rfl (Run.nil (pj_then ?_)))))))))
        refine J_join (σ := Unit) (fun _ => [(0, limT lx), (1, limT ly), (5, one (slV sv0 zl.length cap0)), (6, one (.int .u64 (c + lx.getD zl.length 0 + ly.getD zl.length 0 : Nat))), (7, one (.int .i64 zl.length))])
          (fun _ => [sliO sv0 78 .one cap0 zl.length (fun q => one (.int .u32 (zl.getD q 0 : Nat)))]) (fun _ => True) ?_ (fun _ _ => ?_)
        · refine J_cond rfl (fun hc2 => ?_) (fun hc2 => ?_) <;> simp only [decide_eq_true_eq, decide_eq_false_iff_not] at hc2
          · refine J_reg (st (s_move rfl) rfl (st (s_move rfl) rfl (st (s_move rfl) rfl ?_)))
            (refine st (s_indexIN rfl rfl ?_) rfl ?_; omega)
            refine st (s_load rfl) rfl ?_
            (refine st (s_toU64 rfl ?_) rfl ?_; omega)
            (refine st (s_addU rfl rfl ?_) rfl ?_; omega)
            refine st (s_assign rfl) rfl (Run.nil ?_)
            exact pj_cut () trivial (by repeat (first | exact SubG.nil | refine SubG.cons rfl (VT.le_refl _) ?_ | (refine SubG.cons rfl (one_le ?_) ?_; (congr 1; first | omega | (simp; omega) | simp)))) (SubM.refl _)
          · have e0 : ly.getD zl.length 0 = 0 := by simp [List.getElem?_eq_none (show ly.length ≤ zl.length by omega)]
            refine J_skip ?_
            exact pj_cut () trivial (by repeat (first | exact SubG.nil | refine SubG.cons rfl (VT.le_refl _) ?_ | (refine SubG.cons rfl (one_le ?_) ?_; (congr 1; first | omega | (simp; omega) | simp)))) (SubM.refl _)
        · refine pj_then (J_seq (J_reg (st (s_move rfl) rfl (st (s_move rfl) rfl (st (s_toU32 rfl) rfl (stS1 rfl rfl rfl rfl ?_))))))
          (refine a_append 0 rfl rfl rfl (leN rfl) ?_ ?_ rfl (ltN rfl) (fun sv cap => ?_); omega; omega)
          refine st (s_assign rfl) rfl (Run.nil (pj_then (J_reg (st (s_move rfl) rfl ?_))))
          (refine st (s_quo32 rfl ?_) rfl ?_; omega)
          refine st (s_assign rfl) rfl (Run.nil (pn_block (pj_then (J_reg (st (s_move rfl) rfl ?_)))))
          (refine st (s_add rfl rfl (wrap_i64 ?_ ?_)) rfl ?_; omega; omega)
          refine st (s_assign rfl) rfl (Run.nil ?_)
          refine pj_round (s := (zl, c, sv0, cap0)) (zl ++ [(c + lx.getD zl.length 0 + ly.getD zl.length 0) % 4294967296], (c + lx.getD zl.length 0 + ly.getD zl.length 0) / 4294967296, sv, cap) hstep ?_ (.cons rfl (VT.le_refl _) (.cons rfl (VT.le_refl _) (.cons rfl (slV_len (by simp)) (.cons rfl (VT.le_refl _) (.cons rfl (one_le (by simp)) .nil))))) (.keep (sliO_len (by simp) (fun q hq => snoc_fun zl _ q (by simpa using hq))) .nil)
          have h8 := hstep.c1
          have h9 := hstep.big
          have h10 := hR.big
          simp only [List.length_append, List.length_cons, List.length_nil, Nat.zero_add] at *
          omega
    · refine J_exit (px_then (px_then (px_block (pj_then (J_seq (J_reg (st (s_move rfl) rfl (st (s_assign rfl) rfl (Run.nil ?_)))))))))
      refine pj_then (J_ret (PJ_freeze (t := 4) (i := 0) rfl rfl ?_))
      refine retc1 Try.results66 (.tmp rfl (natS_of (l := zl) hR.lim ?_ (by omega)))
      have h4 := hR.val
      have h5 : c = 0 := by omega
      rw [h5, List.take_of_length_le (by omega), List.take_of_length_le (by omega), hva, hvb] at h4
      omega
end Tor
end
section
namespace Tor
open Go Go.RowKit Go.Proofs
theorem RMinus.step {lx ly zl : List Nat} {c : Nat} (h : MinusR lx ly zl c) (hx : Limbs lx) (hy : Limbs ly) (hl : ly.length ≤ lx.length) (hlt : zl.length < lx.length) :
    MinusR lx ly (zl ++ [(lx.getD zl.length 0 + 4294967296 - c - ly.getD zl.length 0) % 4294967296]) (if lx.getD zl.length 0 < c + ly.getD zl.length 0 then 1 else 0) := by
  have h1 := getD_lt hx zl.length
  have h2 := getD_lt hy zl.length
  have h3 := h.c1
  have := h.step hx hy hl hlt rfl
  generalize lx.getD zl.length 0 = x at *
  generalize ly.getD zl.length 0 = y at *
  have e1 : ((x + 18446744073709551616 - c) % 18446744073709551616 + 18446744073709551616 - y) % 18446744073709551616 % 4294967296 = (x + 4294967296 - c - y) % 4294967296 := by omega
  have e2 : ((x + 18446744073709551616 - c) % 18446744073709551616 + 18446744073709551616 - y) % 18446744073709551616 / 9223372036854775808 = if x < c + y then 1 else 0 := by split <;> omega
  rw [e1, e2] at this
  exact this
theorem snoc_fun' (zl : List Nat) (v : Nat) : ∀ q, q < zl.length + 1 → v < 4294967296 → (if q < zl.length then one (.int .u32 (zl.getD q 0 : Nat)) else one (.int .u32 (v % 4294967296 : Nat))) = one (.int .u32 ((zl ++ [v]).getD q 0 : Nat)) := by
  intro q hq hv
  rw [Nat.mod_eq_of_lt hv]
  exact snoc_fun zl v q hq
attribute [local irreducible] Tor.J Tor.PJ Tor.StepO Tor.one Tor.slT Tor.ptrT Tor.aggT Tor.tupT Tor.exT Tor.andT Tor.eP Tor.boxO Tor.sliO Tor.slV Tor.VT.le Tor.Ret Tor.anyT
set_option maxHeartbeats 2000000 in
theorem rminus_ok (a b : Nat) (hab : b ≤ a) (ha : (digs a).length ≤ 1099511627776) : Ok Try.prog 67 [limT (digs a), limT (digs b)] (natS (a - b)) := by
  refine Ok.enter Try.func67 rfl Try.ntmps67 rfl (fun w O => ?_)
  have hx := limbs_digs a
  have hy := limbs_digs b
  have hl := digs_len_le' hab
  have hva := lv_digs a
  have hvb := lv_digs b
  generalize digs a = lx at *
  generalize digs b = ly at *
  refine J_seq (J_reg (st (s_assign rfl) rfl (Run.nil (pj_then (J_seq (J_reg (stSO (n := 0) rfl rfl rfl rfl rfl ?_)))))))
  refine PartsK.nil (fun b => ?_)
  refine st (s_assign rfl) rfl (st (s_assign rfl) rfl (Run.nil (pj_then (J_seq (J_seq (J_reg (st (s_assign rfl) rfl (Run.nil (pj_then ?_)))))))))
  refine J_block ?_
  refine J_loop (σ := List Nat × Nat × Option Nat × Nat) (fun s => [(0, limT lx), (1, limT ly), (5, one (slV s.2.2.1 s.1.length s.2.2.2)), (6, one (.int .i64 (s.2.1 : Nat))), (7, one (.int .i64 s.1.length))])
      (fun s => [sliO s.2.2.1 78 .one s.2.2.2 s.1.length (fun q => one (.int .u32 (s.1.getD q 0 : Nat)))]) (fun s => MinusR lx ly s.1 s.2.1) (fun s => lx.length - s.1.length) ([], 0, some b, 0)
      ⟨by simp, (fun d hd => by cases hd), Nat.zero_le _, by simp [lv]⟩ (by repeat (first | exact SubG.nil | refine SubG.cons rfl (VT.le_refl _) ?_ | (refine SubG.cons rfl (one_le ?_) ?_; (congr 1; first | omega | (simp; omega) | simp)))) (.keep (sliO_eq (fun q hq => by omega)) .nil) (fun s hR => ?_)
  obtain ⟨zl, c, sv0, cap0⟩ := s
  simp only at hR ⊢
  have h3 := hR.c1
  have hlen := hR.len
  refine J_seq (J_seq (J_reg (st (s_move rfl) rfl (st (s_move rfl) rfl (st (s_len rfl) rfl (st (s_lt rfl rfl) rfl (Run.nil (pj_then ?_))))))))
  refine J_cond rfl (fun hc => ?_) (fun hc => ?_) <;> simp at hc
  · have hstep := RMinus.step hR hx hy hl hc
    have g1 := getD_lt hx zl.length
    have g2 := getD_lt hy zl.length
    refine J_skip (pj_then (J_seq (J_block (J_seq (J_reg (st (s_move rfl) rfl (st (s_move rfl) rfl ?_)))))))
    (refine st (s_indexIN rfl rfl ?_) rfl ?_; omega)
    refine st (s_load rfl) rfl ?_
    (refine st (s_toI64 rfl ?_ ?_) rfl ?_; omega; omega)
    refine st (s_move rfl) rfl ?_
    (refine st (s_sub rfl rfl (wrap_i64 ?_ ?_)) rfl ?_; omega; omega)
    refine st (s_assign rfl) rfl (Run.nil (pj_then (J_seq (J_seq (J_reg (st (s_move rfl) rfl (st (s_move rfl) rfl (st (s_len rfl) rfl (st (s_lt rfl rfl) rfl ?_)))))))))
    refine Run.nil (pj_then ?_)
    refine J_join (σ := Unit) (fun _ => [(0, limT lx), (1, limT ly), (5, one (slV sv0 zl.length cap0)), (8, one (.int .i64 ((lx.getD zl.length 0 : Nat) - (c : Nat) - (ly.getD zl.length 0 : Nat)))), (7, one (.int .i64 zl.length))])
      (fun _ => [sliO sv0 78 .one cap0 zl.length (fun q => one (.int .u32 (zl.getD q 0 : Nat)))]) (fun _ => True) ?_ (fun _ _ => ?_)
    · refine J_cond rfl (fun hc => ?_) (fun hc => ?_) <;> simp at hc
      · refine J_reg (st (s_move rfl) rfl (st (s_move rfl) rfl (st (s_move rfl) rfl ?_)))
        (refine st (s_indexIN rfl rfl ?_) rfl ?_; omega)
        refine st (s_load rfl) rfl ?_
        (refine st (s_toI64 rfl ?_ ?_) rfl ?_; omega; omega)
        (refine st (s_sub rfl rfl (wrap_i64 ?_ ?_)) rfl ?_; omega; omega)
        refine st (s_assign rfl) rfl (Run.nil ?_)
        exact pj_cut () trivial (by repeat (first | exact SubG.nil | refine SubG.cons rfl (VT.le_refl _) ?_ | (refine SubG.cons rfl (one_le ?_) ?_; (congr 1; first | omega | (simp; omega) | simp)))) (SubM.refl _)
      · have e0 : ly.getD zl.length 0 = 0 := by simp [List.getElem?_eq_none (show ly.length ≤ zl.length by omega)]
        refine J_skip ?_
        exact pj_cut () trivial (by repeat (first | exact SubG.nil | refine SubG.cons rfl (VT.le_refl _) ?_ | (refine SubG.cons rfl (one_le ?_) ?_; (congr 1; first | omega | (simp; omega) | simp)))) (SubM.refl _)
    · generalize lx.getD zl.length 0 = x at *
      generalize ly.getD zl.length 0 = y at *
      refine pj_then (J_seq (J_reg (st (s_assign rfl) rfl (Run.nil (pj_then (J_seq (J_seq (J_reg (st (s_move rfl) rfl ?_)))))))))
      refine st (s_lt rfl rfl) rfl (Run.nil (pj_then ?_))
      refine J_join (σ := Unit) (fun _ => [(0, limT lx), (1, limT ly), (5, one (slV sv0 zl.length cap0)), (6, one (.int .i64 ((if x < c + y then 1 else 0 : Nat)))), (8, one (.int .i64 ((x + 4294967296 - c - y) % 4294967296 : Nat))), (7, one (.int .i64 zl.length))])
        (fun _ => [sliO sv0 78 .one cap0 zl.length (fun q => one (.int .u32 (zl.getD q 0 : Nat)))]) (fun _ => True) ?_ (fun _ _ => ?_)
      · refine J_cond rfl (fun hc => ?_) (fun hc => ?_) <;> simp at hc
        · refine J_seq (J_reg (st (s_move rfl) rfl ?_))
          (refine st (s_add rfl rfl (wrap_i64 ?_ ?_)) rfl ?_; omega; omega)
          refine st (s_assign rfl) rfl (Run.nil (pj_then (J_reg (st (s_assign rfl) rfl (Run.nil ?_)))))
          rw [if_pos (by omega)]
          exact pj_cut () trivial (.cons rfl (VT.le_refl _) (.cons rfl (VT.le_refl _) (.cons rfl (VT.le_refl _) (.cons rfl (VT.le_refl _) (.cons rfl (one_le (by congr 1; omega)) (.cons rfl (VT.le_refl _) .nil)))))) (SubM.refl _)
        · refine J_skip ?_
          rw [if_neg (by omega)]
          exact pj_cut () trivial (.cons rfl (VT.le_refl _) (.cons rfl (VT.le_refl _) (.cons rfl (VT.le_refl _) (.cons rfl (VT.le_refl _) (.cons rfl (one_le (by congr 1; omega)) (.cons rfl (VT.le_refl _) .nil)))))) (SubM.refl _)
      · generalize (x + 4294967296 - c - y) % 4294967296 = d at *
        generalize (if x < c + y then 1 else 0) = c2 at *
        refine pj_then (J_reg (st (s_move rfl) rfl (st (s_move rfl) rfl (st (s_toU32 rfl) rfl (stS1 rfl rfl rfl rfl ?_)))))
        (refine a_append 0 rfl rfl rfl (leN rfl) ?_ ?_ rfl (ltN rfl) (fun sv cap => ?_); omega; omega)
        refine st (s_assign rfl) rfl (Run.nil (pn_block (pj_then (J_reg (st (s_move rfl) rfl ?_)))))
        (refine st (s_add rfl rfl (wrap_i64 ?_ ?_)) rfl ?_; omega; omega)
        refine st (s_assign rfl) rfl (Run.nil ?_)
        refine pj_round (s := (zl, c, sv0, cap0)) (zl ++ [d], c2, sv, cap) hstep ?_ (.cons rfl (VT.le_refl _) (.cons rfl (VT.le_refl _) (.cons rfl (slV_len (by simp)) (.cons rfl (VT.le_refl _) (.cons rfl (one_le (by simp)) .nil))))) (.keep (sliO_len (by simp) (fun q hq => snoc_fun' zl _ q (by simpa using hq) (hstep.lim d (by simp)))) .nil)
        simp only [List.length_append, List.length_cons, List.length_nil, Nat.zero_add] at *
        omega
  · have hlen : zl.length = lx.length := by have := hR.len; omega
    refine J_exit (px_then (px_then (px_block (pj_then (J_seq (J_reg (st (s_move rfl) rfl (st (s_assign rfl) rfl (Run.nil ?_)))))))))
    refine pj_then (J_ret (PJ_freeze (t := 4) (i := 0) rfl rfl ?_))
    refine retc1 Try.results67 (.tmp rfl (natS_of (l := zl) hR.lim ?_ (by omega)))
    have h4 := hR.val
    rw [hlen, List.take_length, List.take_of_length_le (by omega), hva, hvb] at h4
    have h5 := lv_lt hR.lim
    rw [hlen] at h5
    have h6 := lv_lt hx
    rcases Nat.le_one_iff_eq_zero_or_eq_one.1 hR.c1 with h7 | h7 <;> simp only [h7, Nat.mul_zero, Nat.mul_one, Nat.add_zero] at h4 <;> omega
end Tor
end
section
namespace Tor
open Go Go.RowKit Go.Proofs
theorem two_natS (u : Nat) (h : u < 18446744073709551616) : VT.le (slT .one 2 (fun q => [one (.int .u32 ((u / 4294967296 % 4294967296 : Nat) : Int)), one (.int .u32 ((u % 4294967296 : Nat) : Int))].reverse.getD q anyT)) (natS u) := by
  refine VT.le_trans (slT_le' (m := 2) (ψ := fun i => one (.int .u32 ([u % 4294967296, u / 4294967296 % 4294967296].getD i 0 : Nat))) rfl (fun q hq => ?_)) (natS_of (l := [u % 4294967296, u / 4294967296 % 4294967296]) (fun d hd => ?_) ?_ (by simp))
  · match q, hq with
    | 0, _ => rfl
    | 1, _ => rfl
  · simp at hd; omega
  · simp only [lv]; omega
attribute [local irreducible] Tor.J Tor.PJ Tor.StepO Tor.one Tor.slT Tor.ptrT Tor.aggT Tor.tupT Tor.exT Tor.andT Tor.eP Tor.boxO Tor.sliO Tor.slV Tor.VT.le Tor.Ret Tor.anyT
theorem rOf_ok (n : Int) (h1 : -9223372036854775808 ≤ n) (h2 : n ≤ 9223372036854775807) : Ok Try.prog 20 [one (.int .i64 n)] (bigT n) := by
  refine Ok.enter Try.func20 rfl Try.ntmps20 rfl (fun w O => ?_)
  by_cases hn : n < 0
  · refine J_seq (J_reg ?_)
    refine a_alloc (T := 32) rfl (ltN rfl) (fun b => ?_)
    refine Run.nil (pj_then (J_seq (J_reg (st (s_move rfl) rfl (st (s_conv (r := ((18446744073709551616 - n.natAbs : Nat) : Int)) rfl (by rw [wrap_u64]; omega)) rfl (st (s_assign rfl) rfl (Run.nil (pj_then (J_seq ?_)))))))))
    refine J_seq (J_reg (st (s_move rfl) rfl (st (s_lt rfl rfl) rfl (Run.nil (pj_then ?_)))))
    refine J_cond rfl (fun hc => ?_) (fun hc => ?_) <;> simp at hc
    · refine J_reg (st (s_move rfl) rfl (st (s_neg (r := (n.natAbs : Int)) rfl (by rw [wrap_u64]; omega)) rfl (st (s_assign rfl) rfl (Run.nil (pj_then (J_seq (J_reg (st (s_move rfl) rfl (st (s_toU32 rfl) rfl ?_)))))))))
      refine st (s_move rfl) rfl (st (s_shr32 rfl) rfl (st (s_toU32 rfl) rfl (stS rfl rfl rfl rfl (PartsK.cons rfl (PartsK.cons rfl (PartsK.nil (st (s_move rfl) rfl (st (s_lt rfl rfl) rfl ?_))))))))
      refine st (s_callk (rMade_ok (decide (n < 0)) n.natAbs) rfl ⟨two_natS _ (by omega), VT.le_refl _, trivial⟩) rfl ?_
      refine a_storeB 0 rfl rfl rfl rfl rfl (leN rfl) rfl (Run.nil (pj_then (J_ret ?_)))
      exact retc1 Try.results20 (.cellB 0 rfl rfl rfl (bigT_eq (by rw [decide_eq_true hn, if_pos rfl]; omega)))
    · omega
  · refine J_seq (J_reg ?_)
    refine a_alloc (T := 32) rfl (ltN rfl) (fun b => ?_)
    refine Run.nil (pj_then (J_seq (J_reg (st (s_move rfl) rfl (st (s_conv (r := (n.natAbs : Int)) rfl (by rw [wrap_u64]; omega)) rfl (st (s_assign rfl) rfl (Run.nil (pj_then (J_seq ?_)))))))))
    refine J_seq (J_reg (st (s_move rfl) rfl (st (s_lt rfl rfl) rfl (Run.nil (pj_then ?_)))))
    refine J_cond rfl (fun hc => ?_) (fun hc => ?_) <;> simp at hc
    · omega
    · refine J_skip (pj_then (J_seq (J_reg (st (s_move rfl) rfl (st (s_toU32 rfl) rfl (st (s_move rfl) rfl (st (s_shr32 rfl) rfl (st (s_toU32 rfl) rfl (stS rfl rfl rfl rfl ?_)))))))))
      refine PartsK.cons rfl (PartsK.cons rfl (PartsK.nil (st (s_move rfl) rfl (st (s_lt rfl rfl) rfl ?_))))
      refine st (s_callk (rMade_ok (decide (n < 0)) n.natAbs) rfl ⟨two_natS _ (by omega), VT.le_refl _, trivial⟩) rfl ?_
      refine a_storeB 0 rfl rfl rfl rfl rfl (leN rfl) rfl (Run.nil (pj_then (J_ret ?_)))
      exact retc1 Try.results20 (.cellB 0 rfl rfl rfl (bigT_eq (by rw [decide_eq_false hn]; simp; omega)))
set_option maxHeartbeats 1000000 in
theorem rAdd_ok (n1 n2 : Bool) (v1 v2 : Nat) (h1 : (digs v1).length ≤ 1099511627776) (h2 : (digs v2).length ≤ 1099511627776) : Ok Try.prog 46 [sgT n1 v1, sgT n2 v2] (bigT (sv n1 v1 + sv n2 v2)) := by
  refine Ok.enter Try.func46 rfl Try.ntmps46 rfl (fun w O => ?_)
  refine J_seq (J_reg ?_)
  refine a_boxS rfl rfl (ltN rfl) (fun b => ?_)
  refine a_boxS rfl rfl (ltN rfl) (fun b => ?_)
  refine a_alloc (T := 32) rfl (ltN rfl) (fun b => ?_)
  refine Run.nil (pj_then (J_seq (J_seq (J_reg (st (s_fieldAddr rfl) rfl (st (s_loadB 2 rfl rfl rfl) rfl (st (s_fieldAddr rfl) rfl (st (s_loadB 1 rfl rfl rfl) rfl (st (s_eqB rfl rfl) rfl ?_)))))))))
  refine Run.nil (pj_then ?_)
  refine J_cond rfl (fun hc => ?_) (fun hc => ?_) <;> simp at hc
  · subst hc
    refine J_seq (J_regd 8 mixed (by kernel_rfl) (by decide) (st (s_fieldAddr rfl) rfl (st (s_loadB 2 rfl rfl rfl) rfl (st (s_fieldAddr rfl) rfl (st (s_loadB 1 rfl rfl rfl) rfl ?_)))))
    refine st (s_callk (rplus_ok _ _ h1 h2) rfl ⟨VT.le_refl _, VT.le_refl _, trivial⟩) rfl ?_
    refine st (s_fieldAddr rfl) rfl (st (s_loadB 2 rfl rfl rfl) rfl ?_)
    refine st (s_callk (rMade_ok _ _) rfl ⟨VT.le_refl _, VT.le_refl _, trivial⟩) rfl ?_
    refine Run.nil (a_storeB 0 rfl rfl rfl rfl rfl (leN rfl) rfl (Run.nil (pj_then (J_ret (pr_then ?_)))))
    exact retc1 Try.results46 (.cellB 0 rfl rfl rfl (bigT_eq (by unfold sv; split <;> omega)))
  · refine J_skip (pj_then (J_seq (J_seq (J_reg (st (s_fieldAddr rfl) rfl (st (s_loadB 2 rfl rfl rfl) rfl (st (s_fieldAddr rfl) rfl (st (s_loadB 1 rfl rfl rfl) rfl ?_))))))))
    refine st (s_callk (rless_ok _ _) rfl ⟨VT.le_refl _, VT.le_refl _, trivial⟩) rfl ?_
    refine Run.nil (pj_then ?_)
    refine J_cond rfl (fun hc2 => ?_) (fun hc2 => ?_) <;> simp at hc2
    · refine J_seq (J_regd 8 mixed (by kernel_rfl) (by decide) (st (s_fieldAddr rfl) rfl (st (s_loadB 1 rfl rfl rfl) rfl (st (s_fieldAddr rfl) rfl (st (s_loadB 2 rfl rfl rfl) rfl ?_)))))
      refine st (s_callk (rminus_ok _ _ (by omega) h2) rfl ⟨VT.le_refl _, VT.le_refl _, trivial⟩) rfl ?_
      refine st (s_fieldAddr rfl) rfl (st (s_loadB 1 rfl rfl rfl) rfl ?_)
      refine st (s_callk (rMade_ok _ _) rfl ⟨VT.le_refl _, VT.le_refl _, trivial⟩) rfl ?_
      refine Run.nil (a_storeB 0 rfl rfl rfl rfl rfl (leN rfl) rfl (Run.nil (pj_then (J_ret (pr_then ?_)))))
      exact retc1 Try.results46 (.cellB 0 rfl rfl rfl (bigT_eq (by unfold sv; cases n1 <;> cases n2 <;> simp at hc ⊢ <;> omega)))
    · refine J_skip (pj_then (J_seq (J_regd 8 mixed (by kernel_rfl) (by decide) (st (s_fieldAddr rfl) rfl (st (s_loadB 2 rfl rfl rfl) rfl (st (s_fieldAddr rfl) rfl (st (s_loadB 1 rfl rfl rfl) rfl ?_)))))))
      refine st (s_callk (rminus_ok _ _ (by omega) h1) rfl ⟨VT.le_refl _, VT.le_refl _, trivial⟩) rfl ?_
      refine st (s_fieldAddr rfl) rfl (st (s_loadB 2 rfl rfl rfl) rfl ?_)
      refine st (s_callk (rMade_ok _ _) rfl ⟨VT.le_refl _, VT.le_refl _, trivial⟩) rfl ?_
      refine Run.nil (a_storeB 0 rfl rfl rfl rfl rfl (leN rfl) rfl (Run.nil (pj_then (J_ret ?_))))
      exact retc1 Try.results46 (.cellB 0 rfl rfl rfl (bigT_eq (by unfold sv; cases n1 <;> cases n2 <;> simp at hc ⊢ <;> omega)))
end Tor
end
section
namespace Tor
open Go Go.RowKit Go.Proofs
structure RTimesR (lx ly zz : List Nat) (i : Nat) : Prop where
  le : i ≤ lx.length
  len : zz.length = lx.length + ly.length + 1
  lim : Limbs zz
  zero : ∀ k, i + ly.length ≤ k → zz.getD k 0 = 0
  val : lv zz = lv (lx.take i) * lv ly
structure RTimesI (lx ly z0 zz : List Nat) (i j c : Nat) : Prop where
  le : j ≤ ly.length + 1
  top : ly.length < j → c = 0
  len : zz.length = lx.length + ly.length + 1
  lim : Limbs zz
  zero : ∀ k, i + ly.length < k → zz.getD k 0 = 0
  zer1 : j ≤ ly.length → zz.getD (i + ly.length) 0 = 0
  c1 : c < 4294967296
  val : lv zz + 4294967296 ^ (i + j) * c = lv z0 + 4294967296 ^ i * (lx.getD i 0 * lv (ly.take j))
theorem RTimesI.step {lx ly z0 zz : List Nat} {i j c : Nat} (h : RTimesI lx ly z0 zz i j c) (hx : Limbs lx) (hy : Limbs ly) (hi : i < lx.length) (hgo : j < ly.length ∨ 0 < c) :
    RTimesI lx ly z0 (zz.set (i + j) ((c + zz.getD (i + j) 0 + lx.getD i 0 * ly.getD j 0) % 4294967296)) i (j + 1) ((c + zz.getD (i + j) 0 + lx.getD i 0 * ly.getD j 0) / 4294967296) := by
  have hj : j ≤ ly.length := by have := h.le; have := h.top; omega
  have hlim := mul_lim (getD_lt hx i) (getD_lt hy j) (getD_lt h.lim (i + j)) h.c1
  have hlt : i + j < zz.length := by rw [h.len]; omega
  refine ⟨by omega, fun ht => ?_, by rw [List.length_set]; exact h.len, h.lim.set (by omega), fun k hk => ?_, fun hk => ?_, by omega, ?_⟩
  · have e : j = ly.length := by omega
    subst e
    rw [h.zer1 (Nat.le_refl _)]
    have e2 : ly.getD ly.length 0 = 0 := by simp
    rw [e2, Nat.mul_zero]
    have := h.c1; omega
  · rw [getD_setL hlt, if_neg (by omega)]; exact h.zero k hk
  · rw [getD_setL hlt, if_neg (by omega)]; exact h.zer1 (by omega)
  · have hs := lv_set (l := zz) (k := i + j) (v := (c + zz.getD (i + j) 0 + lx.getD i 0 * ly.getD j 0) % 4294967296) hlt
    have hv := h.val
    rw [take_getD_succ]
    generalize lx.getD i 0 = x at *
    generalize ly.getD j 0 = y at *
    generalize zz.getD (i + j) 0 = z at *
    have e : c + z + x * y = 4294967296 * ((c + z + x * y) / 4294967296) + (c + z + x * y) % 4294967296 := by omega
    generalize (c + z + x * y) / 4294967296 = q at *
    generalize (c + z + x * y) % 4294967296 = r at *
    rw [show i + (j + 1) = (i + j) + 1 by omega, Nat.pow_succ]
    have eB : 4294967296 ^ i * 4294967296 ^ j = 4294967296 ^ (i + j) := (Nat.pow_add _ _ _).symm
    have e3 : 4294967296 ^ i * (x * (lv (ly.take j) + 4294967296 ^ j * y)) = 4294967296 ^ i * (x * lv (ly.take j)) + 4294967296 ^ (i + j) * (x * y) := by
      rw [Nat.mul_add, Nat.mul_add, ← eB]
      congr 1
      rw [Nat.mul_assoc]; congr 1
      rw [Nat.mul_left_comm]
    rw [e3]
    generalize 4294967296 ^ (i + j) = B at *
    have e2 : B * (c + z + x * y) = B * (4294967296 * q + r) := by rw [e]
    simp only [Nat.mul_add, ← Nat.mul_assoc] at e2 ⊢ hs hv
    omega
theorem RTimesR.start {lx ly z0 : List Nat} {i : Nat} (h : RTimesR lx ly z0 i) : RTimesI lx ly z0 z0 i 0 0 :=
  ⟨Nat.zero_le _, fun _ => rfl, h.len, h.lim, fun k hk => h.zero k (by omega), fun _ => h.zero _ (Nat.le_refl _), by omega, by simp [lv]⟩
theorem RTimesI.finish {lx ly z0 zz : List Nat} {i j : Nat} (h0 : RTimesR lx ly z0 i) (h : RTimesI lx ly z0 zz i j 0) (hj : ly.length ≤ j) (hi : i < lx.length) : RTimesR lx ly zz (i + 1) := by
  refine ⟨hi, h.len, h.lim, fun k hk => h.zero k (by omega), ?_⟩
  have hv := h.val
  rw [Nat.mul_zero, Nat.add_zero, List.take_of_length_le hj, h0.val] at hv
  rw [hv, lv_take_succ hi, Nat.add_mul, Nat.mul_assoc]
attribute [local irreducible] Tor.J Tor.PJ Tor.StepO Tor.one Tor.slT Tor.ptrT Tor.aggT Tor.tupT Tor.exT Tor.andT Tor.eP Tor.boxO Tor.sliO Tor.slV Tor.VT.le Tor.Ret Tor.anyT
attribute [local irreducible] bigT
set_option maxHeartbeats 4000000 in
theorem rMul_ok (n1 n2 : Bool) (v1 v2 : Nat) (h1 : (digs v1).length ≤ 1099511627776) (h2 : (digs v2).length ≤ 1099511627776) : Ok Try.prog 21 [sgT n1 v1, sgT n2 v2] (bigT (sv n1 v1 * sv n2 v2)) := by
  unfold sgT
  refine Ok.enter Try.func21 rfl Try.ntmps21 rfl (fun w O => ?_)
  have hx := limbs_digs v1
  have hy := limbs_digs v2
  have hva := lv_digs v1
  have hvb := lv_digs v2
  generalize digs v1 = lx at *
  generalize digs v2 = ly at *
  refine J_seq (J_reg ?_)
  refine a_boxS rfl rfl (ltN rfl) (fun b => ?_)
  refine a_boxS rfl rfl (ltN rfl) (fun b => ?_)
  refine a_alloc (T := 32) rfl (ltN rfl) (fun b => ?_)
  refine Run.nil (pj_then (J_seq (J_reg (st (s_fieldAddr rfl) rfl (st (s_loadB 2 rfl rfl rfl) rfl (st (s_len rfl) rfl (st (s_fieldAddr rfl) rfl (st (s_loadB 1 rfl rfl rfl) rfl (st (s_len rfl) rfl ?_)))))))))
  (refine st (s_add rfl rfl (wrap_i64 ?_ ?_)) rfl ?_; omega; omega)
  (refine st (s_add rfl rfl (wrap_i64 ?_ ?_)) rfl ?_; omega; omega)
  rename_i ba bb
  refine a_makeSlice (lx.length + ly.length + 1) (lx.length + ly.length + 1) rfl rfl (by simp) (by simp) (Nat.le_refl _) rfl rfl (by omega) rfl rfl (fun bz => ?_)
  refine st (s_assign rfl) rfl (Run.nil (pj_then (J_seq (J_seq (J_reg (st (s_assign rfl) rfl (Run.nil (pj_then (J_block ?_)))))))))
  refine J_loop (σ := List Nat × Nat) (fun s => [(2, one (.pointer (some ⟨ba, 0, none⟩))), (3, one (.pointer (some ⟨bb, 0, none⟩))), (4, one (.pointer (some ⟨b, 0, none⟩))), (5, one (slV (some bz) (lx.length + ly.length + 1) (lx.length + ly.length + 1))), (6, one (.int .i64 (s.2 : Nat)))])
      (fun s => [sliO (some bz) 78 .one (lx.length + ly.length + 1) (lx.length + ly.length + 1) (fun q => one (.int .u32 (s.1.getD q 0 : Nat))), boxO b 32 2 [(0, .agg 2, one (.agg #[.bool false, .slice none 0 0]))], boxO bb 32 2 [(0, .one, one (.bool n2)), (1, .one, limT ly)], boxO ba 32 2 [(0, .one, one (.bool n1)), (1, .one, limT lx)]])
      (fun s => RTimesR lx ly s.1 s.2) (fun s => lx.length - s.2) (List.replicate (lx.length + ly.length + 1) 0, 0)
      ⟨Nat.zero_le _, by simp, Limbs.replicate _, fun k _ => getD_replicate0 _ _, by simp [lv_replicate, lv]⟩ (by repeat (first | exact SubG.nil | refine SubG.cons rfl (VT.le_refl _) ?_ | (refine SubG.cons rfl (one_le ?_) ?_; (congr 1; first | omega | (simp; omega) | simp)))) (.keep (sliO_eq (fun q _ => by rw [getD_replicate0]; rfl)) (SubM.refl _)) (fun s hR => ?_)
  obtain ⟨z0, i⟩ := s
  simp only at hR ⊢
  refine J_seq (J_seq (J_reg (st (s_move rfl) rfl (st (s_fieldAddr rfl) rfl (st (s_loadB 3 rfl rfl rfl) rfl (st (s_len rfl) rfl (st (s_lt rfl rfl) rfl (Run.nil (pj_then ?_)))))))))
  refine J_cond rfl (fun hc => ?_) (fun hc => ?_) <;> simp at hc
  · have g1 := getD_lt hx i
    refine J_skip (pj_then (J_seq (J_block (J_seq (J_reg (st (s_assign rfl) rfl (Run.nil (pj_then (J_seq ?_)))))))))
    refine J_reg (st (s_assign rfl) rfl (Run.nil (pj_then (J_block ?_))))
    refine J_loop (σ := List Nat × Nat × Nat) (fun s => [(2, one (.pointer (some ⟨ba, 0, none⟩))), (3, one (.pointer (some ⟨bb, 0, none⟩))), (4, one (.pointer (some ⟨b, 0, none⟩))), (5, one (slV (some bz) (lx.length + ly.length + 1) (lx.length + ly.length + 1))), (6, one (.int .i64 (i : Nat))), (7, one (.int .u64 (s.2.2 : Nat))), (8, one (.int .i64 (s.2.1 : Nat)))])
      (fun s => [sliO (some bz) 78 .one (lx.length + ly.length + 1) (lx.length + ly.length + 1) (fun q => one (.int .u32 (s.1.getD q 0 : Nat))), boxO b 32 2 [(0, .agg 2, one (.agg #[.bool false, .slice none 0 0]))], boxO bb 32 2 [(0, .one, one (.bool n2)), (1, .one, limT ly)], boxO ba 32 2 [(0, .one, one (.bool n1)), (1, .one, limT lx)]])
      (fun s => RTimesI lx ly z0 s.1 i s.2.1 s.2.2) (fun s => ly.length + 1 - s.2.1) (z0, 0, 0)
      hR.start (by repeat (first | exact SubG.nil | refine SubG.cons rfl (VT.le_refl _) ?_ | (refine SubG.cons rfl (one_le ?_) ?_; (congr 1; first | omega | (simp; omega) | simp)))) (SubM.refl _) (fun s hI => ?_)
    obtain ⟨zz, j, c⟩ := s
    simp only at hI ⊢
    have g0 := hI.c1
    have gj := hI.le
    refine J_seq (J_seq ?_)
    refine J_join (σ := Unit) (fun _ => [(2, one (.pointer (some ⟨ba, 0, none⟩))), (3, one (.pointer (some ⟨bb, 0, none⟩))), (4, one (.pointer (some ⟨b, 0, none⟩))), (5, one (slV (some bz) (lx.length + ly.length + 1) (lx.length + ly.length + 1))), (6, one (.int .i64 (i : Nat))), (7, one (.int .u64 (c : Nat))), (8, one (.int .i64 (j : Nat))), (33, one (.bool (decide (j < ly.length ∨ 0 < c))))])
      (fun _ => [sliO (some bz) 78 .one (lx.length + ly.length + 1) (lx.length + ly.length + 1) (fun q => one (.int .u32 (zz.getD q 0 : Nat))), boxO b 32 2 [(0, .agg 2, one (.agg #[.bool false, .slice none 0 0]))], boxO bb 32 2 [(0, .one, one (.bool n2)), (1, .one, limT ly)], boxO ba 32 2 [(0, .one, one (.bool n1)), (1, .one, limT lx)]]) (fun _ => True) ?_ (fun _ _ => ?_)
    · refine J_reg (st (s_move rfl) rfl (st (s_fieldAddr rfl) rfl (st (s_loadB 2 rfl rfl rfl) rfl (st (s_len rfl) rfl (st (s_lt rfl rfl) rfl (st (s_move rfl) rfl ?_))))))
      refine bsel (t := 29) rfl (fun bo hb => ?_)
      rw [hb]
      cases bo
      · simp at hb
        refine sg1 rfl rfl (s_move rfl) rfl (sg1 rfl rfl (s_gt rfl rfl) rfl (st (s_pickF rfl rfl) rfl (Run.nil ?_)))
        exact pj_cut () trivial (.cons rfl (VT.le_refl _) (.cons rfl (VT.le_refl _) (.cons rfl (VT.le_refl _) (.cons rfl (VT.le_refl _) (.cons rfl (VT.le_refl _) (.cons rfl (VT.le_refl _) (.cons rfl (VT.le_refl _) (.cons rfl (one_le (by congr 1; rw [decide_eq_decide]; omega)) .nil)))))))) (SubM.refl _)
      · simp at hb
        refine sg0 rfl rfl rfl rfl (sg0 rfl rfl rfl rfl (st (s_pickT rfl rfl) rfl (Run.nil ?_)))
        exact pj_cut () trivial (.cons rfl (VT.le_refl _) (.cons rfl (VT.le_refl _) (.cons rfl (VT.le_refl _) (.cons rfl (VT.le_refl _) (.cons rfl (VT.le_refl _) (.cons rfl (VT.le_refl _) (.cons rfl (VT.le_refl _) (.cons rfl (one_le (by simp; omega)) .nil)))))))) (SubM.refl _)
    · refine pj_then ?_
      refine J_cond rfl (fun hc2 => ?_) (fun hc2 => ?_) <;> simp only [decide_eq_true_eq, decide_eq_false_iff_not] at hc2
      · have hstep := hI.step hx hy hc hc2
        have hjl : j ≤ ly.length := by have := hI.top; omega
        have g2 := getD_lt hy j
        have g3 := getD_lt hI.lim (i + j)
        have g4 := mul_lim g1 g2 g3 g0
        have hlt : i + j < zz.length := by rw [hI.len]; omega
        refine J_skip (pj_then (J_seq (J_block (J_seq (J_reg (st (s_move rfl) rfl (st (s_move rfl) rfl (st (s_move rfl) rfl (st (s_move rfl) rfl ?_)))))))))
        (refine st (s_add rfl rfl (wrap_i64 ?_ ?_)) rfl ?_; omega; omega)
        (refine st (s_indexON rfl rfl ?_) rfl ?_; omega)
        (refine st (s_loadE 0 rfl rfl ?_) rfl ?_; omega)
        (refine st (s_toU64 rfl ?_) rfl ?_; omega)
        (refine st (s_addU rfl rfl ?_) rfl ?_; omega)
        refine st (s_assign rfl) rfl (Run.nil (pj_then (J_seq (J_seq (J_reg (st (s_move rfl) rfl (st (s_fieldAddr rfl) rfl (st (s_loadB 2 rfl rfl rfl) rfl (st (s_len rfl) rfl ?_)))))))))
        refine st (s_lt rfl rfl) rfl (Run.nil (pj_then ?_))
        refine J_join (σ := Unit) (fun _ => [(2, one (.pointer (some ⟨ba, 0, none⟩))), (3, one (.pointer (some ⟨bb, 0, none⟩))), (4, one (.pointer (some ⟨b, 0, none⟩))), (5, one (slV (some bz) (lx.length + ly.length + 1) (lx.length + ly.length + 1))), (6, one (.int .i64 (i : Nat))), (7, one (.int .u64 (c + zz.getD (i + j) 0 + lx.getD i 0 * ly.getD j 0 : Nat))), (8, one (.int .i64 (j : Nat)))])
          (fun _ => [sliO (some bz) 78 .one (lx.length + ly.length + 1) (lx.length + ly.length + 1) (fun q => one (.int .u32 (zz.getD q 0 : Nat))), boxO b 32 2 [(0, .agg 2, one (.agg #[.bool false, .slice none 0 0]))], boxO bb 32 2 [(0, .one, one (.bool n2)), (1, .one, limT ly)], boxO ba 32 2 [(0, .one, one (.bool n1)), (1, .one, limT lx)]]) (fun _ => True) ?_ (fun _ _ => ?_)
        · refine J_cond rfl (fun hc3 => ?_) (fun hc3 => ?_) <;> simp only [decide_eq_true_eq, decide_eq_false_iff_not] at hc3
          · skip
            refine J_regd 16 mixed (by kernel_rfl) (by decide) (st (s_move rfl) rfl (st (s_fieldAddr rfl) rfl (st (s_loadB 3 rfl rfl rfl) rfl (st (s_move rfl) rfl ?_))))
            (refine st (s_indexIN rfl rfl ?_) rfl ?_; omega)
            refine st (s_load rfl) rfl ?_
            (refine st (s_toU64 rfl ?_) rfl ?_; omega)
            refine st (s_fieldAddr rfl) rfl (st (s_loadB 2 rfl rfl rfl) rfl (st (s_move rfl) rfl ?_))
            (refine st (s_indexIN rfl rfl ?_) rfl ?_; omega)
            refine st (s_load rfl) rfl ?_
            (refine st (s_toU64 rfl ?_) rfl ?_; omega)
            (refine st (s_mulU rfl rfl ?_) rfl ?_; omega)
            (refine st (s_addU rfl rfl ?_) rfl ?_; omega)
            refine st (s_assign rfl) rfl (Run.nil (Run.nil ?_))
            exact pj_cut () trivial (by repeat (first | exact SubG.nil | refine SubG.cons rfl (VT.le_refl _) ?_ | (refine SubG.cons rfl (one_le ?_) ?_; (congr 1; first | omega | (simp; omega) | simp)))) (SubM.refl _)
          · have e0 : ly.getD j 0 = 0 := by simp [List.getElem?_eq_none (show ly.length ≤ j by omega)]
            refine J_skip ?_
            refine pj_cut () trivial ?_ (SubM.refl _)
            rw [e0, Nat.mul_zero, Nat.add_zero]
            exact (by repeat (first | exact SubG.nil | refine SubG.cons rfl (VT.le_refl _) ?_ | (refine SubG.cons rfl (one_le ?_) ?_; (congr 1; first | omega | (simp; omega) | simp))))
        · refine pj_then (J_seq (J_reg (st (s_move rfl) rfl (st (s_move rfl) rfl (st (s_move rfl) rfl ?_)))))
          (refine st (s_add rfl rfl (wrap_i64 ?_ ?_)) rfl ?_; omega; omega)
          refine st (s_move rfl) rfl (st (s_toU32 rfl) rfl ?_)
          (refine st (s_indexON rfl rfl ?_) rfl ?_; omega)
          (refine a_storeE 0 rfl rfl rfl ?_ rfl ?_; omega)
          refine Run.nil (pj_then (J_reg (st (s_move rfl) rfl ?_)))
          (refine st (s_quo32 rfl ?_) rfl ?_; omega)
          refine st (s_assign rfl) rfl (Run.nil (pn_block (pj_then (J_reg (st (s_move rfl) rfl ?_)))))
          (refine st (s_add rfl rfl (wrap_i64 ?_ ?_)) rfl ?_; omega; omega)
          refine st (s_assign rfl) rfl (Run.nil ?_)
          refine pj_round (s := (zz, j, c)) (zz.set (i + j) ((c + zz.getD (i + j) 0 + lx.getD i 0 * ly.getD j 0) % 4294967296), j + 1, (c + zz.getD (i + j) 0 + lx.getD i 0 * ly.getD j 0) / 4294967296) hstep (by show ly.length + 1 - (j + 1) < ly.length + 1 - j; omega) (by repeat (first | exact SubG.nil | refine SubG.cons rfl (VT.le_refl _) ?_ | (refine SubG.cons rfl (one_le ?_) ?_; (congr 1; first | omega | (simp; omega) | simp)))) (.keep (sliO_eq (fun q hq => ?_)) (SubM.refl _))
          unfold upd; rw [getD_setL hlt]; split <;> rfl
      · have hc0 : c = 0 := by omega
        subst hc0
        have hfin := hI.finish hR (by omega) hc
        refine J_exit (px_then (px_then (px_block (pn_block (pj_then (J_reg (st (s_move rfl) rfl ?_)))))))
        (refine st (s_add rfl rfl (wrap_i64 ?_ ?_)) rfl ?_; omega; omega)
        refine st (s_assign rfl) rfl (Run.nil ?_)
        exact pj_round (s := (z0, i)) (zz, i + 1) hfin (by show lx.length - (i + 1) < lx.length - i; omega) (by repeat (first | exact SubG.nil | refine SubG.cons rfl (VT.le_refl _) ?_ | (refine SubG.cons rfl (one_le ?_) ?_; (congr 1; first | omega | (simp; omega) | simp)))) (SubM.refl _)
  · have hi : i = lx.length := by have := hR.le; omega
    refine J_exit (px_then (px_then (px_block (pj_then (J_seq (J_reg (st (s_move rfl) rfl (st (s_fieldAddr rfl) rfl (st (s_loadB 3 rfl rfl rfl) rfl ?_)))))))))
    refine st (s_fieldAddr rfl) rfl (st (s_loadB 2 rfl rfl rfl) rfl (st (s_neB rfl rfl) rfl (Run_freeze (t := 74) (j := 0) rfl rfl ?_)))
    skip
    refine st (s_callk (rMade_ok _ (v1 * v2)) rfl ⟨VT.le_trans (slT_le' (m := z0.length) (ψ := fun i => one (.int .u32 (z0.getD i 0 : Nat))) hR.len.symm (fun q hq => rfl)) (natS_of (l := z0) hR.lim ?_ ?_), VT.le_refl _, trivial⟩) rfl ?_
    · rw [hR.val, hi, List.take_length, hva, hvb]
    · rw [hR.len]; omega
    refine a_storeB 0 rfl rfl rfl rfl rfl (leN rfl) rfl (Run.nil (pj_then (J_ret ?_)))
    exact retc1 Try.results21 (.cellB 0 rfl rfl rfl (bigT_eq (by cases n1 <;> cases n2 <;> simp [sv, Int.neg_mul, Int.mul_neg])))
end Tor
end
section
namespace Tor
open Go Go.RowKit Go.Proofs
def rawT (neg : Bool) (l : List Nat) : VT := aggT 2 [(0, .one, one (.bool neg)), (1, .one, limT l)]
def validI (neg : Bool) (l : List Nat) : Bool := if l.length = 0 then !neg else decide (l.getD (l.length - 1) 0 ≠ 0)
theorem bigT_raw (x : Int) : VT.le (bigT x) (rawT (decide (x < 0)) (digs x.natAbs)) := VT.le_refl _
attribute [local irreducible] Tor.J Tor.PJ Tor.StepO Tor.one Tor.slT Tor.ptrT Tor.aggT Tor.tupT Tor.exT Tor.andT Tor.eP Tor.boxO Tor.sliO Tor.slV Tor.VT.le Tor.Ret Tor.anyT
end Tor
end
section
namespace Tor
open Go Go.RowKit Go.Proofs
def vecT (v : List Int) : VT := slT (.agg 2) v.length (fun i => bigT (v.getD i 0))
attribute [local irreducible] Tor.J Tor.PJ Tor.StepO Tor.one Tor.slT Tor.ptrT Tor.aggT Tor.tupT Tor.exT Tor.andT Tor.eP Tor.boxO Tor.sliO Tor.slV Tor.VT.le Tor.Ret Tor.anyT
attribute [local irreducible] bigT
end Tor
end
section
namespace Tor
open Go Go.RowKit Go.Proofs
def rowsT (a : List (List Int)) : VT := slT .one a.length (fun i => vecT (a.getD i []))
def matT (r c : Int) (a : List (List Int)) : VT := aggT 3 [(0, .one, one (.int .i64 r)), (1, .one, one (.int .i64 c)), (2, .one, rowsT a)]
attribute [local irreducible] Tor.J Tor.PJ Tor.StepO Tor.one Tor.slT Tor.ptrT Tor.aggT Tor.tupT Tor.exT Tor.andT Tor.eP Tor.boxO Tor.sliO Tor.slV Tor.VT.le Tor.Ret Tor.anyT
attribute [local irreducible] bigT vecT
end Tor
end
section
namespace Tor
open Go Go.RowKit Go.Proofs
def rawVecT (v : List (Bool × List Nat)) : VT := slT (.agg 2) v.length (fun i => rawT (v.getD i (false, [])).1 (v.getD i (false, [])).2)
def rawOf (x : Int) : Bool × List Nat := (decide (x < 0), digs x.natAbs)
theorem vecT_raw (v : List Int) : VT.le (vecT v) (rawVecT (v.map rawOf)) := by
  unfold vecT rawVecT
  refine VT.le_trans (slT_le (ψ := fun i => rawT ((v.map rawOf).getD i (false, [])).1 ((v.map rawOf).getD i (false, [])).2) (fun i hi => ?_)) (by rw [List.length_map]; exact VT.le_refl _)
  simp only [List.getD, List.getElem?_map, List.getElem?_eq_getElem hi, Option.map_some, Option.getD_some]
  exact bigT_raw _
theorem trimmed_last : ∀ {l : List Nat}, Trimmed l → 0 < l.length → l.getD (l.length - 1) 0 ≠ 0
  | [], _, h => absurd h (by decide)
  | [d], h, _ => h
  | _ :: d :: l, h, _ => trimmed_last (l := d :: l) h (by simp)
theorem validI_big (x : Int) : validI (rawOf x).1 (rawOf x).2 = true := by
  unfold validI rawOf
  simp only
  split
  · rename_i h
    have e := List.eq_nil_of_length_eq_zero h
    have : x.natAbs = 0 := by rw [← lv_digs x.natAbs, e]; rfl
    have : ¬ x < 0 := by omega
    simp [this]
  · rename_i h
    have := trimmed_last (trimmed_digs x.natAbs) (by omega)
    simpa using this
theorem sgnI_zero (x : Int) : sgnI x = 0 ↔ x = 0 := by
  unfold sgnI
  constructor
  · intro h; split at h
    · assumption
    · split at h <;> omega
  · intro h; rw [if_pos h]
theorem takeAll {α : Type} {p : α → Bool} {v : List α} {d : α} {i : Nat} (h : (v.take i).all p = true) (hi : i < v.length) (he : p (v.getD i d) = true) : (v.take (i + 1)).all p = true := by
  rw [List.take_add_one, List.all_append, h, List.getElem?_eq_getElem hi]
  simp only [List.getD, List.getElem?_eq_getElem hi, Option.getD_some] at he
  simp [he]
theorem notAll {α : Type} {p : α → Bool} {v : List α} {d : α} {i : Nat} (hi : i < v.length) (he : p (v.getD i d) = false) : v.all p = false := by
  simp only [List.getD, List.getElem?_eq_getElem hi, Option.getD_some] at he
  rw [List.all_eq_false]; exact ⟨_, List.getElem_mem hi, by simp [he]⟩
attribute [local irreducible] Tor.J Tor.PJ Tor.StepO Tor.one Tor.slT Tor.ptrT Tor.aggT Tor.tupT Tor.exT Tor.andT Tor.eP Tor.boxO Tor.sliO Tor.slV Tor.VT.le Tor.Ret Tor.anyT
attribute [local irreducible] bigT rawT
end Tor
end
section
namespace Tor
open Go Go.RowKit Go.Proofs
abbrev RawV := List (Bool × List Nat)
def rawRowsT (a : List RawV) : VT := slT .one a.length (fun i => rawVecT (a.getD i []))
def rawMatT (r c : Int) (a : List RawV) : VT := aggT 3 [(0, .one, one (.int .i64 r)), (1, .one, one (.int .i64 c)), (2, .one, rawRowsT a)]
def validV (c : Int) (v : RawV) : Bool := decide ((v.length : Int) = c) && v.all fun p => validI p.1 p.2
def validM (r c : Int) (a : List RawV) : Bool := decide (0 ≤ r ∧ 0 ≤ c ∧ (a.length : Int) = r) && a.all (validV c)
attribute [local irreducible] Tor.J Tor.PJ Tor.StepO Tor.one Tor.slT Tor.ptrT Tor.aggT Tor.tupT Tor.exT Tor.andT Tor.eP Tor.boxO Tor.sliO Tor.slV Tor.VT.le Tor.Ret Tor.anyT
attribute [local irreducible] bigT rawT rawVecT
end Tor
end
section
namespace Tor
open Go Go.RowKit Go.Proofs
def tab (r c : Nat) (F : Nat → Nat → Int) : List (List Int) := (List.range r).map fun i => (List.range c).map (F i)
@[simp] theorem tab_length (r c : Nat) (F : Nat → Nat → Int) : (tab r c F).length = r := by simp [tab]
theorem tab_row {r c i : Nat} (F : Nat → Nat → Int) (hi : i < r) : (tab r c F).getD i [] = (List.range c).map (F i) := by simp [tab, List.getD, hi]
theorem row_at {c j : Nat} (f : Nat → Int) (hj : j < c) : ((List.range c).map f).getD j 0 = f j := by simp [List.getD, hj]
def rowF (c : Nat) (f : Nat → Int) : VT := slT (.agg 2) c (fun j => bigT (f j))
theorem rowF_vec (c : Nat) (f : Nat → Int) : VT.le (rowF c f) (vecT ((List.range c).map f)) := by
  unfold rowF vecT
  refine VT.le_trans (slT_le (ψ := fun j => bigT (((List.range c).map f).getD j 0)) (fun j hj => ?_)) (le_eq (by simp))
  rw [row_at f hj]; exact VT.le_refl _
def matF (r c : Nat) (F : Nat → Nat → Int) : VT := aggT 3 [(0, .one, one (.int .i64 r)), (1, .one, one (.int .i64 c)), (2, .one, slT .one r (fun i => rowF c (F i)))]
theorem matF_mat (r c : Nat) (F : Nat → Nat → Int) : VT.le (matF r c F) (matT r c (tab r c F)) := by
  unfold matF matT rowsT
  refine aggT_le (fun q hq => ?_)
  rcases List.mem_cons.1 hq with rfl | hq
  · exact ⟨_, List.mem_cons_self, VT.le_refl _⟩
  rcases List.mem_cons.1 hq with rfl | hq
  · exact ⟨_, List.mem_cons_of_mem _ List.mem_cons_self, VT.le_refl _⟩
  rcases List.mem_cons.1 hq with rfl | hq
  · refine ⟨_, List.mem_cons_of_mem _ (List.mem_cons_of_mem _ List.mem_cons_self), VT.le_trans (slT_le (ψ := fun i => vecT ((tab r c F).getD i [])) (fun i hi => ?_)) (le_eq (by simp))⟩
    rw [tab_row F hi]; exact rowF_vec _ _
  · cases hq
theorem zero_big : VT.le (one (.agg #[.bool false, .slice none 0 0])) (bigT 0) := by
  intro v h e
  have e : v = .agg #[.bool false, .slice none 0 0] := e
  subst e
  refine ⟨_, rfl, rfl, by simp [Value.oneCell'], fun q hq => ?_⟩
  rcases List.mem_cons.1 hq with rfl | hq
  · exact ⟨.bool false, rfl, rfl⟩
  · rcases List.mem_cons.1 hq with rfl | hq
    · exact ⟨.slice none 0 0, rfl, ⟨none, 0, rfl, Nat.le_refl _, by decide, fun i hi => absurd hi (Nat.not_lt_zero _)⟩⟩
    · cases hq
theorem sliO_none {sv : Option Nat} {T : TypeId} {L : Lay} {cap n : Nat} {φ : Nat → VT} {g : RH} {h : Hp} (hp : (sliO sv T L cap n φ).p g h) (he : sv = none) : n = 0 := by
  obtain ⟨h1, h2, h3, _⟩ := hp; have := h3 he; omega
attribute [local irreducible] Tor.J Tor.PJ Tor.StepO Tor.one Tor.slT Tor.ptrT Tor.aggT Tor.tupT Tor.exT Tor.andT Tor.eP Tor.boxO Tor.sliO Tor.slV Tor.VT.le Tor.Ret Tor.anyT
end Tor
end
section
namespace Tor
open Go Go.RowKit Go.Proofs
def numT (k : IntKind) (l : List Int) : VT := slT .one l.length (fun i => one (.int k (l.getD i 0)))
theorem sv_some {sv : Option Nat} {r : Nat} (h : sv = none → r = 0) (hr : 0 < r) : ∃ b, sv = some b := by
  cases sv with
  | none => have := h rfl; omega
  | some b => exact ⟨b, rfl⟩
attribute [local irreducible] Tor.J Tor.PJ Tor.StepO Tor.one Tor.slT Tor.ptrT Tor.aggT Tor.tupT Tor.exT Tor.andT Tor.eP Tor.boxO Tor.sliO Tor.slV Tor.VT.le Tor.Ret Tor.anyT
attribute [local irreducible] bigT
end Tor
end
section
namespace Tor
open Go Go.RowKit Go.Proofs
instance {neg : Bool} {l : List Nat} : Flat (rawT neg l) (.agg 2) := by unfold rawT; infer_instance
theorem rawT_bound {neg : Bool} {l : List Nat} {v : Value} {h : Hp} (H : (rawT neg l).p v h) : l.length ≤ 281474976710656 := by
  obtain ⟨c, _, _, _, h4⟩ := H
  obtain ⟨x, _, hp⟩ := h4 _ (List.mem_cons_of_mem _ List.mem_cons_self)
  exact slT_bound hp
theorem rawMatT_bound {r c : Int} {a : List RawV} {v : Value} {h : Hp} (H : (rawMatT r c a).p v h) : a.length ≤ 2 ^ 48 := by
  obtain ⟨c, _, _, _, h4⟩ := H
  obtain ⟨x, _, hp⟩ := h4 _ (List.mem_cons_of_mem _ (List.mem_cons_of_mem _ List.mem_cons_self))
  exact slT_bound hp
def rawTab (r c : Nat) (F : Nat → Nat → Int) : List RawV := (tab r c F).map (·.map rawOf)
theorem matF_raw (r c : Nat) (F : Nat → Nat → Int) : VT.le (matF r c F) (rawMatT r c (rawTab r c F)) := by
  refine VT.le_trans (matF_mat r c F) ?_
  unfold matT rawMatT
  refine aggT_le (fun q hq => ?_)
  rcases List.mem_cons.1 hq with rfl | hq
  · exact ⟨_, List.mem_cons_self, VT.le_refl _⟩
  rcases List.mem_cons.1 hq with rfl | hq
  · exact ⟨_, List.mem_cons_of_mem _ List.mem_cons_self, VT.le_refl _⟩
  rcases List.mem_cons.1 hq with rfl | hq
  · refine ⟨_, List.mem_cons_of_mem _ (List.mem_cons_of_mem _ List.mem_cons_self), ?_⟩
    unfold rowsT rawRowsT rawTab
    refine VT.le_trans (slT_le (ψ := fun i => rawVecT (((tab r c F).map (·.map rawOf)).getD i [])) (fun i hi => ?_)) (le_eq (by simp))
    refine VT.le_trans (vecT_raw _) (le_eq ?_)
    simp [List.getD, List.getElem?_eq_getElem hi]
  · cases hq
theorem validM_tab (r c : Nat) (F : Nat → Nat → Int) : validM r c (rawTab r c F) = true := by
  unfold validM rawTab
  simp only [List.length_map, tab_length, Bool.and_eq_true, decide_eq_true_eq, List.all_map]
  refine ⟨⟨by omega, by omega, trivial⟩, ?_⟩
  rw [List.all_eq_true]
  intro x hx
  simp only [tab, List.mem_map, List.mem_range] at hx
  obtain ⟨i, hi, rfl⟩ := hx
  simp only [validV, Function.comp, List.length_map, List.length_range, List.all_map, Bool.and_eq_true, decide_eq_true_eq]
  refine ⟨trivial, ?_⟩
  rw [List.all_eq_true]
  intro y hy
  exact validI_big _
attribute [local irreducible] Tor.J Tor.PJ Tor.StepO Tor.one Tor.slT Tor.ptrT Tor.aggT Tor.tupT Tor.exT Tor.andT Tor.eP Tor.boxO Tor.sliO Tor.slV Tor.VT.le Tor.Ret Tor.anyT
set_option maxHeartbeats 1000000 in
theorem Valid_ok (neg : Bool) (l : List Nat) : Ok Try.prog 56 [rawT neg l] (one (.bool (validI neg l))) := by
  refine Ok.enter Try.func56 rfl Try.ntmps56 rfl (fun w O => ?_)
  refine J_fact (t := 0) rfl (fun _ _ => rawT_bound) (fun hl => ?_)
  unfold rawT
  by_cases h0 : l.length = 0
  · refine J_seq (J_reg ?_)
    refine a_boxS rfl rfl (ltN rfl) (fun b => ?_)
    refine st (s_assign rfl) rfl (Run.nil (pj_then (J_seq (J_seq (J_reg (st (s_fieldAddr rfl) rfl (st (s_loadB 0 rfl rfl rfl) rfl (st (s_len rfl) rfl (st (s_assign rfl) rfl ?_)))))))))
    refine Run.nil (pj_then (J_seq (J_reg (st (s_move rfl) rfl (st (s_gt rfl rfl) rfl (Run.nil (pj_then ?_)))))))
    refine J_cond rfl (fun hc => ?_) (fun hc => ?_) <;> simp only [decide_eq_true_eq, decide_eq_false_iff_not, ne_eq, Decidable.not_not] at hc
    · omega
    · refine J_skip (pj_then (J_seq (J_reg (st (s_fieldAddr rfl) rfl (st (s_loadB 0 rfl rfl rfl) rfl (st (s_not rfl) rfl (st (s_assign rfl) rfl (Run.nil (pj_then ?_)))))))))
      refine J_ret ?_
      exact retc1 Try.results56 (.tmp rfl (one_le (by unfold validI; rw [if_pos h0])))
  · refine J_seq (J_reg ?_)
    refine a_boxS rfl rfl (ltN rfl) (fun b => ?_)
    refine st (s_assign rfl) rfl (Run.nil (pj_then (J_seq (J_seq (J_reg (st (s_fieldAddr rfl) rfl (st (s_loadB 0 rfl rfl rfl) rfl (st (s_len rfl) rfl (st (s_assign rfl) rfl ?_)))))))))
    refine Run.nil (pj_then (J_seq (J_reg (st (s_move rfl) rfl (st (s_gt rfl rfl) rfl (Run.nil (pj_then ?_)))))))
    refine J_cond rfl (fun hc => ?_) (fun hc => ?_) <;> simp only [decide_eq_true_eq, decide_eq_false_iff_not, ne_eq, Decidable.not_not] at hc
    · refine J_seq (J_reg (st (s_fieldAddr rfl) rfl (st (s_loadB 0 rfl rfl rfl) rfl (st (s_move rfl) rfl ?_))))
      (refine st (s_sub rfl rfl (wrap_i64 ?_ ?_)) rfl ?_; omega; omega)
      (refine st (s_indexI rfl rfl ?_ ?_) rfl ?_; omega; omega)
      refine st (s_load rfl) rfl (st (s_ne rfl rfl) rfl (st (s_assign rfl) rfl (Run.nil (pj_then (J_ret (pr_then ?_))))))
      refine retc1 Try.results56 (.tmp rfl (one_le ?_))
      have e : (↑l.length - 1 : Int).toNat = l.length - 1 := by omega
      unfold validI; rw [if_neg h0, e]; congr 1; rw [decide_eq_decide]; omega
    · omega
attribute [local irreducible] bigT rawT
attribute [local irreducible] rawVecT
set_option maxHeartbeats 2000000 in
theorem matValid_ok (r c : Int) (a : List RawV) : Ok Try.prog 37 [rawMatT r c a] (one (.bool (validM r c a))) := by
  refine Ok.enter Try.func37 rfl Try.ntmps37 rfl (fun w O => ?_)
  refine J_fact (t := 0) rfl (fun _ _ => rawMatT_bound) (fun ha => ?_)
  unfold rawMatT
  unfold rawRowsT
  refine J_seq (J_reg ?_)
  refine a_boxS rfl rfl (ltN rfl) (fun b => ?_)
  refine st (s_assign rfl) rfl (Run.nil (pj_then (J_seq (J_seq (J_reg (st (s_fieldAddr rfl) rfl (st (s_loadB 0 rfl rfl rfl) rfl (st (s_lt rfl rfl) rfl (st (s_move rfl) rfl ?_)))))))))
  refine bsel (t := 10) rfl (fun bo hb => ?_)
  rw [hb]
  cases bo
  · have e1 : 0 ≤ r := by simpa using hb
    refine sg1 rfl rfl (s_fieldAddr rfl) rfl (sg1 rfl rfl (s_loadB 0 rfl rfl rfl) rfl (sg1 rfl rfl (s_lt rfl rfl) rfl (st (s_pickF rfl rfl) rfl (st (s_move rfl) rfl ?_))))
    refine bsel (t := 15) rfl (fun bo hb2 => ?_)
    rw [hb2]
    cases bo
    · have e2 : 0 ≤ c := by simpa using hb2
      refine sg1 rfl rfl (s_fieldAddr rfl) rfl (sg1 rfl rfl (s_loadB 0 rfl rfl rfl) rfl (sg1 rfl rfl (s_len rfl) rfl (sg1 rfl rfl (s_fieldAddr rfl) rfl (sg1 rfl rfl (s_loadB 0 rfl rfl rfl) rfl (sg1 rfl rfl (s_ne rfl rfl) rfl (st (s_pickF rfl rfl) rfl (Run.nil (pj_then ?_))))))))
      refine J_cond rfl (fun hc => ?_) (fun hc => ?_) <;> simp only [decide_eq_true_eq, decide_eq_false_iff_not, ne_eq, Decidable.not_not] at hc
      · refine J_seq (J_reg (st (s_assign rfl) rfl (Run.nil (pj_then (J_ret (pr_then ?_))))))
        refine retc1 Try.results37 (.tmp rfl (one_le ?_))
        simp [validM, hc]
      · have e3 : (a.length : Int) = r := hc
        refine J_skip (pj_then (J_seq (J_seq (J_reg (st (s_fieldAddr rfl) rfl (st (s_loadB 0 rfl rfl rfl) rfl (st (s_len rfl) rfl (st (s_move rfl) rfl (Run.nil ?_)))))))))
        refine pj_then (J_block ?_)
        refine J_loop (σ := Nat) (fun i => [(1, one (.pointer (some ⟨b, 0, none⟩))), (24, rawRowsT a), (25, one (.int .i64 a.length)), (26, one (.int .i64 (i : Nat)))])
          (fun _ => [boxO b 28 3 [(0, .one, one (.int .i64 r)), (1, .one, one (.int .i64 c)), (2, .one, rawRowsT a)]])
          (fun i => i ≤ a.length ∧ (a.take i).all (validV c) = true) (fun i => a.length - i) 0 ⟨Nat.zero_le _, rfl⟩ (by repeat (first | exact SubG.nil | refine SubG.cons rfl (VT.le_refl _) ?_ | (refine SubG.cons rfl (one_le ?_) ?_; (congr 1; first | omega | (simp; omega) | simp)))) (SubM.refl _) (fun i ⟨hi, ht⟩ => ?_)
        unfold rawRowsT
        refine J_seq (J_reg (st (s_lt rfl rfl) rfl (Run.nil (pj_then (J_seq ?_)))))
        refine J_cond rfl (fun hc => ?_) (fun hc => ?_) <;> simp at hc
        · refine J_skip (pj_then (J_seq (J_block (J_seq (J_reg ?_)))))
          (refine st (s_indexIN rfl rfl ?_) rfl ?_; omega)
          refine st (s_load rfl) rfl (st (s_assign rfl) rfl (Run.nil (pj_then (J_seq (J_seq (J_reg (st (s_move rfl) rfl ?_)))))))
          unfold rawVecT
          refine st (s_len rfl) rfl (st (s_fieldAddr rfl) rfl (st (s_loadB 0 rfl rfl rfl) rfl (st (s_ne rfl rfl) rfl (Run.nil (pj_then ?_)))))
          refine J_cond rfl (fun hc2 => ?_) (fun hc2 => ?_) <;> simp only [decide_eq_true_eq, decide_eq_false_iff_not, ne_eq, Decidable.not_not] at hc2
          · refine J_seq (J_reg (st (s_assign rfl) rfl (Run.nil (pj_then (J_ret (pr_then (pr_block (pr_then (pr_then ?_)))))))))
            refine pr_block (pr_then ?_)
            refine retc1 Try.results37 (.tmp rfl (one_le ?_))
            have := notAll (p := validV c) (d := []) hc (by simp only [validV, Bool.and_eq_false_iff]; left; simpa using hc2)
            simp [validM, this]
          · refine J_fact (t := 29) rfl (fun _ _ => slT_bound) (fun hlb => ?_)
            refine J_skip (pj_then (J_seq (J_reg (st (s_move rfl) rfl (st (s_len rfl) rfl (st (s_move rfl) rfl (Run.nil (pj_then (J_block ?_)))))))))
            refine J_loop (σ := Nat) (fun j => [(1, one (.pointer (some ⟨b, 0, none⟩))), (24, rawRowsT a), (25, one (.int .i64 a.length)), (26, one (.int .i64 (i : Nat))), (35, rawVecT (a.getD i [])), (36, one (.int .i64 (a.getD i []).length)), (37, one (.int .i64 (j : Nat)))])
              (fun _ => [boxO b 28 3 [(0, .one, one (.int .i64 r)), (1, .one, one (.int .i64 c)), (2, .one, rawRowsT a)]])
              (fun j => j ≤ (a.getD i []).length ∧ ((a.getD i []).take j).all (fun p => validI p.1 p.2) = true) (fun j => (a.getD i []).length - j) 0 ⟨Nat.zero_le _, rfl⟩ (by unfold rawRowsT rawVecT; repeat (first | exact SubG.nil | refine SubG.cons rfl (VT.le_refl _) ?_ | (refine SubG.cons rfl (one_le ?_) ?_; (congr 1; first | omega | (simp; omega) | simp)))) (by unfold rawRowsT rawVecT; exact SubM.refl _) (fun j ⟨hj, hu⟩ => ?_)
            unfold rawRowsT rawVecT
            refine J_seq (J_reg (st (s_lt rfl rfl) rfl (Run.nil (pj_then (J_seq ?_)))))
            refine J_cond rfl (fun hc3 => ?_) (fun hc3 => ?_) <;> simp only [decide_eq_true_eq, decide_eq_false_iff_not, Int.ofNat_lt] at hc3
            · refine J_skip (pj_then (J_seq (J_block (J_seq (J_reg ?_)))))
              (refine st (s_indexIN rfl rfl ?_) rfl ?_; omega)
              refine st (s_load rfl) rfl ?_
              refine a_alloc (T := 32) rfl (ltN rfl) (fun b => ?_)
              refine a_storeB 0 rfl rfl rfl rfl rfl (leN rfl) rfl (Run.nil (pj_then (J_seq (J_reg (st (s_loadB 0 rfl rfl rfl) rfl ?_)))))
              refine st (s_callk (Valid_ok ((a.getD i []).getD j (false, [])).1 ((a.getD i []).getD j (false, [])).2) rfl ⟨VT.le_refl _, trivial⟩) rfl ?_
              refine st (s_not rfl) rfl (Run.nil (pj_then ?_))
              refine J_cond rfl (fun hc4 => ?_) (fun hc4 => ?_)
              · refine J_seq (J_reg (st (s_assign rfl) rfl (Run.nil (pj_then (J_ret (pr_block (pr_then (pr_then (pr_block ?_)))))))))
                refine pr_block (pr_then (pr_then (pr_block (pr_then ?_))))
                refine retc1 Try.results37 (.tmp rfl (one_le ?_))
                have h1 := notAll (p := fun p : Bool × List Nat => validI p.1 p.2) (d := (false, [])) (v := a.getD i []) hc3 (by simpa using hc4)
                have h2 := notAll (p := validV c) (d := []) hc (by simp only [validV, Bool.and_eq_false_iff]; right; exact h1)
                simp [validM, h2]
              · refine J_skip (pn_block (pj_then (J_reg ?_)))
                (refine st (s_add rfl rfl (wrap_i64 ?_ ?_)) rfl ?_; omega; omega)
                refine st (s_move rfl) rfl (Run.nil ?_)
                exact pj_round (s := j) (j + 1) ⟨by omega, takeAll (d := (false, [])) hu hc3 (by simpa using hc4)⟩ (by show (a.getD i []).length - (j + 1) < (a.getD i []).length - j; omega) (by repeat (first | exact SubG.nil | refine SubG.cons rfl (VT.le_refl _) ?_ | (refine SubG.cons rfl (one_le ?_) ?_; (congr 1; first | omega | (simp; omega) | simp)))) (.drop (SubM.refl _))
            · refine J_exit (px_then (px_then (px_block (pn_block (pj_then (J_reg ?_))))))
              (refine st (s_add rfl rfl (wrap_i64 ?_ ?_)) rfl ?_; omega; omega)
              refine st (s_move rfl) rfl (Run.nil ?_)
              rw [List.take_of_length_le (by omega)] at hu
              exact pj_round (s := i) (i + 1) ⟨by omega, takeAll (d := []) ht hc (by simp only [validV, Bool.and_eq_true]; exact ⟨by simpa using hc2, hu⟩)⟩ (by show a.length - (i + 1) < a.length - i; omega) (by repeat (first | exact SubG.nil | refine SubG.cons rfl (VT.le_refl _) ?_ | (refine SubG.cons rfl (one_le ?_) ?_; (congr 1; first | omega | (simp; omega) | simp)))) (SubM.refl _)
        · refine J_exit (px_then (px_then (px_block (pj_then (J_seq (J_reg (st (s_assign rfl) rfl (Run.nil (pj_then ?_)))))))))
          refine J_ret ?_
          refine retc1 Try.results37 (.tmp rfl (one_le ?_))
          rw [List.take_of_length_le (by omega)] at ht
          simp [validM, ht, e1, e2, e3]
    · have e2 : ¬ (0 ≤ r ∧ 0 ≤ c) := by simp at hb2; omega
      refine sg0 rfl rfl rfl rfl (sg0 rfl rfl rfl rfl (sg0 rfl rfl rfl rfl (sg0 rfl rfl rfl rfl (sg0 rfl rfl rfl rfl (sg0 rfl rfl rfl rfl (st (s_pickT rfl rfl) rfl (Run.nil (pj_then ?_))))))))
      refine J_cond rfl (fun hc => ?_) (fun hc => ?_)
      · refine J_seq (J_reg (st (s_assign rfl) rfl (Run.nil (pj_then (J_ret (pr_then ?_))))))
        refine retc1 Try.results37 (.tmp rfl (one_le ?_))
        simp only [validM]; rw [decide_eq_false (by omega)]; rfl
      · cases hc
  · have e1 : ¬ 0 ≤ r := by simpa using hb
    refine sg0 rfl rfl rfl rfl (sg0 rfl rfl rfl rfl (sg0 rfl rfl rfl rfl (st (s_pickT rfl rfl) rfl (st (s_move rfl) rfl (sg0 rfl rfl rfl rfl (sg0 rfl rfl rfl rfl (sg0 rfl rfl rfl rfl (sg0 rfl rfl rfl rfl (sg0 rfl rfl rfl rfl ?_)))))))))
    refine sg0 rfl rfl rfl rfl (st (s_pickT rfl rfl) rfl (Run.nil (pj_then ?_)))
    refine J_cond rfl (fun hc => ?_) (fun hc => ?_)
    · refine J_seq (J_reg (st (s_assign rfl) rfl (Run.nil (pj_then (J_ret (pr_then ?_))))))
      refine retc1 Try.results37 (.tmp rfl (one_le ?_))
      simp [validM, e1]
    · cases hc
end Tor
end
section
namespace Tor
open Go Go.RowKit Go.Proofs
def small (x : Int) : Prop := (digs x.natAbs).length ≤ 1099511627776
theorem small_lt {x : Int} (h : x.natAbs < 2 ^ 2048) : small x := by
  have : (digs x.natAbs).length ≤ 64 := digs_len_le (Nat.lt_of_lt_of_le h (by decide +kernel))
  unfold small; omega
theorem AddI_ok (x y : Int) (hx : small x) (hy : small y) : Ok Try.prog 51 [bigT x, bigT y] (bigT (x + y)) := by
  have h := Add_ok (decide (x < 0)) (decide (y < 0)) x.natAbs y.natAbs hx hy
  rw [sv_big, sv_big] at h
  exact h.le ⟨bigT_sg _, bigT_sg _, trivial⟩ (VT.le_refl _)
theorem MulI_ok (x y : Int) (hx : small x) (hy : small y) : Ok Try.prog 52 [bigT x, bigT y] (bigT (x * y)) := by
  have h := Mul_ok (decide (x < 0)) (decide (y < 0)) x.natAbs y.natAbs hx hy
  rw [sv_big, sv_big] at h
  exact h.le ⟨bigT_sg _, bigT_sg _, trivial⟩ (VT.le_refl _)
theorem SignI_ok (x : Int) : Ok Try.prog 41 [bigT x] (one (.int .i64 (sgnI x))) := by
  have h := Sign_ok (decide (x < 0)) x.natAbs
  rw [sv_big] at h
  exact h.le ⟨bigT_sg _, trivial⟩ (VT.le_refl _)
theorem CmpI_ok (x y : Int) : Ok Try.prog 54 [bigT x, bigT y] (one (.int .i64 (cmpI x y))) := by
  have h := Cmp_ok (decide (x < 0)) (decide (y < 0)) x.natAbs y.natAbs
  rw [sv_big, sv_big] at h
  exact h.le ⟨bigT_sg _, bigT_sg _, trivial⟩ (VT.le_refl _)
theorem rAddI_ok (x y : Int) (hx : small x) (hy : small y) : Ok Try.prog 46 [bigT x, bigT y] (bigT (x + y)) := by
  have h := rAdd_ok (decide (x < 0)) (decide (y < 0)) x.natAbs y.natAbs hx hy
  rw [sv_big, sv_big] at h
  exact h.le ⟨bigT_sg _, bigT_sg _, trivial⟩ (VT.le_refl _)
theorem rMulI_ok (x y : Int) (hx : small x) (hy : small y) : Ok Try.prog 21 [bigT x, bigT y] (bigT (x * y)) := by
  have h := rMul_ok (decide (x < 0)) (decide (y < 0)) x.natAbs y.natAbs hx hy
  rw [sv_big, sv_big] at h
  exact h.le ⟨bigT_sg _, bigT_sg _, trivial⟩ (VT.le_refl _)
def mod4 (x : Int) : Prop := x.natAbs ≤ 2 ^ 400
theorem mod4_mul {x y : Int} (hx : mod4 x) (hy : mod4 y) : (x * y).natAbs ≤ 2 ^ 800 := by
  rw [Int.natAbs_mul]
  exact Nat.le_trans (Nat.mul_le_mul hx hy) (by decide +kernel)
theorem small_le {x : Int} {n : Nat} (h : x.natAbs ≤ n) (hn : n < 2 ^ 2048) : small x := small_lt (Nat.lt_of_le_of_lt h hn)
theorem mod4_small {x : Int} (hx : mod4 x) : small x := small_le hx (by decide +kernel)
theorem small_one : small 1 := small_lt (by decide +kernel)
theorem small_neg {x : Int} (h : small x) : small (-x) := by unfold small at *; rw [Int.natAbs_neg]; exact h
theorem le_any (φ : VT) : VT.le φ anyT := fun _ _ _ => trivial
instance {neg : Bool} {l : List Nat} : Flat (rawT neg l) (.agg 2) := by unfold rawT; infer_instance
attribute [local irreducible] Tor.J Tor.PJ Tor.StepO Tor.one Tor.slT Tor.ptrT Tor.aggT Tor.tupT Tor.exT Tor.andT Tor.eP Tor.boxO Tor.sliO Tor.slV Tor.VT.le Tor.Ret Tor.anyT
set_option maxHeartbeats 1000000 in
theorem Clone_ok (l : List Nat) (hl : l.length ≤ 1099511627776) : Ok Try.prog 96 [limT l] (limT l) := by
  unfold limT
  refine Ok.enter Try.func96 rfl Try.ntmps96 rfl (fun w O => ?_)
  refine J_seq (J_reg (st (s_assign rfl) rfl (Run.nil (pj_then (J_seq (J_seq (J_reg (st (s_move rfl) rfl (st (s_eqNil rfl) rfl ?_)))))))))
  refine Run.nil (pj_then ?_)
  refine J_ex (t := 4) rfl (fun b => ?_)
  refine J_and (t := 4) rfl (fun hb => ?_)
  refine J_cond rfl (fun hc => ?_) (fun hc => ?_)
  · have h0 := hb hc
    refine J_seq (J_reg (st (s_assign rfl) rfl (Run.nil (pj_then (J_ret (pr_then ?_))))))
    refine retc1 Try.results96 (.tmp rfl (by (rw [h0]; exact nil_slT)))
  · refine J_skip (pj_then (J_seq (J_reg (stSO (n := 0) rfl rfl rfl rfl rfl ?_))))
    refine PartsK.nil (fun bl => ?_)
    refine st (s_move rfl) rfl ?_
    (refine a_append 0 rfl rfl rfl (leN rfl) ?_ ?_ rfl (ltN rfl) (fun sv7 cap7 => ?_); omega; omega)
    refine st (s_assign rfl) rfl (Run.nil (pj_then (J_ret (PJ_freeze (t := 2) (i := 0) rfl rfl ?_))))
    refine retc1 Try.results96 (.tmp rfl (slT_le' (by simp) (fun i hi => by simp)))
theorem natS_digs {n : Nat} (h : (digs n).length ≤ 1099511627776) : VT.le (limT (digs n)) (natS n) := natS_of (limbs_digs n) (lv_digs n) (by omega)
set_option maxHeartbeats 1000000 in
theorem rNegI_ok (x : Int) (hx : small x) : Ok Try.prog 47 [bigT x] (bigT (-x)) := by
  have hv := (rMade_ok (!decide (x < 0)) x.natAbs).le (leAll_refl _) (bigT_eq (y := -x) (by by_cases h : x < 0 <;> simp [h] <;> omega))
  have hx : (digs x.natAbs).length ≤ 1099511627776 := hx
  unfold bigT at *
  refine Ok.enter Try.func47 rfl Try.ntmps47 rfl (fun w O => ?_)
  refine J_seq (J_reg ?_)
  refine a_boxS rfl rfl (ltN rfl) (fun b1 => ?_)
  refine a_alloc (T := 32) rfl (ltN rfl) (fun b2 => ?_)
  refine Run.nil (pj_then (J_seq (J_reg (st (s_fieldAddr rfl) rfl (st (s_loadB 1 rfl rfl rfl) rfl (st (s_fieldAddr rfl) rfl (st (s_loadB 1 rfl rfl rfl) rfl (st (s_not rfl) rfl ?_))))))))
  refine st (s_callk (hv ) rfl ⟨(natS_digs hx), VT.le_refl _, trivial⟩) rfl ?_
  refine a_storeB 0 rfl rfl rfl rfl rfl (leN rfl) rfl (Run.nil (pj_then (J_ret ?_)))
  refine retc1 Try.results47 (.cellB 0 rfl rfl rfl (VT.le_refl _))
theorem rSignI_ok (x : Int) : Ok Try.prog 19 [bigT x] (one (.int .i64 (sgnI x))) := by
  have h := rSign_ok (decide (x < 0)) x.natAbs
  rw [sv_big] at h
  exact h.le ⟨bigT_sg _, trivial⟩ (VT.le_refl _)
set_option maxHeartbeats 1000000 in
theorem rSubI_ok (x y : Int) (hx : small x) (hy : small y) : Ok Try.prog 25 [bigT x, bigT y] (bigT (x - y)) := by
  have hv := (rAddI_ok x (-y) hx (small_neg hy)).le (leAll_refl _) (bigT_eq (y := x - y) (by omega))
  refine Ok.enter Try.func25 rfl Try.ntmps25 rfl (fun w O => ?_)
  refine J_seq (J_reg ?_)
  refine a_boxS rfl rfl (ltN rfl) (fun b2 => ?_)
  refine a_boxS rfl rfl (ltN rfl) (fun b3 => ?_)
  refine a_alloc (T := 32) rfl (ltN rfl) (fun b4 => ?_)
  refine Run.nil (pj_then (J_seq (J_regd 4 mixed (by kernel_rfl) (by decide) (st (s_loadW 2 rfl rfl) rfl (st (s_loadW 1 rfl rfl) rfl ?_)))))
  refine st (s_callk (rNegI_ok _ (by assumption)) rfl ⟨VT.le_refl _, trivial⟩) rfl ?_
  refine st (s_callk (hv ) rfl ⟨VT.le_refl _, VT.le_refl _, trivial⟩) rfl ?_
  refine Run.nil (a_storeB 0 rfl rfl rfl rfl rfl (leN rfl) rfl (Run.nil (pj_then (J_ret ?_))))
  refine retc1 Try.results25 (.cellB 0 rfl rfl rfl (VT.le_refl _))
theorem sgn_cmp (x y : Int) : sgnI (x - y) = cmpI x y := by
  unfold sgnI cmpI
  by_cases h : x < y
  · rw [if_neg (by omega), if_pos (by omega), if_pos h]
  · by_cases h2 : y < x
    · rw [if_neg (by omega), if_neg (by omega), if_neg h, if_pos h2]
    · rw [if_pos (by omega), if_neg h, if_neg h2]
set_option maxHeartbeats 1000000 in
theorem rCmpI_ok (x y : Int) (hx : small x) (hy : small y) : Ok Try.prog 26 [bigT x, bigT y] (one (.int .i64 (cmpI x y))) := by
  refine Ok.enter Try.func26 rfl Try.ntmps26 rfl (fun w O => ?_)
  refine J_seq (J_reg ?_)
  refine a_boxS rfl rfl (ltN rfl) (fun b2 => ?_)
  refine a_boxS rfl rfl (ltN rfl) (fun b3 => ?_)
  refine st (s_assign rfl) rfl (Run.nil (pj_then (J_seq (J_reg (st (s_loadW 1 rfl rfl) rfl (st (s_loadW 0 rfl rfl) rfl ?_))))))
  refine st (s_callk (rSubI_ok _ _ (by assumption) (by assumption)) rfl ⟨VT.le_refl _, VT.le_refl _, trivial⟩) rfl ?_
  refine st (s_callk (rSignI_ok _) rfl ⟨VT.le_refl _, trivial⟩) rfl ?_
  refine st (s_assign rfl) rfl (Run.nil (pj_then (J_ret ?_)))
  refine retc1 Try.results26 (.tmp rfl (one_le (by rw [sgn_cmp])))
end Tor
end
section
namespace Tor
open Go Go.RowKit Go.Proofs
attribute [local irreducible] Tor.J Tor.PJ Tor.StepO Tor.one Tor.slT Tor.ptrT Tor.aggT Tor.tupT Tor.exT Tor.andT Tor.eP Tor.boxO Tor.sliO Tor.slV Tor.VT.le Tor.Ret Tor.anyT
attribute [local irreducible] bigT matF
set_option maxHeartbeats 1000000 in
theorem matValidF_ok (r c : Nat) (F : Nat → Nat → Int) : Ok Try.prog 37 [matF r c F] (one (.bool true)) := by
  have h := matValid_ok r c (rawTab r c F)
  rw [validM_tab] at h
  exact h.le ⟨matF_raw r c F, trivial⟩ (VT.le_refl _)
end Tor
end
section
namespace Tor
open Go Go.RowKit Go.Proofs
attribute [local irreducible] Tor.J Tor.PJ Tor.StepO Tor.one Tor.slT Tor.ptrT Tor.aggT Tor.tupT Tor.exT Tor.andT Tor.eP Tor.boxO Tor.sliO Tor.slV Tor.VT.le Tor.Ret Tor.anyT
set_option maxHeartbeats 1000000 in
theorem combI_ok (n : Nat) (φ ψ χ : Nat → VT) [hF : ∀ i, Flat (χ i) (.agg 2)] (cl : VT) (hn : n ≤ 1048576) (hC : ∀ i, i < n → Callable Try.prog cl [φ i, ψ i] (χ i)) : Ok Try.prog 76 [slT (.agg 2) n φ, slT (.agg 2) n ψ, cl] (slT (.agg 2) n χ) := by
  refine Ok.enter Try.func76 rfl Try.ntmps76 rfl (fun w O => ?_)
  refine J_seq (J_reg (st (s_assign rfl) rfl (Run.nil (pj_then (J_seq (J_reg (st (s_move rfl) rfl (st (s_len rfl) rfl ?_))))))))
  refine a_makeSlice n n rfl rfl rfl rfl (Nat.le_refl _) rfl rfl (by omega) rfl rfl (fun bz => ?_)
  refine st (s_assign rfl) rfl (Run.nil (pj_then (J_seq (J_seq (J_reg (st (s_move rfl) rfl (st (s_lenO rfl) rfl (st (s_move rfl) rfl (Run.nil ?_)))))))))
  refine pj_then (J_block ?_)
  refine J_loop (σ := Nat) (fun i => [(0, slT (.agg 2) n φ), (1, slT (.agg 2) n ψ), (2, cl), (7, one (slV (some bz) n n)), (13, one (.int .i64 n)), (14, one (.int .i64 (i : Nat)))])
    (fun i => [sliO (some bz) 32 (.agg 2) n n (fun q => if q < i then χ q else anyT)]) (fun i => i ≤ n) (fun i => n - i) 0 (Nat.zero_le _) (by repeat (first | exact SubG.nil | refine SubG.cons rfl (VT.le_refl _) ?_ | (refine SubG.cons rfl (one_le ?_) ?_; (congr 1; first | omega | (simp; omega) | simp)))) (.keep (sliO_le fun q hq => by rw [if_neg (by omega)]; exact le_any _) .nil) (fun i hi => ?_)
  refine J_seq (J_reg (st (s_lt rfl rfl) rfl (Run.nil (pj_then (J_seq ?_)))))
  refine J_cond rfl (fun hc => ?_) (fun hc => ?_) <;> simp only [decide_eq_true_eq, decide_eq_false_iff_not, ne_eq, Decidable.not_not] at hc
  · refine J_skip (pj_then (J_seq (J_block (J_seq (J_reg (st (s_move rfl) rfl (st (s_assign rfl) rfl (Run.nil (pj_then ?_)))))))))
    refine J_regd 13 mixed (by kernel_rfl) (by decide) (st (s_move rfl) rfl (st (s_move rfl) rfl (st (s_move rfl) rfl (st (s_move rfl) rfl (st (s_move rfl) rfl ?_)))))
    (refine st (s_indexIN rfl rfl ?_) rfl ?_; omega)
    refine st (s_load rfl) rfl (st (s_move rfl) rfl (st (s_move rfl) rfl ?_))
    (refine st (s_indexIN rfl rfl ?_) rfl ?_; omega)
    refine st (s_load rfl) rfl ?_
    refine st (s_callF (hC i (by omega)) rfl rfl ⟨VT.le_refl _, VT.le_refl _, trivial⟩) rfl ?_
    (refine st (s_indexON rfl rfl ?_) rfl ?_; omega)
    refine Run.nil ?_
    (refine a_storeE 0 rfl rfl rfl ?_ rfl ?_; omega)
    refine Run.nil (pn_block (pj_then (J_reg ?_)))
    (refine st (s_add rfl rfl (wrap_i64 ?_ ?_)) rfl ?_; omega; omega)
    refine st (s_move rfl) rfl (Run.nil ?_)
    refine pj_round (s := i) (i + 1) (show _ from by omega) (by show n - (i + 1) < n - i; omega) (by repeat (first | exact SubG.nil | refine SubG.cons rfl (VT.le_refl _) ?_ | (refine SubG.cons rfl (one_le ?_) ?_; (congr 1; first | omega | (simp; omega) | simp)))) (.keep (sliO_eq fun q hq => ?_) .nil)
    unfold upd
    by_cases h : q = i
    · subst h; rw [if_pos rfl, if_pos (by omega)]
    · rw [if_neg h]
      have e : q < i + 1 ↔ q < i := by omega
      simp only [e]
  · have hk : i = n := by omega
    subst hk
    refine J_exit (px_then (px_then (px_block (pj_then (J_seq (J_reg (st (s_move rfl) rfl (st (s_assign rfl) rfl (Run.nil ?_)))))))))
    refine pj_then (J_ret (PJ_freeze (t := 6) (i := 0) rfl rfl ?_))
    refine retc1 Try.results76 (.tmp rfl (slT_le fun q hq => ?_))
    rw [if_pos hq]; exact VT.le_refl _
end Tor
end
section
namespace Tor
open Go Go.RowKit Go.Proofs
def sumF : Nat → (Nat → Int) → Int
  | 0, _ => 0
  | n + 1, f => sumF n f + f n
theorem sumF_bound {n B : Nat} {f : Nat → Int} (h : ∀ i, (f i).natAbs ≤ B) : (sumF n f).natAbs ≤ n * B := by
  induction n with
  | zero => simp [sumF]
  | succ n ih =>
    rw [sumF, Nat.succ_mul]
    have := h n
    omega
theorem sum_small {n : Nat} {f : Nat → Int} (hn : n ≤ 1048576) (h : ∀ i, (f i).natAbs ≤ 2 ^ 800) : small (sumF n f) :=
  small_le (sumF_bound h) (Nat.lt_of_le_of_lt (Nat.mul_le_mul_right _ hn) (by decide +kernel))
attribute [local irreducible] Tor.J Tor.PJ Tor.StepO Tor.one Tor.slT Tor.ptrT Tor.aggT Tor.tupT Tor.exT Tor.andT Tor.eP Tor.boxO Tor.sliO Tor.slV Tor.VT.le Tor.Ret Tor.anyT
attribute [local irreducible] bigT
end Tor
end
section
namespace Tor
open Go Go.RowKit Go.Proofs
theorem zero_bigC : VT.le (aggT 2 (zeroC #[Value.bool false, Value.slice none 0 0] [(0, Lay.one), (1, Lay.one)])) (bigT 0) := by
  unfold bigT
  refine aggT_le (fun q hq => ?_)
  rcases List.mem_cons.1 hq with rfl | hq
  · exact ⟨_, List.mem_cons_self, VT.le_refl _⟩
  rcases List.mem_cons.1 hq with rfl | hq
  · exact ⟨_, List.mem_cons_of_mem _ List.mem_cons_self, nil_slT⟩
  · cases hq
attribute [local irreducible] Tor.J Tor.PJ Tor.StepO Tor.one Tor.slT Tor.ptrT Tor.aggT Tor.tupT Tor.exT Tor.andT Tor.eP Tor.boxO Tor.sliO Tor.slV Tor.VT.le Tor.Ret Tor.anyT
attribute [local irreducible] bigT
set_option maxHeartbeats 2000000 in
theorem Dot_ok (n m : Nat) (f g : Nat → Int) (hn : n ≤ 1048576) (hm : m ≤ 1048576) (hf : ∀ i, mod4 (f i)) (hg : ∀ i, mod4 (g i)) :
    Ok Try.prog 58 [rowF n f, rowF m g] (tupT [bigT (if n = m then sumF n (fun k => f k * g k) else 0), one (.int .i64 (if n = m then 0 else 50))]) := by
  unfold rowF
  refine Ok.enter Try.func58 rfl Try.ntmps58 rfl (fun w O => ?_)
  refine J_seq (J_reg ?_)
  refine a_alloc (T := 32) rfl (ltN rfl) (fun b => ?_)
  refine st (s_assign rfl) rfl (Run.nil (pj_then (J_seq (J_seq (J_reg (st (s_move rfl) rfl (st (s_len rfl) rfl (st (s_move rfl) rfl (st (s_len rfl) rfl ?_)))))))))
  refine st (s_ne rfl rfl) rfl (Run.nil (pj_then ?_))
  refine J_cond rfl (fun hc => ?_) (fun hc => ?_) <;> simp only [decide_eq_true_eq, decide_eq_false_iff_not, ne_eq, Decidable.not_not] at hc
  · have hne : ¬ n = m := by omega
    refine J_seq (J_reg (stB rfl rfl rfl (BuildK.nil (a_storeB 0 rfl rfl rfl rfl rfl (leN rfl) rfl (st (s_assign rfl) rfl (Run.nil (pj_then (J_ret (pr_then ?_)))))))))
    refine retc2 Try.results58 (.cellB 0 rfl rfl rfl ?_) (.tmp rfl (one_le ?_))
    · rw [if_neg hne]; exact zero_bigC
    · rw [if_neg hne]
  · have he : n = m := by omega
    subst he
    refine J_skip (pj_then (J_seq (J_reg ?_)))
    refine a_alloc (T := 32) rfl (ltN rfl) (fun b => ?_)
    refine Run.nil (pj_then (J_seq (J_seq (J_reg (st (s_move rfl) rfl (st (s_move rfl) rfl ?_))))))
    rename_i b4
    refine st (s_callk (combI_ok n (fun j => bigT (f j)) (fun j => bigT (g j)) (fun j => bigT (f j * g j)) (one (.func (.func 52) #[] #[])) hn (fun i hi => Callable.fn (MulI_ok _ _ (mod4_small (hf i)) (mod4_small (hg i))))) rfl ⟨VT.le_refl _, VT.le_refl _, VT.le_refl _, trivial⟩) rfl ?_
    refine st (s_len rfl) rfl (st (s_move rfl) rfl (Run.nil (pj_then (J_block ?_))))
    refine J_loop (σ := Nat) (fun i => [(4, one (.pointer (some ⟨b4, 0, none⟩))), (6, one (.pointer (some ⟨b, 0, none⟩))), (17, slT (.agg 2) n (fun j => bigT (f j * g j))), (18, one (.int .i64 n)), (19, one (.int .i64 (i : Nat)))])
      (fun i => [boxO b 32 2 [(0, .agg 2, bigT (sumF i (fun k => f k * g k)))], boxO b4 32 2 [(0, .agg 2, one (.agg #[.bool false, .slice none 0 0]))]])
      (fun i => i ≤ n) (fun i => n - i) 0 (Nat.zero_le _) (by repeat (first | exact SubG.nil | refine SubG.cons rfl (VT.le_refl _) ?_ | (refine SubG.cons rfl (one_le ?_) ?_; (congr 1; first | omega | (simp; omega) | simp)))) (.keep (boxO_le fun q hq => by rcases List.mem_cons.1 hq with rfl | hq; exact ⟨_, List.mem_cons_self, zero_big⟩; cases hq) (SubM.refl _)) (fun i hi => ?_)
    refine J_seq (J_reg (st (s_lt rfl rfl) rfl (Run.nil (pj_then (J_seq ?_)))))
    refine J_cond rfl (fun hc => ?_) (fun hc => ?_) <;> simp only [decide_eq_true_eq, decide_eq_false_iff_not, Int.ofNat_lt] at hc
    · refine J_skip (pj_then (J_seq (J_block (J_seq (J_reg ?_)))))
      (refine st (s_indexIN rfl rfl ?_) rfl ?_; omega)
      refine st (s_load rfl) rfl ?_
      refine a_alloc (T := 32) rfl (ltN rfl) (fun b => ?_)
      refine a_storeB 0 rfl rfl rfl rfl rfl (leN rfl) rfl (Run.nil (pj_then (J_reg (st (s_loadB 1 rfl rfl rfl) rfl (st (s_loadB 0 rfl rfl rfl) rfl ?_)))))
      refine st (s_callk (AddI_ok (sumF i (fun k => f k * g k)) (f i * g i) (sum_small (by omega) (fun k => mod4_mul (hf k) (hg k))) (small_le (mod4_mul (hf i) (hg i)) (by decide +kernel))) rfl ⟨VT.le_refl _, VT.le_refl _, trivial⟩) rfl ?_
      refine a_storeB 1 rfl rfl rfl rfl rfl (leN rfl) rfl (Run.nil (pn_block (pj_then (J_reg ?_))))
      (refine st (s_add rfl rfl (wrap_i64 ?_ ?_)) rfl ?_; omega; omega)
      refine st (s_move rfl) rfl (Run.nil ?_)
      exact pj_round (s := i) (i + 1) (show _ from by omega) (by show n - (i + 1) < n - i; omega) (by repeat (first | exact SubG.nil | refine SubG.cons rfl (VT.le_refl _) ?_ | (refine SubG.cons rfl (one_le ?_) ?_; (congr 1; first | omega | (simp; omega) | simp)))) (.drop (.keep (Own.le_refl _) (SubM.refl _)))
    · have hin : i = n := by omega
      subst hin
      refine J_exit (px_then (px_then (px_block (pj_then (J_seq (J_reg (st (s_loadB 0 rfl rfl rfl) rfl (a_storeB 1 rfl rfl rfl rfl rfl (leN rfl) rfl (st (s_assign rfl) rfl ?_)))))))))
      refine Run.nil (pj_then (J_ret ?_))
      refine retc2 Try.results58 (.cellB 1 rfl rfl rfl ?_) (.tmp rfl (one_le ?_))
      · rw [if_pos rfl]; exact VT.le_refl _
      · rw [if_pos rfl]
end Tor
end
section
namespace Tor
open Go Go.RowKit Go.Proofs
theorem rowT_snoc {sv : Option Nat} {T : TypeId} {cap i : Nat} {h : Nat → Int} {x : Int} (hx : x = h i) : Own.le (sliO sv T (.agg 2) cap (i + 1) (fun q => if q < i then bigT (h q) else bigT x)) (sliO sv T (.agg 2) cap (i + 1) (fun q => bigT (h q))) := sliO_eq fun q hq => by
  by_cases c : q < i
  · rw [if_pos c]
  · rw [if_neg c, hx, show q = i by omega]
attribute [local irreducible] Tor.J Tor.PJ Tor.StepO Tor.one Tor.slT Tor.ptrT Tor.aggT Tor.tupT Tor.exT Tor.andT Tor.eP Tor.boxO Tor.sliO Tor.slV Tor.VT.le Tor.Ret Tor.anyT
attribute [local irreducible] bigT
end Tor
end
