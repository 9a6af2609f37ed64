/-
  Theorems that the proofs of laws of this seat rest on.
  No condition.
-/
import Derived.Test.YtelkiipjepcjmaaFB4
set_option linter.unusedVariables false
set_option linter.unusedSimpArgs false
section
namespace Tor
def swpF (j : Nat) (g : Nat → Int) : Nat → Int := fun q => if q = j then g (j + 1) else if q = j + 1 then g j else g q
def insJ : Nat → (Nat → Int) → Nat → Int
  | 0, g => g
  | j + 1, g => if g j < g (j + 1) then insJ j (swpF j g) else g
def sortN : Nat → (Nat → Int) → Nat → Int
  | 0, g => g
  | i + 1, g => insJ i (sortN i g)
def lst (n : Nat) (g : Nat → Int) : List Int := (List.range n).map g
theorem lst_succ (n : Nat) (g : Nat → Int) : lst (n + 1) g = lst n g ++ [g n] := by unfold lst; rw [List.range_succ, List.map_append]; rfl
theorem lst_congr {n : Nat} {g h : Nat → Int} (e : ∀ i, i < n → g i = h i) : lst n g = lst n h := List.map_congr_left fun i hi => e i (List.mem_range.1 hi)
theorem swpF_perm {j : Nat} (g : Nat → Int) : ∀ {n : Nat}, j + 1 < n → (lst n (swpF j g)).Perm (lst n g)
  | 0, h => absurd h (Nat.not_lt_zero _)
  | n + 1, h => by
    by_cases e : n = j + 1
    · subst e
      rw [lst_succ, lst_succ, lst_succ, lst_succ, lst_congr (g := swpF j g) (h := g) (fun i hi => by unfold swpF; rw [if_neg (by omega), if_neg (by omega)])]
      have e1 : swpF j g j = g (j + 1) := by unfold swpF; rw [if_pos rfl]
      have e2 : swpF j g (j + 1) = g j := by unfold swpF; rw [if_neg (by omega), if_pos rfl]
      rw [e1, e2, List.append_assoc, List.append_assoc]
      exact List.Perm.append_left _ (List.Perm.swap _ _ _)
    · rw [lst_succ, lst_succ]
      have e1 : swpF j g n = g n := by unfold swpF; rw [if_neg (by omega), if_neg (by omega)]
      rw [e1]
      exact (swpF_perm g (by omega)).append_right _
theorem insJ_perm {n : Nat} : ∀ {j : Nat} {g : Nat → Int}, j < n → (lst n (insJ j g)).Perm (lst n g)
  | 0, g, _ => List.Perm.refl _
  | j + 1, g, h => by
    show (lst n (if g j < g (j + 1) then insJ j (swpF j g) else g)).Perm _
    split
    · exact (insJ_perm (by omega)).trans (swpF_perm g h)
    · exact List.Perm.refl _
theorem sortN_perm {n : Nat} (g : Nat → Int) : ∀ {i : Nat}, i ≤ n → (lst n (sortN i g)).Perm (lst n g)
  | 0, _ => List.Perm.refl _
  | i + 1, h => (insJ_perm (by omega)).trans (sortN_perm g (by omega))
end Tor
end
section
namespace Tor
open Go Go.RowKit Go.Proofs
def blenF : Nat → Nat → Nat
  | 0, _ => 0
  | f + 1, x => if x = 0 then 0 else blenF f (x / 2) + 1
def blen (x : Nat) : Nat := blenF 64 x
theorem blenF_spec : ∀ (f x : Nat), x < 2 ^ f → x < 2 ^ blenF f x ∧ (x = 0 → blenF f x = 0) ∧ (x ≠ 0 → 0 < blenF f x ∧ 2 ^ (blenF f x - 1) ≤ x) ∧ blenF f x ≤ f
  | 0, x, h => by simp at h; subst h; simp [blenF]
  | f + 1, x, h => by
    rw [blenF]
    split
    · rename_i h0; subst h0; simp
    · rename_i h0
      have h1 : x / 2 < 2 ^ f := by rw [Nat.pow_succ] at h; omega
      obtain ⟨i1, i2, i3, i4⟩ := blenF_spec f (x / 2) h1
      refine ⟨by rw [Nat.pow_succ]; omega, fun h => absurd h h0, fun _ => ⟨by omega, ?_⟩, by omega⟩
      rw [Nat.add_sub_cancel]
      by_cases h2 : x / 2 = 0
      · rw [i2 h2]; simp; omega
      · obtain ⟨j1, j2⟩ := i3 h2
        obtain ⟨m, hm⟩ : ∃ m, blenF f (x / 2) = m + 1 := ⟨blenF f (x / 2) - 1, by omega⟩
        rw [hm] at j2 ⊢
        rw [Nat.add_sub_cancel] at j2
        rw [Nat.pow_succ]; omega
theorem blen_lt {x : Nat} (h : x < 2 ^ 64) : x < 2 ^ blen x := (blenF_spec 64 x h).1
theorem blen_ge {x : Nat} (h : x < 2 ^ 64) (h0 : x ≠ 0) : 0 < blen x ∧ 2 ^ (blen x - 1) ≤ x := (blenF_spec 64 x h).2.2.1 h0
theorem blen_uniq {x n : Nat} (h : x < 2 ^ 64) (h1 : x < 2 ^ n) (h2 : n = 0 ∨ 2 ^ (n - 1) ≤ x) : blen x = n := by
  obtain ⟨i1, i2, i3, _⟩ := blenF_spec 64 x h
  show blenF 64 x = n
  by_cases h0 : x = 0
  · rw [i2 h0]
    rcases h2 with h2 | h2
    · exact h2.symm
    · subst h0; have := Nat.two_pow_pos (n - 1); omega
  · obtain ⟨j1, j2⟩ := i3 h0
    rcases Nat.lt_trichotomy (blenF 64 x) n with h3 | h3 | h3
    · have := Nat.pow_le_pow_right (n := 2) (by decide) (show blenF 64 x ≤ n - 1 by omega)
      rcases h2 with h2 | h2
      · omega
      · omega
    · exact h3
    · have := Nat.pow_le_pow_right (n := 2) (by decide) (show n ≤ blenF 64 x - 1 by omega)
      omega
theorem blen_le {x n : Nat} (h : x < 2 ^ n) (hn : n ≤ 64) : blen x ≤ n := by
  have hx : x < 2 ^ 64 := Nat.lt_of_lt_of_le h (Nat.pow_le_pow_right (by decide) hn)
  by_cases h0 : x = 0
  · have := (blenF_spec 64 x hx).2.1 h0
    unfold blen; omega
  · obtain ⟨j1, j2⟩ := blen_ge hx h0
    rcases Nat.lt_or_ge n (blen x) with h3 | h3
    · have := Nat.pow_le_pow_right (n := 2) (by decide) (show n ≤ blen x - 1 by omega)
      omega
    · exact h3
theorem blen_div {x k : Nat} (h : x < 2 ^ 64) (hk : 2 ^ k ≤ x) : blen x = k + blen (x / 2 ^ k) := by
  have hp := Nat.two_pow_pos k
  have hy : x / 2 ^ k < 2 ^ 64 := Nat.lt_of_le_of_lt (Nat.div_le_self _ _) h
  have hy0 : x / 2 ^ k ≠ 0 := by
    have := (Nat.le_div_iff_mul_le hp (x := 1) (y := x)).2 (by omega); omega
  obtain ⟨j1, j2⟩ := blen_ge hy hy0
  have j3 := blen_lt hy
  refine blen_uniq h ?_ (.inr ?_)
  · rw [Nat.pow_add]
    have := Nat.lt_mul_div_succ x hp
    exact Nat.lt_of_lt_of_le this (Nat.mul_le_mul_left _ j3)
  · have e : k + blen (x / 2 ^ k) - 1 = (blen (x / 2 ^ k) - 1) + k := by omega
    rw [e, Nat.pow_add]
    exact Nat.le_trans (Nat.mul_le_mul_right _ j2) (Nat.div_mul_le_self x (2 ^ k))
theorem tab_of {s : ByteArray} (h : ((List.range 256).all fun i => (s[i]?).map UInt8.toNat == some (blen i)) = true) {i : Nat} (hi : i < 256) : (s[i]?).map UInt8.toNat = some (blen i) := by
  have := List.all_eq_true.1 h i (List.mem_range.2 hi)
  simpa using this
attribute [local irreducible] Tor.J Tor.PJ Tor.StepO Tor.one Tor.slT Tor.ptrT Tor.aggT Tor.tupT Tor.exT Tor.andT Tor.eP Tor.boxO Tor.sliO Tor.slV Tor.VT.le Tor.Ret Tor.anyT
set_option maxHeartbeats 1000000 in
theorem Len32_ok (x : Nat) (hx : x < 4294967296) : Ok Try.prog 63 [one (.int .u32 x)] (one (.int .i64 (blen x))) := by
  refine Ok.enter Try.func63 rfl Try.ntmps63 rfl (fun w O => ?_)
  have key : ∀ y : Nat, y < 256 → blen y ≤ 8 := fun y hy => blen_le (n := 8) (by omega) (by decide)
  by_cases h1 : 65536 ≤ x
  · have e1 := blen_div (k := 16) (x := x) (by omega) (by omega)
    by_cases h2 : 256 ≤ x / 2 ^ 16
    · have e2 := blen_div (k := 8) (x := x / 2 ^ 16) (by omega) (by omega)
      have k2 := key (x / 2 ^ 16 / 2 ^ 8) (by omega)
      refine J_seq (J_reg (st (s_assign rfl) rfl (Run.nil (pj_then (J_seq (J_seq (J_reg (st (s_move rfl) rfl (st (sT (by omega) (s_ge rfl rfl)) rfl ?_)))))))))
      refine Run.nil (pj_then (J_cond1 rfl (J_seq (J_reg (st (s_move rfl) rfl (st (s_shrU (s := 16) rfl rfl (by decide)) rfl (st (s_assign rfl) rfl (Run.nil (pj_then ?_)))))))))
      refine J_reg (st (s_assign rfl) rfl (Run.nil (pj_then (J_seq (J_seq (J_reg (st (s_move rfl) rfl (st (sT (by omega) (s_ge rfl rfl)) rfl (Run.nil ?_)))))))))
      refine pj_then (J_cond1 rfl (J_seq (J_reg (st (s_move rfl) rfl (st (s_shrU (s := 8) rfl rfl (by decide)) rfl (st (s_assign rfl) rfl (Run.nil (pj_then (J_reg ?_)))))))))
      refine st (s_move rfl) rfl (st (s_add rfl rfl (wrap_i64 (by omega) (by omega))) rfl (st (s_assign rfl) rfl (Run.nil (pj_then (J_seq (J_reg (st (s_move rfl) rfl (st (s_move rfl) rfl (st (s_toU8K rfl (by omega) (by omega)) rfl ?_)))))))))
      refine st (s_indexStr (by kernel_rfl) rfl rfl (tab_of (by decide +kernel) (by omega))) rfl (st (s_toI64 rfl (by omega) (by omega)) rfl (st (s_add rfl rfl (wrap_i64 (by omega) (by omega))) rfl (st (s_assign rfl) rfl (Run.nil (pj_then (J_ret ?_))))))
      refine retc1 Try.results63 (.tmp rfl (one_le (by congr 1; omega)))
    · have k2 := key (x / 2 ^ 16) (by omega)
      refine J_seq (J_reg (st (s_assign rfl) rfl (Run.nil (pj_then (J_seq (J_seq (J_reg (st (s_move rfl) rfl (st (sT (by omega) (s_ge rfl rfl)) rfl ?_)))))))))
      refine Run.nil (pj_then (J_cond1 rfl (J_seq (J_reg (st (s_move rfl) rfl (st (s_shrU (s := 16) rfl rfl (by decide)) rfl (st (s_assign rfl) rfl (Run.nil (pj_then ?_)))))))))
      refine J_reg (st (s_assign rfl) rfl (Run.nil (pj_then (J_seq (J_seq (J_reg (st (s_move rfl) rfl (st (sF (by omega) (s_ge rfl rfl)) rfl (Run.nil ?_)))))))))
      refine pj_then (J_cond0 rfl (J_skip (pj_then (J_seq (J_reg (st (s_move rfl) rfl (st (s_move rfl) rfl (st (s_toU8K rfl (by omega) (by omega)) rfl (st (s_indexStr (by kernel_rfl) rfl rfl (tab_of (by decide +kernel) (by omega))) rfl ?_)))))))))
      refine st (s_toI64 rfl (by omega) (by omega)) rfl (st (s_add rfl rfl (wrap_i64 (by omega) (by omega))) rfl (st (s_assign rfl) rfl (Run.nil (pj_then (J_ret ?_)))))
      refine retc1 Try.results63 (.tmp rfl (one_le (by congr 1; omega)))
  · by_cases h2 : 256 ≤ x
    · have e2 := blen_div (k := 8) (x := x) (by omega) (by omega)
      have k2 := key (x / 2 ^ 8) (by omega)
      refine J_seq (J_reg (st (s_assign rfl) rfl (Run.nil (pj_then (J_seq (J_seq (J_reg (st (s_move rfl) rfl (st (sF (by omega) (s_ge rfl rfl)) rfl ?_)))))))))
      refine Run.nil (pj_then (J_cond0 rfl (J_skip (pj_then (J_seq (J_seq (J_reg (st (s_move rfl) rfl (st (sT (by omega) (s_ge rfl rfl)) rfl ?_)))))))))
      refine Run.nil (pj_then (J_cond1 rfl (J_seq (J_reg (st (s_move rfl) rfl (st (s_shrU (s := 8) rfl rfl (by decide)) rfl (st (s_assign rfl) rfl (Run.nil (pj_then ?_)))))))))
      refine J_reg (st (s_move rfl) rfl (st (s_add rfl rfl (wrap_i64 (by omega) (by omega))) rfl (st (s_assign rfl) rfl (Run.nil (pj_then (J_seq (J_reg (st (s_move rfl) rfl (st (s_move rfl) rfl ?_)))))))))
      refine st (s_toU8K rfl (by omega) (by omega)) rfl (st (s_indexStr (by kernel_rfl) rfl rfl (tab_of (by decide +kernel) (by omega))) rfl (st (s_toI64 rfl (by omega) (by omega)) rfl (st (s_add rfl rfl (wrap_i64 (by omega) (by omega))) rfl (st (s_assign rfl) rfl (Run.nil (pj_then (J_ret ?_)))))))
      refine retc1 Try.results63 (.tmp rfl (one_le (by congr 1; omega)))
    · have k2 := key x (by omega)
      refine J_seq (J_reg (st (s_assign rfl) rfl (Run.nil (pj_then (J_seq (J_seq (J_reg (st (s_move rfl) rfl (st (sF (by omega) (s_ge rfl rfl)) rfl ?_)))))))))
      refine Run.nil (pj_then (J_cond0 rfl (J_skip (pj_then (J_seq (J_seq (J_reg (st (s_move rfl) rfl (st (sF (by omega) (s_ge rfl rfl)) rfl ?_)))))))))
      refine Run.nil (pj_then (J_cond0 rfl (J_skip (pj_then (J_seq (J_reg (st (s_move rfl) rfl (st (s_move rfl) rfl (st (s_toU8K rfl (by omega) (by omega)) rfl ?_)))))))))
      refine st (s_indexStr (by kernel_rfl) rfl rfl (tab_of (by decide +kernel) (by omega))) rfl (st (s_toI64 rfl (by omega) (by omega)) rfl (st (s_add rfl rfl (wrap_i64 (by omega) (by omega))) rfl (st (s_assign rfl) rfl (Run.nil (pj_then (J_ret ?_))))))
      refine retc1 Try.results63 (.tmp rfl (one_le (by congr 1; omega)))
set_option maxHeartbeats 1000000 in
theorem LZ32_ok (x : Nat) (hx : x < 4294967296) : Ok Try.prog 99 [one (.int .u32 x)] (one (.int .i64 ((32 - blen x : Nat) : Int))) := by
  have h := blen_le (n := 32) (x := x) (by omega) (by decide)
  refine Ok.enter Try.func99 rfl Try.ntmps99 rfl (fun w O => ?_)
  refine J_seq (J_reg (st (s_assign rfl) rfl (Run.nil (pj_then (J_seq (J_reg (st (s_move rfl) rfl ?_)))))))
  refine st (s_callk (Len32_ok _ (by assumption)) rfl ⟨VT.le_refl _, trivial⟩) rfl ?_
  refine st (s_sub rfl rfl (wrap_i64 (by omega) (by omega))) rfl (st (s_assign rfl) rfl (Run.nil (pj_then (J_ret ?_))))
  refine retc1 Try.results99 (.tmp rfl (one_le (by congr 1; omega)))
theorem pow32 (i : Nat) : 4294967296 ^ i = 2 ^ (32 * i) := by rw [Nat.pow_mul]
theorem lv_take_lt {l : List Nat} (h : Limbs l) (i : Nat) : lv (l.take i) < 2 ^ (32 * i) := by
  have h1 := lv_lt (h.take i)
  rw [← pow32]
  exact Nat.lt_of_lt_of_le h1 (Nat.pow_le_pow_right (by decide) (by simp; omega))
theorem word_bound {d e i : Nat} (hd : d < 4294967296) (hb : e < 2 ^ (32 * i)) (hi : i ≤ 1) : d * 2 ^ (32 * i) + e < 18446744073709551616 := by
  rcases (show i = 0 ∨ i = 1 by omega) with rfl | rfl
  · rw [show 2 ^ (32 * 0) = 1 by simp] at hb ⊢; omega
  · rw [show 2 ^ (32 * 1) = 4294967296 by simp] at hb ⊢
    have h1 : d * 4294967296 + e < (d + 1) * 4294967296 := by rw [Nat.add_mul]; exact Nat.add_lt_add_left (by rw [Nat.one_mul]; exact hb) _
    exact Nat.lt_of_lt_of_le h1 (Nat.le_trans (Nat.mul_le_mul_right _ hd) (Nat.le_of_eq rfl))
set_option maxHeartbeats 1000000 in
theorem word_ok (l : List Nat) (hl : Limbs l) (h2 : l.length ≤ 2) : Ok Try.prog 97 [limT l] (one (.int .u64 (lv l))) := by
  refine Ok.enter Try.func97 rfl Try.ntmps97 rfl (fun w O => ?_)
  refine J_seq (J_reg (st (s_assign rfl) rfl (Run.nil (pj_then (J_seq (J_reg (st (s_assign rfl) rfl (Run.nil (pj_then ?_)))))))))
  refine J_seq (J_seq (J_reg (st (s_move rfl) rfl (st (s_len rfl) rfl (st (s_move rfl) rfl (Run.nil (pj_then (J_block (J_sub (Γ' := [(2, _), (3, _), (6, _), (7, _), (8, _)]) (SubG.cons rfl (VT.le_refl _) (SubG.cons rfl (VT.le_refl _) (SubG.cons rfl (VT.le_refl _) (SubG.cons rfl (VT.le_refl _) (SubG.cons rfl (VT.le_refl _) (SubG.nil)))))) (SubM.refl _) ?_)))))))))
  refine J_loopA (σ := Nat) (Γk := [(2, _), (6, _), (7, _)]) (SubG.cons rfl (VT.le_refl _) (SubG.cons rfl (VT.le_refl _) (SubG.cons rfl (VT.le_refl _) (SubG.nil)))) (fun i => [(8, one (.int .i64 (i : Nat))), (3, one (.int .u64 (lv (l.take i))))]) (fun i M0 => M0) (fun i => i ≤ l.length) (fun i => l.length - i) (0) (Nat.zero_le _) (by repeat (first | exact SubG.refl _ | exact SubG.nil | refine SubG.cons rfl (VT.le_refl _) ?_ | (refine SubG.cons rfl (one_le ?_) ?_; (congr 1; first | omega | (simp; omega) | simp)))) (.nil) (fun i hi => ?_)
  refine J_norm (Γ' := [(8, _), (3, _), (2, _), (6, _), (7, _)]) (M' := []) rfl rfl (J_seq (J_reg (st (s_lt rfl rfl) rfl (Run.nil (pj_then (J_seq ?_))))))
  refine J_if rfl (fun hc => ?_) (fun hc => ?_)
  · have hi1 : i ≤ 1 := by omega
    have hd := getD_lt hl i
    have hb := lv_take_lt hl i
    have hab := word_bound hd hb hi1
    have ha : l.getD i 0 * 2 ^ (32 * i) < 18446744073709551616 := Nat.lt_of_le_of_lt (Nat.le_add_right _ _) hab
    have hn : lv (l.take i) + l.getD i 0 * 2 ^ (32 * i) = lv (l.take (i + 1)) := by
      rw [lv_take_succ (by omega), pow32, Nat.mul_comm]
    refine J_skip (pj_then (J_seq (J_block (J_seq (J_reg (st (s_move rfl) rfl (st (s_indexIN rfl rfl (by omega)) rfl (st (s_load rfl) rfl (st (s_assign rfl) rfl ?_)))))))))
    refine st (s_assign rfl) rfl (Run.nil (pj_then (J_reg (st (s_move rfl) rfl (st (s_move rfl) rfl (st (s_toU64 rfl (by omega)) rfl (st (s_move rfl) rfl (st (s_mulN 32 _ rfl rfl (by omega)) rfl (st (s_shlU rfl rfl (by omega) (by omega)) rfl ?_)))))))))
    refine st (s_orS rfl rfl (by omega) (by omega)) rfl (st (s_assign rfl) rfl (Run.nil (pn_block (pj_then (J_reg (st (s_addN _ 1 rfl rfl (by omega)) rfl (st (s_move rfl) rfl (Run.nil ?_))))))))
    rw [hn]
    refine pj_roundM (i + 1) (by omega) (by omega) (by repeat (first | exact SubG.refl _ | exact SubG.nil | refine SubG.cons rfl (VT.le_refl _) ?_ | (refine SubG.cons rfl (one_le ?_) ?_; (congr 1; first | omega | (simp; omega) | simp)))) (.nil)
  · have e : i = l.length := by omega
    subst e
    rw [List.take_length]
    refine J_exit (px_then (px_then (px_block (pj_then (J_seq (J_reg (st (s_move rfl) rfl (st (s_assign rfl) rfl (Run.nil ?_)))))))))
    refine pj_then (J_ret ?_)
    refine retc1 Try.results97 (.tmp rfl (VT.le_refl _))
end Tor
end
section
namespace Tor
open Go Go.RowKit Go.Proofs
structure ShortR (l : List Nat) (d : Nat) (s : List Nat × Nat × Nat) : Prop where
  le : s.2.1 ≤ l.length
  len : s.1.length = l.length
  lim : Limbs s.1
  r : s.2.2 < d
  zero : ∀ k, k < s.2.1 → s.1.getD k 0 = 0
  val : lv l = lv (l.take s.2.1) + (lv s.1 * d + 4294967296 ^ s.2.1 * s.2.2)
theorem ShortR.start {l : List Nat} {d : Nat} (hd : 0 < d) : ShortR l d (List.replicate l.length 0, l.length, 0) :=
  ⟨Nat.le_refl _, by simp, Limbs.replicate _, hd, fun k _ => getD_replicate0 _ _, by simp [lv_replicate]⟩
theorem ShortR.bound {x r d : Nat} (hx : x < 4294967296) (hr : r < d) (hd : d < 4294967296) : r * 4294967296 + x < 18446744073709551616 ∧ (r * 4294967296 + x) / d < 4294967296 := by
  have h1 : r * 4294967296 + x < d * 4294967296 := by omega
  exact ⟨by omega, Nat.div_lt_of_lt_mul h1⟩
theorem ShortR.step {l : List Nat} {d : Nat} {z : List Nat} {n r : Nat} (h : ShortR l d (z, n + 1, r)) (hl : Limbs l) (hd : d < 4294967296) :
    ShortR l d (z.set n ((r * 4294967296 + l.getD n 0) / d), n, (r * 4294967296 + l.getD n 0) % d) := by
  have hn : n < l.length := h.le
  have hz : n < z.length := by have := h.len; simp only at this; omega
  have hx := getD_lt hl n
  have hr : r < d := h.r
  have hb := ShortR.bound hx hr hd
  have h0 : z.getD n 0 = 0 := h.zero n (Nat.lt_succ_self n)
  have hs := lv_set (l := z) (v := (r * 4294967296 + l.getD n 0) / d) hz
  rw [h0, Nat.mul_zero, Nat.add_zero] at hs
  refine ⟨Nat.le_of_lt hn, by rw [List.length_set]; exact h.len, Limbs.set h.lim hb.2, Nat.mod_lt _ (by omega), fun k hk => ?_, ?_⟩
  · simp only at hk ⊢
    rw [getD_setL hz, if_neg (by omega)]; exact h.zero k (Nat.lt_succ_of_lt hk)
  · have hv : lv l = lv (l.take (n + 1)) + (lv z * d + 4294967296 ^ (n + 1) * r) := h.val
    simp only
    rw [hs, hv, lv_take_succ hn]
    have e := Nat.div_add_mod (r * 4294967296 + l.getD n 0) d
    generalize (r * 4294967296 + l.getD n 0) / d = q at *
    generalize (r * 4294967296 + l.getD n 0) % d = m at *
    generalize l.getD n 0 = x at *
    rw [Nat.pow_succ]
    generalize 4294967296 ^ n = B at *
    have e2 : B * (d * q + m) = B * (r * 4294967296 + x) := by rw [e]
    have e3 : (lv z + B * q) * d = lv z * d + B * (d * q) := by rw [Nat.add_mul, Nat.mul_assoc, Nat.mul_comm q d]
    have e4 : B * 4294967296 * r = B * (r * 4294967296) := by rw [Nat.mul_assoc, Nat.mul_comm r]
    rw [e3, e4]
    rw [Nat.mul_add, Nat.mul_add] at e2
    omega
theorem ShortR.finish {l : List Nat} {d : Nat} {z : List Nat} {r : Nat} (h : ShortR l d (z, 0, r)) : lv z = lv l / d ∧ r = lv l % d := by
  have hv : lv l = lv (l.take 0) + (lv z * d + 4294967296 ^ 0 * r) := h.val
  have hr : r < d := h.r
  have e : lv l = lv z * d + r := by simpa [lv] using hv
  rw [e]
  constructor
  · rw [Nat.mul_comm, Nat.mul_add_div (by omega), Nat.div_eq_of_lt hr]; rfl
  · rw [Nat.mul_comm, Nat.mul_add_mod, Nat.mod_eq_of_lt hr]
theorem lim_set {b : Option Nat} {T : TypeId} {n cap : Nat} {z : List Nat} {k v v' : Nat} (hk : k < z.length) (hv : v' = v) : Own.le (sliO b T .one n cap (upd (fun q => one (.int .u32 (z.getD q 0 : Nat))) k (one (.int .u32 (v' : Nat))))) (sliO b T .one n cap (fun q => one (.int .u32 ((z.set k v).getD q 0 : Nat)))) := by
  subst hv
  exact sliO_eq (fun q _ => by unfold upd; rw [getD_setL hk]; split <;> rfl)
attribute [local irreducible] Tor.J Tor.PJ Tor.StepO Tor.one Tor.slT Tor.ptrT Tor.aggT Tor.tupT Tor.exT Tor.andT Tor.eP Tor.boxO Tor.sliO Tor.slV Tor.VT.le Tor.Ret Tor.anyT
set_option maxHeartbeats 1000000 in
theorem short_ok (l : List Nat) (d : Nat) (hl : Limbs l) (h1 : l.length ≤ 1099511627776) (hd0 : 0 < d) (hd : d < 4294967296) : Ok Try.prog 98 [limT l, one (.int .u32 (d : Nat))] (tupT [natT (lv l / d), one (.int .u32 ((lv l % d : Nat) : Int))]) := by
  refine Ok.enter Try.func98 rfl Try.ntmps98 rfl (fun w O => ?_)
  refine J_seq (J_reg (st (s_assign rfl) rfl (st (s_assign rfl) rfl (Run.nil (pj_then (J_seq (J_reg (st (s_move rfl) rfl (st (s_len rfl) rfl ?_)))))))))
  refine a_makeSlice l.length l.length rfl rfl rfl rfl (Nat.le_refl _) rfl rfl (by omega) rfl rfl (fun bz => ?_)
  refine st (s_assign rfl) rfl (Run.nil (pj_then (J_seq (J_reg (st (s_assign rfl) rfl (Run.nil (pj_then (J_seq (J_seq ?_)))))))))
  refine J_reg (st (s_move rfl) rfl (st (s_len rfl) rfl (st (s_sub rfl rfl (wrap_i64 (by omega) (by omega))) rfl (st (s_assign rfl) rfl (Run.nil (pj_then (J_block (J_sub (Γ' := [(0, _), (1, _), (4, _), (5, _), (6, _), (7, _), (8, _)]) (SubG.cons rfl (VT.le_refl _) (SubG.cons rfl (VT.le_refl _) (SubG.cons rfl (VT.le_refl _) (SubG.cons rfl (VT.le_refl _) (SubG.cons rfl (VT.le_refl _) (SubG.cons rfl (VT.le_refl _) (SubG.cons rfl (VT.le_refl _) (SubG.nil)))))))) (SubM.refl _) ?_))))))))
  refine J_loopA (σ := List Nat × Nat × Nat) (Γk := [(0, _), (1, _), (4, _), (5, _), (6, _)]) (SubG.cons rfl (VT.le_refl _) (SubG.cons rfl (VT.le_refl _) (SubG.cons rfl (VT.le_refl _) (SubG.cons rfl (VT.le_refl _) (SubG.cons rfl (VT.le_refl _) (SubG.nil)))))) (fun s => [(8, one (.int .i64 ((s.2.1 : Nat) - 1 : Int))), (7, one (.int .u64 (s.2.2 : Nat)))]) (fun s M0 => (M0.set 0 (sliO (some bz) 78 .one l.length l.length (fun q => one (.int .u32 (s.1.getD q 0 : Nat)))))) (fun s => ShortR l d s) (fun s => s.2.1) ((List.replicate l.length 0, l.length, 0)) (ShortR.start hd0) (by repeat (first | exact SubG.refl _ | exact SubG.nil | refine SubG.cons rfl (VT.le_refl _) ?_ | (refine SubG.cons rfl (one_le ?_) ?_; (congr 1; first | omega | (simp; omega) | simp)))) (.keep (sliO_eq (fun q _ => by rw [getD_replicate0]; rfl)) (.nil)) (fun s hs => ?_)
  refine J_norm (Γ' := [(8, _), (7, _), (0, _), (1, _), (4, _), (5, _), (6, _)]) (M' := [_]) rfl rfl ?_
  obtain ⟨z, n, r⟩ := s
  dsimp only at hs ⊢
  refine J_seq (J_seq (J_reg (st (s_move rfl) rfl (st (s_ge rfl rfl) rfl (Run.nil (pj_then ?_))))))
  cases n with
  | zero =>
    obtain ⟨f1, f2⟩ := hs.finish
    have hlen : z.length = l.length := hs.len
    have hr : r < d := hs.r
    rw [← f1, ← f2]
    refine J_condF rfl (by omega) (J_exit (px_then (px_then (px_block (pj_then (J_seq (J_reg (st (s_move rfl) rfl (st (s_move rfl) rfl ?_)))))))))
    refine st (s_toU32 rfl) rfl (st (s_assign rfl) rfl (st (s_assign rfl) rfl (Run.nil (pj_then (J_ret (PJ_freeze (t := 4) (i := 0) rfl rfl ?_))))))
    refine retc2 Try.results98 (.tmp rfl (VT.le_trans (slT_le' (m := z.length) (ψ := fun i => one (.int .u32 (z.getD i 0 : Nat))) hlen.symm (fun q hq => rfl)) (natT_of (l := z) hs.lim rfl))) (.tmp rfl (one_le (by congr 1; omega)))
  | succ n =>
    have hx := getD_lt hl n
    have hr : r < d := hs.r
    have hb := ShortR.bound hx hr hd
    have hst := hs.step hl hd
    have hn : n < l.length := hs.le
    have hzn : n < z.length := by have := hs.len; dsimp only at this; omega
    have en : ((n + 1 : Nat) : Int) - 1 = (n : Nat) := by omega
    rw [en]
    refine J_condT rfl (by omega) (J_skip (pj_then (J_seq (J_block (J_seq (J_reg (st (s_move rfl) rfl (st (s_shlU (s := 32) rfl rfl (by omega) (by omega)) rfl (st (s_move rfl) rfl ?_)))))))))
    refine st (s_move rfl) rfl (st (s_indexIN rfl rfl (by omega)) rfl (st (s_load rfl) rfl (st (s_toU64 rfl (by omega)) rfl (st (s_orHL rfl rfl (by omega) (by omega)) rfl (st (s_assign rfl) rfl (Run.nil (pj_then (J_seq (J_reg ?_)))))))))
    refine st (s_move rfl) rfl (st (s_move rfl) rfl (st (s_move rfl) rfl (st (s_move rfl) rfl (st (s_toU64 rfl (by omega)) rfl (st (s_quoU rfl rfl (by omega) (by omega)) rfl (st (s_toU32 rfl) rfl (st (s_indexON rfl rfl (by omega)) rfl ?_)))))))
    (refine a_storeE 0 rfl rfl rfl ?_ rfl ?_; omega)
    refine Run.nil (pj_then (J_reg (st (s_move rfl) rfl (st (s_move rfl) rfl (st (s_toU64 rfl (by omega)) rfl (st (s_remN _ rfl rfl rfl (by omega)) rfl (st (s_assign rfl) rfl (Run.nil (pn_block ?_)))))))))
    refine pj_then (J_reg (st (s_move rfl) rfl (st (s_sub rfl rfl (wrap_i64 (by omega) (by omega))) rfl (st (s_assign rfl) rfl (Run.nil ?_)))))
    refine pj_roundM ((z.set n ((r * 4294967296 + l.getD n 0) / d), n, (r * 4294967296 + l.getD n 0) % d)) (hst) (by (simp only []; omega)) (by repeat (first | exact SubG.refl _ | exact SubG.nil | refine SubG.cons rfl (VT.le_refl _) ?_ | (refine SubG.cons rfl (one_le ?_) ?_; (congr 1; first | omega | (simp; omega) | simp)))) (.keep (lim_set hzn (Nat.mod_eq_of_lt hb.2)) (.nil))
end Tor
end
section
namespace Tor
open Go Go.RowKit Go.Proofs
structure ShiftR (l : List Nat) (s : Nat) (p : List Nat × Nat × Nat) : Prop where
  le : p.2.1 ≤ l.length
  len : p.1.length = l.length + 1
  lim : Limbs p.1
  c : p.2.2 < 2 ^ s
  zero : ∀ k, p.2.1 ≤ k → p.1.getD k 0 = 0
  val : lv p.1 + 4294967296 ^ p.2.1 * p.2.2 = lv (l.take p.2.1) * 2 ^ s
theorem ShiftR.start (l : List Nat) (s : Nat) : ShiftR l s (List.replicate (l.length + 1) 0, 0, 0) :=
  ⟨Nat.zero_le _, by simp, Limbs.replicate _, Nat.two_pow_pos s, fun k _ => getD_replicate0 _ _, by simp [lv_replicate, lv]⟩
theorem ShiftR.bound {d c s : Nat} (hd : d < 4294967296) (hc : c < 2 ^ s) (hs : s < 32) : d * 2 ^ s + c < 4294967296 * 2 ^ s ∧ d * 2 ^ s + c < 18446744073709551616 ∧ d * 2 ^ s < 18446744073709551616 ∧ 2 ^ s < 4294967296 := by
  have h1 : (d + 1) * 2 ^ s ≤ 4294967296 * 2 ^ s := Nat.mul_le_mul_right _ hd
  have h2 : 2 ^ s ≤ 2 ^ 31 := Nat.pow_le_pow_right (by decide) (by omega)
  rw [Nat.add_mul, Nat.one_mul] at h1
  have h3 : (2 : Nat) ^ 31 = 2147483648 := rfl
  generalize d * 2 ^ s = x at *
  generalize 2 ^ s = y at *
  omega
theorem ShiftR.step {l : List Nat} {s : Nat} {z : List Nat} {i c : Nat} (h : ShiftR l s (z, i, c)) (hl : Limbs l) (hs : s < 32) (hi : i < l.length) :
    ShiftR l s (z.set i ((c + l.getD i 0 * 2 ^ s) % 4294967296), i + 1, (c + l.getD i 0 * 2 ^ s) / 4294967296) := by
  have hlen : z.length = l.length + 1 := h.len
  have hz : i < z.length := by omega
  have hc : c < 2 ^ s := h.c
  have hb := ShiftR.bound (getD_lt hl i) hc hs
  have h0 : z.getD i 0 = 0 := h.zero i (Nat.le_refl _)
  have hv : lv z + 4294967296 ^ i * c = lv (l.take i) * 2 ^ s := h.val
  have hse := lv_set (l := z) (v := (c + l.getD i 0 * 2 ^ s) % 4294967296) hz
  rw [h0, Nat.mul_zero, Nat.add_zero] at hse
  refine ⟨hi, by rw [List.length_set]; exact hlen, Limbs.set h.lim (Nat.mod_lt _ (by decide)), ?_, fun k hk => ?_, ?_⟩
  · show (c + l.getD i 0 * 2 ^ s) / 4294967296 < 2 ^ s
    exact Nat.div_lt_of_lt_mul (by omega)
  · simp only at hk ⊢
    rw [getD_setL hz, if_neg (by omega)]; exact h.zero k (by show i ≤ k; omega)
  · show lv (z.set i _) + 4294967296 ^ (i + 1) * _ = lv (l.take (i + 1)) * 2 ^ s
    dsimp only
    rw [hse, lv_take_succ hi, Nat.pow_succ, Nat.add_mul, ← hv]
    generalize l.getD i 0 = x at *
    generalize 2 ^ s = p at *
    have e := Nat.div_add_mod (c + x * p) 4294967296
    generalize (c + x * p) / 4294967296 = q at *
    generalize (c + x * p) % 4294967296 = m at *
    generalize 4294967296 ^ i = B at *
    have e2 : B * (4294967296 * q + m) = B * (c + x * p) := by rw [e]
    rw [Nat.mul_add, Nat.mul_add, ← Nat.mul_assoc, ← Nat.mul_assoc] at e2
    omega
theorem ShiftR.finish {l : List Nat} {s : Nat} {z : List Nat} {c : Nat} (h : ShiftR l s (z, l.length, c)) (hs : s < 32) :
    (z.set l.length c).length = l.length + 1 ∧ Limbs (z.set l.length c) ∧ lv (z.set l.length c) = lv l * 2 ^ s ∧ c < 4294967296 ∧ l.length < z.length := by
  have hlen : z.length = l.length + 1 := h.len
  have hc : c < 2 ^ s := h.c
  have hb := ShiftR.bound (d := 0) (by decide) hc hs
  have h0 : z.getD l.length 0 = 0 := h.zero _ (Nat.le_refl _)
  have hv : lv z + 4294967296 ^ l.length * c = lv (l.take l.length) * 2 ^ s := h.val
  have hse := lv_set (l := z) (k := l.length) (v := c) (by omega)
  rw [h0, Nat.mul_zero, Nat.add_zero] at hse
  rw [List.take_length] at hv
  exact ⟨by rw [List.length_set]; exact hlen, Limbs.set h.lim (by omega), by rw [hse, hv], by omega, by omega⟩
abbrev limF (z : List Nat) : Nat → VT := fun q => one (.int .u32 (z.getD q 0 : Nat))
theorem lim_setF {b : Option Nat} {T : TypeId} {n cap : Nat} {z : List Nat} {k v v' : Nat} (hk : k < z.length) (hv : v' = v) : Own.le (sliO b T .one n cap (upd (limF z) k (one (.int .u32 (v' : Nat))))) (sliO b T .one n cap (limF (z.set k v))) := lim_set hk hv
abbrev ShiftS (l : List Nat) (s : Nat) : Type := {p : Nat × List Nat // p.2.length = l.length + 1 ∧ Limbs p.2 ∧ lv p.2 = lv l * 2 ^ s}
attribute [local irreducible] Tor.J Tor.PJ Tor.StepO Tor.one Tor.slT Tor.ptrT Tor.aggT Tor.tupT Tor.exT Tor.andT Tor.eP Tor.boxO Tor.sliO Tor.slV Tor.VT.le Tor.Ret Tor.anyT
set_option maxHeartbeats 1000000 in
theorem shift_ok (l : List Nat) (s : Nat) (hl : Limbs l) (h1 : l.length ≤ 1099511627776) (hs : s < 32) : OkM Try.prog 100 [limT l, one (.int .i64 (s : Nat))] (fun p : ShiftS l s => one (slV (some p.1.1) (l.length + 1) (l.length + 1))) (fun p => [sliO (some p.1.1) 78 .one (l.length + 1) (l.length + 1) (limF p.1.2)]) := by
  refine OkM.enter Try.func100 rfl Try.ntmps100 rfl (fun w O => ?_)
  refine J_seq (J_reg (st (s_assign rfl) rfl (Run.nil (pj_then (J_seq (J_reg (st (s_move rfl) rfl (st (s_len rfl) rfl (st (s_addN _ 1 rfl rfl (by omega)) rfl ?_)))))))))
  refine a_makeSlice (l.length + 1) (l.length + 1) rfl rfl (by simp) (by simp) (Nat.le_refl _) rfl rfl (by omega) rfl rfl (fun bz => ?_)
  refine st (s_assign rfl) rfl (Run.nil (pj_then (J_seq (J_reg (st (s_assign rfl) rfl (Run.nil (pj_then (J_seq (J_seq ?_)))))))))
  refine J_reg (st (s_move rfl) rfl (st (s_len rfl) rfl (st (s_move rfl) rfl (Run.nil (pj_then (J_block (J_sub (Γ' := [(0, _), (1, _), (4, _), (5, _), (6, _), (13, _), (14, _), (15, _)]) (SubG.cons rfl (VT.le_refl _) (SubG.cons rfl (VT.le_refl _) (SubG.cons rfl (VT.le_refl _) (SubG.cons rfl (VT.le_refl _) (SubG.cons rfl (VT.le_refl _) (SubG.cons rfl (VT.le_refl _) (SubG.cons rfl (VT.le_refl _) (SubG.cons rfl (VT.le_refl _) (SubG.nil))))))))) (SubM.refl _) ?_)))))))
  refine J_loopA (σ := List Nat × Nat × Nat) (Γk := [(0, _), (1, _), (4, _), (5, _), (13, _), (14, _)]) (SubG.cons rfl (VT.le_refl _) (SubG.cons rfl (VT.le_refl _) (SubG.cons rfl (VT.le_refl _) (SubG.cons rfl (VT.le_refl _) (SubG.cons rfl (VT.le_refl _) (SubG.cons rfl (VT.le_refl _) (SubG.nil))))))) (fun p => [(15, one (.int .i64 (p.2.1 : Nat))), (6, one (.int .u64 (p.2.2 : Nat)))]) (fun p M0 => (M0.set 0 (sliO (some bz) 78 .one (l.length + 1) (l.length + 1) (limF p.1)))) (fun p => ShiftR l s p) (fun p => l.length - p.2.1) ((List.replicate (l.length + 1) 0, 0, 0)) (ShiftR.start l s) (by repeat (first | exact SubG.refl _ | exact SubG.nil | refine SubG.cons rfl (VT.le_refl _) ?_ | (refine SubG.cons rfl (one_le ?_) ?_; (congr 1; first | omega | (simp; omega) | simp)))) (.keep (sliO_eq (fun q _ => by unfold limF; rw [getD_replicate0]; rfl)) (.nil)) (fun p hp => ?_)
  refine J_norm (Γ' := [(15, _), (6, _), (0, _), (1, _), (4, _), (5, _), (13, _), (14, _)]) (M' := [_]) rfl rfl ?_
  obtain ⟨z, i, c⟩ := p
  dsimp only at hp ⊢
  refine J_seq (J_reg (st (s_lt rfl rfl) rfl (Run.nil (pj_then (J_seq ?_)))))
  refine J_if rfl (fun hcc => ?_) (fun hcc => ?_)
  · have hc : c < 2 ^ s := hp.c
    have hi : i < l.length := by omega
    have hb := ShiftR.bound (getD_lt hl i) hc hs
    have hst := hp.step hl hs hi
    have hx := getD_lt hl i
    have hzn : i < z.length := by have := hp.len; dsimp only at this; omega
    refine J_skip (pj_then (J_seq (J_block (J_seq (J_reg (st (s_move rfl) rfl (st (s_indexIN rfl rfl (by omega)) rfl (st (s_load rfl) rfl (st (s_assign rfl) rfl ?_)))))))))
    refine st (s_assign rfl) rfl (Run.nil (pj_then (J_seq (J_reg (st (s_move rfl) rfl (st (s_move rfl) rfl (st (s_toU64 rfl (by omega)) rfl (st (s_move rfl) rfl (st (s_shlU rfl rfl (by omega) (by omega)) rfl ?_)))))))))
    refine st (s_orS rfl rfl (by omega) (by omega)) rfl (st (s_assign rfl) rfl (Run.nil (pj_then (J_seq (J_reg (st (s_move rfl) rfl (st (s_move rfl) rfl (st (s_move rfl) rfl (st (s_toU32 rfl) rfl ?_)))))))))
    refine st (s_indexON rfl rfl (by omega)) rfl ?_
    (refine a_storeE 0 rfl rfl rfl ?_ rfl ?_; omega)
    refine Run.nil (pj_then (J_reg (st (s_move rfl) rfl (st (s_shr32 rfl) rfl (st (s_assign rfl) rfl (Run.nil (pn_block (pj_then (J_reg ?_)))))))))
    refine st (s_addN _ 1 rfl rfl (by omega)) rfl (st (s_move rfl) rfl (Run.nil ?_))
    refine pj_roundM ((z.set i ((c + l.getD i 0 * 2 ^ s) % 4294967296), i + 1, (c + l.getD i 0 * 2 ^ s) / 4294967296)) (hst) (by (simp only []; omega)) (by repeat (first | exact SubG.refl _ | exact SubG.nil | refine SubG.cons rfl (VT.le_refl _) ?_ | (refine SubG.cons rfl (one_le ?_) ?_; (congr 1; first | omega | (simp; omega) | simp)))) (.keep (lim_setF hzn rfl) (.nil))
  · have e : i = l.length := by have := hp.le; dsimp only at this; omega
    subst e
    obtain ⟨f1, f2, f3, f4, f5⟩ := hp.finish hs
    have hc : c < 2 ^ s := hp.c
    refine J_exit (px_then (px_then (px_block (pj_then (J_seq (J_reg (st (s_move rfl) rfl (st (s_move rfl) rfl (st (s_len rfl) rfl ?_)))))))))
    refine st (s_move rfl) rfl (st (s_toU32 rfl) rfl (st (s_indexON rfl rfl (by omega)) rfl ?_))
    (refine a_storeE 0 rfl rfl rfl ?_ rfl ?_; omega)
    refine Run.nil (pj_then (J_seq (J_reg (st (s_move rfl) rfl (st (s_assign rfl) rfl (Run.nil (pj_then (J_ret ?_))))))))
    refine retM1 (⟨(bz, z.set l.length c), f1, f2, f3⟩ : ShiftS l s) Try.results100 (.tmp rfl (VT.le_refl _)) (.keep (lim_setF f5 (Nat.mod_eq_of_lt f4)) .nil)
end Tor
end
section
namespace Tor
def win (W : List Nat) (j m : Nat) : List Nat := (W.drop j).take m
theorem win_len {W : List Nat} {j m : Nat} (h : j + m ≤ W.length) : (win W j m).length = m := by unfold win; simp; omega
theorem win_getD {W : List Nat} {j m i : Nat} (h : i < m) : (win W j m).getD i 0 = W.getD (j + i) 0 := by
  unfold win; simp [List.getD, List.getElem?_take, h]
theorem win_set {W : List Nat} {j m i x : Nat} (h : i < m) : win (W.set (j + i) x) j m = (win W j m).set i x := by
  unfold win; rw [List.drop_set, if_neg (by omega), Nat.add_sub_cancel_left, List.take_set]
theorem Limbs.win {W : List Nat} (h : Limbs W) (j m : Nat) : Limbs (win W j m) := fun d hd => h d (List.mem_of_mem_drop (List.mem_of_mem_take hd))
theorem lv_top2 {l : List Nat} {k : Nat} (h : l.length = k + 2) : lv l = lv (l.take k) + 4294967296 ^ k * (l.getD k 0 + 4294967296 * l.getD (k + 1) 0) := by
  have e : l = l.take (k + 2) := by rw [List.take_of_length_le (by omega)]
  conv => lhs; rw [e]
  rw [lv_take_succ (by omega), lv_take_succ (by omega), Nat.pow_succ, Nat.mul_add, Nat.mul_assoc]; omega
theorem lv_top3 {l : List Nat} {k : Nat} (h : l.length = k + 3) : lv l = lv (l.take k) + 4294967296 ^ k * (l.getD k 0 + 4294967296 * (l.getD (k + 1) 0 + 4294967296 * l.getD (k + 2) 0)) := by
  have e : l = l.take (k + 3) := by rw [List.take_of_length_le (by omega)]
  conv => lhs; rw [e]
  rw [lv_take_succ (by omega), lv_take_succ (by omega), lv_take_succ (by omega)]
  simp only [Nat.pow_succ, Nat.mul_add, Nat.mul_assoc]; omega
structure Gss (U V B P h v2 top u2 : Nat) : Prop where
  P0 : 0 < P
  iv1 : (h * B + v2) * P ≤ V
  iv2 : V < (h * B + v2 + 1) * P
  iu1 : (top * B + u2) * P ≤ U
  iu2 : U < (top * B + u2 + 1) * P
  l2 : v2 < B
  m2 : u2 < B
  h0 : 0 < h
  lt : U < V * B
theorem Gss.V0 {U V B P h v2 top u2 : Nat} (g : Gss U V B P h v2 top u2) : 0 < V := by
  rcases Nat.eq_zero_or_pos V with h | h
  · have := g.lt; rw [h] at this; simp at this
  · exact h
theorem Gss.top {U V B P h v2 top u2 : Nat} (g : Gss U V B P h v2 top u2) : top < (h + 1) * B := by
  have h1 : top * (B * P) < (h + 1) * B * (B * P) := by
    calc top * (B * P) = top * B * P := (Nat.mul_assoc _ _ _).symm
      _ ≤ (top * B + u2) * P := Nat.mul_le_mul_right _ (Nat.le_add_right _ _)
      _ ≤ U := g.iu1
      _ < V * B := g.lt
      _ ≤ (h * B + v2 + 1) * P * B := Nat.mul_le_mul_right _ (Nat.le_of_lt g.iv2)
      _ ≤ ((h + 1) * B) * P * B := Nat.mul_le_mul_right _ (Nat.mul_le_mul_right _ (by rw [Nat.add_mul, Nat.one_mul]; have := g.l2; omega))
      _ = (h + 1) * B * (B * P) := by rw [Nat.mul_assoc, Nat.mul_comm P B]
  exact Nat.lt_of_mul_lt_mul_right h1
theorem Gss.q_lt {U V B P h v2 top u2 : Nat} (g : Gss U V B P h v2 top u2) : U / V < B := Nat.div_lt_of_lt_mul g.lt
theorem Gss.start {U V B P h v2 top u2 : Nat} (g : Gss U V B P h v2 top u2) : U / V ≤ top / h := by
  rw [Nat.le_div_iff_mul_le g.h0]
  have h1 : (U / V * h) * (B * P) < (top + 1) * (B * P) := by
    calc (U / V * h) * (B * P) = U / V * (h * B * P) := by rw [Nat.mul_assoc, Nat.mul_assoc]
      _ ≤ U / V * ((h * B + v2) * P) := Nat.mul_le_mul_left _ (Nat.mul_le_mul_right _ (Nat.le_add_right _ _))
      _ ≤ U / V * V := Nat.mul_le_mul_left _ g.iv1
      _ ≤ U := Nat.div_mul_le_self _ _
      _ < (top * B + u2 + 1) * P := g.iu2
      _ ≤ ((top + 1) * B) * P := Nat.mul_le_mul_right _ (by rw [Nat.add_mul, Nat.one_mul]; have := g.m2; omega)
      _ = (top + 1) * (B * P) := Nat.mul_assoc _ _ _
  exact Nat.lt_succ_iff.1 (Nat.lt_of_mul_lt_mul_right h1)
theorem Gss.low {U V B P h v2 top u2 : Nat} (g : Gss U V B P h v2 top u2) {q r : Nat} (e : q * h + r = top) (hc : r * B + u2 < q * v2) : U / V < q := by
  have h1 : (U / V * (h * B + v2)) * P < (top * B + u2 + 1) * P := by
    calc (U / V * (h * B + v2)) * P = U / V * ((h * B + v2) * P) := Nat.mul_assoc _ _ _
      _ ≤ U / V * V := Nat.mul_le_mul_left _ g.iv1
      _ ≤ U := Nat.div_mul_le_self _ _
      _ < (top * B + u2 + 1) * P := g.iu2
  have h2 := Nat.lt_of_mul_lt_mul_right h1
  have h3 : top * B + u2 < q * (h * B + v2) := by
    rw [← e, Nat.add_mul, Nat.mul_add, Nat.mul_assoc]; omega
  exact Nat.lt_of_mul_lt_mul_right (Nat.lt_of_lt_of_le h2 h3)
theorem Gss.done {U V B P h v2 top u2 : Nat} (g : Gss U V B P h v2 top u2) {q r : Nat} (e : q * h + r = top) (hq : q < B) (hc : q * v2 ≤ r * B + u2 ∨ B ≤ r) : q ≤ U / V + 1 := by
  rcases Nat.eq_zero_or_pos q with h0 | h0
  · rw [h0]; exact Nat.zero_le _
  obtain ⟨p, rfl⟩ : ∃ p, q = p + 1 := ⟨q - 1, by omega⟩
  have hh : (p + 1) * v2 ≤ r * B + u2 := by
    rcases hc with hc | hc
    · exact hc
    · have h1 : (p + 1) * v2 ≤ B * B := Nat.mul_le_mul (Nat.le_of_lt hq) (Nat.le_of_lt g.l2)
      have h2 : B * B ≤ r * B := Nat.mul_le_mul_right _ hc
      omega
  have h3 : (p + 1) * (h * B + v2) ≤ top * B + u2 := by
    rw [← e, Nat.add_mul _ r, Nat.mul_add, Nat.mul_assoc]; omega
  have h4 : p * (h * B + v2 + 1) ≤ top * B + u2 := by
    refine Nat.le_trans ?_ h3
    rw [Nat.add_mul p 1, Nat.mul_add p (h * B + v2) 1, Nat.one_mul, Nat.mul_one]
    have : B ≤ h * B := Nat.le_mul_of_pos_left _ g.h0
    omega
  have h5 : p * V ≤ U := by
    calc p * V ≤ p * ((h * B + v2 + 1) * P) := Nat.mul_le_mul_left _ (Nat.le_of_lt g.iv2)
      _ = p * (h * B + v2 + 1) * P := (Nat.mul_assoc _ _ _).symm
      _ ≤ (top * B + u2) * P := Nat.mul_le_mul_right _ h4
      _ ≤ U := g.iu1
  have := (Nat.le_div_iff_mul_le g.V0).2 h5
  omega
theorem gss_of {u v : List Nat} {k : Nat} (hu : Limbs u) (hv : Limbs v) (lu : u.length = k + 3) (lw : v.length = k + 2) (hh : 0 < v.getD (k + 1) 0) (hlt : lv u < lv v * 4294967296) :
    Gss (lv u) (lv v) 4294967296 (4294967296 ^ k) (v.getD (k + 1) 0) (v.getD k 0) (u.getD (k + 2) 0 * 4294967296 + u.getD (k + 1) 0) (u.getD k 0) := by
  have e1 := lv_top3 lu
  have e2 := lv_top2 lw
  have h1 := lv_lt (hu.take k)
  have h2 := lv_lt (hv.take k)
  rw [List.length_take_of_le (by omega)] at h1 h2
  have g1 := getD_lt hu k
  have g2 := getD_lt hv k
  refine ⟨Nat.pow_pos (by decide), ?_, ?_, ?_, ?_, g2, g1, hh, hlt⟩
  · rw [e2, Nat.mul_comm _ (4294967296 ^ k), show v.getD (k + 1) 0 * 4294967296 + v.getD k 0 = v.getD k 0 + 4294967296 * v.getD (k + 1) 0 by omega]; omega
  · rw [e2, Nat.mul_comm _ (4294967296 ^ k), show v.getD (k + 1) 0 * 4294967296 + v.getD k 0 + 1 = v.getD k 0 + 4294967296 * v.getD (k + 1) 0 + 1 by omega, Nat.mul_add (4294967296 ^ k) _ 1]; omega
  · rw [e1, Nat.mul_comm _ (4294967296 ^ k), show (u.getD (k + 2) 0 * 4294967296 + u.getD (k + 1) 0) * 4294967296 + u.getD k 0 = u.getD k 0 + 4294967296 * (u.getD (k + 1) 0 + 4294967296 * u.getD (k + 2) 0) by omega]; omega
  · rw [e1, Nat.mul_comm _ (4294967296 ^ k), show (u.getD (k + 2) 0 * 4294967296 + u.getD (k + 1) 0) * 4294967296 + u.getD k 0 + 1 = u.getD k 0 + 4294967296 * (u.getD (k + 1) 0 + 4294967296 * u.getD (k + 2) 0) + 1 by omega, Nat.mul_add (4294967296 ^ k) _ 1]; omega
structure GuessR (h top Q : Nat) (p : Nat × Nat) : Prop where
  e : p.1 * h + p.2 = top
  r : p.2 < 4294967296
  q : Q ≤ p.1
  m : p.1 ≤ 4294967297
structure SubR (u v : List Nat) (q : Nat) (z : List Nat) (i b c : Nat) : Prop where
  le : i ≤ v.length
  len : z.length = u.length
  lim : Limbs z
  hb : b ≤ 1
  hc : c < 4294967296
  val : lv z + q * lv (v.take i) = lv u + 4294967296 ^ i * (b + c)
theorem borrow2 {x y b d : Nat} (hx : x < 4294967296) (hy : y < 4294967296) (hb : b ≤ 1) (hd : d = ((x + 18446744073709551616 - y) % 18446744073709551616 + 18446744073709551616 - b) % 18446744073709551616) :
    d % 4294967296 + y + b = x + 4294967296 * (d / 9223372036854775808) ∧ d / 9223372036854775808 ≤ 1 := by
  rcases Nat.lt_or_ge x (y + b) with h | h
  · have h1 : d = x + 18446744073709551616 - (y + b) := by omega
    omega
  · have h1 : d = x - (y + b) := by omega
    omega
theorem SubR.start {u v : List Nat} {q : Nat} (hu : Limbs u) : SubR u v q u 0 0 0 := ⟨Nat.zero_le _, rfl, hu, by decide, by decide, by simp [lv]⟩
theorem sub_lim {q y c : Nat} (hq : q < 4294967296) (hy : y < 4294967296) (hc : c < 4294967296) : q * y < 18446744073709551616 ∧ c + q * y < 18446744073709551616 ∧ (c + q * y) / 4294967296 < 4294967296 := by
  have h1 : q * y ≤ 4294967295 * 4294967295 := Nat.mul_le_mul (by omega) (by omega)
  omega
theorem SubR.step {u v z : List Nat} {q i b c d : Nat} (h : SubR u v q z i b c) (hv : Limbs v) (hq : q < 4294967296) (hi : i < v.length) (hl : v.length ≤ u.length)
    (hd : d = ((z.getD i 0 + 18446744073709551616 - (c + q * v.getD i 0) % 4294967296) % 18446744073709551616 + 18446744073709551616 - b) % 18446744073709551616) :
    SubR u v q (z.set i (d % 4294967296)) (i + 1) (d / 9223372036854775808) ((c + q * v.getD i 0) / 4294967296) := by
  have hlim := sub_lim hq (getD_lt hv i) h.hc
  obtain ⟨h1, h2⟩ := borrow2 (getD_lt h.lim i) (Nat.mod_lt _ (by decide)) h.hb hd
  have hz : i < z.length := by rw [h.len]; omega
  have hs := lv_set (l := z) (v := d % 4294967296) hz
  have hvv := h.val
  refine ⟨hi, by rw [List.length_set]; exact h.len, h.lim.set (Nat.mod_lt _ (by decide)), h2, hlim.2.2, ?_⟩
  rw [lv_take_succ hi, Nat.pow_succ, Nat.mul_add q]
  have e := Nat.div_add_mod (c + q * v.getD i 0) 4294967296
  have e5 : q * (4294967296 ^ i * v.getD i 0) = 4294967296 ^ i * (q * v.getD i 0) := Nat.mul_left_comm _ _ _
  rw [e5]
  clear hd
  generalize z.getD i 0 = x at *
  generalize q * v.getD i 0 = y at *
  generalize 4294967296 ^ i = B at *
  generalize (c + y) / 4294967296 = t1 at *
  generalize (c + y) % 4294967296 = t2 at *
  generalize d % 4294967296 = r at *
  generalize d / 9223372036854775808 = q' at *
  have e2 : B * (r + t2 + b) = B * (x + 4294967296 * q') := by rw [h1]
  have e3 : B * (4294967296 * t1 + t2) = B * (c + y) := by rw [e]
  simp only [Nat.mul_add, Nat.mul_assoc] at e2 e3 hvv ⊢
  omega
structure BackR (u v : List Nat) (z : List Nat) (i c : Nat) : Prop where
  le : i ≤ v.length
  len : z.length = u.length
  lim : Limbs z
  hc : c ≤ 1
  val : lv z + 4294967296 ^ i * c = lv u + lv (v.take i)
theorem BackR.start {u v : List Nat} (hu : Limbs u) : BackR u v u 0 0 := ⟨Nat.zero_le _, rfl, hu, by decide, by simp [lv]⟩
theorem BackR.step {u v z : List Nat} {i c : Nat} (h : BackR u v z i c) (hv : Limbs v) (hi : i < v.length) (hl : v.length ≤ u.length) :
    BackR u v (z.set i ((c + (z.getD i 0 + v.getD i 0)) % 4294967296)) (i + 1) ((c + (z.getD i 0 + v.getD i 0)) / 4294967296) := by
  have hz : i < z.length := by rw [h.len]; omega
  have hs := lv_set (l := z) (v := (c + (z.getD i 0 + v.getD i 0)) % 4294967296) hz
  have hvv := h.val
  have g1 := getD_lt h.lim i
  have g2 := getD_lt hv i
  have hc := h.hc
  refine ⟨hi, by rw [List.length_set]; exact h.len, h.lim.set (Nat.mod_lt _ (by decide)), by omega, ?_⟩
  rw [lv_take_succ hi, Nat.pow_succ]
  generalize z.getD i 0 = x at *
  generalize v.getD i 0 = y at *
  generalize 4294967296 ^ i = B at *
  have e : 4294967296 * ((c + (x + y)) / 4294967296) + (c + (x + y)) % 4294967296 = c + (x + y) := by omega
  generalize (c + (x + y)) / 4294967296 = t1 at *
  generalize (c + (x + y)) % 4294967296 = t2 at *
  have e3 : B * (4294967296 * t1 + t2) = B * (c + (x + y)) := by rw [e]
  simp only [Nat.mul_add, Nat.mul_assoc] at e3 hvv ⊢
  omega
theorem SubR.good {u v z : List Nat} {q b c d : Nat} (h : SubR u v q z v.length b c) (hl : u.length = v.length + 1) (hV : 0 < lv v)
    (hQ : lv u / lv v ≤ q) (hd : d = ((z.getD v.length 0 + 18446744073709551616 - c) % 18446744073709551616 + 18446744073709551616 - b) % 18446744073709551616) (h0 : d / 9223372036854775808 = 0) :
    q = lv u / lv v ∧ Limbs (z.set v.length (d % 4294967296)) ∧ lv (z.set v.length (d % 4294967296)) = lv u % lv v := by
  obtain ⟨h1, h2⟩ := borrow2 (getD_lt h.lim v.length) h.hc h.hb hd
  have hz : v.length < z.length := by rw [h.len]; omega
  have hs := lv_set (l := z) (v := d % 4294967296) hz
  have hvv := h.val
  rw [List.take_length] at hvv
  have e : lv (z.set v.length (d % 4294967296)) + q * lv v = lv u := by
    rw [h0] at h1
    generalize z.getD v.length 0 = x at *
    clear hd
    generalize d % 4294967296 = r at *
    generalize 4294967296 ^ v.length = B at *
    have e2 : B * (r + c + b) = B * (x + 4294967296 * 0) := by rw [h1]
    simp only [Nat.mul_add] at e2 hvv
    omega
  have e4 : lv (z.set v.length (d % 4294967296)) = lv u - q * lv v := by omega
  have hle : q ≤ lv u / lv v := (Nat.le_div_iff_mul_le hV).2 (by omega)
  have eq : q = lv u / lv v := by omega
  refine ⟨eq, h.lim.set (Nat.mod_lt _ (by decide)), ?_⟩
  have := Nat.div_add_mod (lv u) (lv v)
  rw [e4, eq, Nat.mul_comm]; omega
theorem SubR.bad {u v z : List Nat} {q b c d : Nat} (h : SubR u v q z v.length b c) (hl : u.length = v.length + 1) (hV : 0 < lv v)
    (hQ : lv u / lv v ≤ q) (hq : q ≤ lv u / lv v + 1) (hd : d = ((z.getD v.length 0 + 18446744073709551616 - c) % 18446744073709551616 + 18446744073709551616 - b) % 18446744073709551616) (h0 : d / 9223372036854775808 ≠ 0) :
    q = lv u / lv v + 1 ∧ Limbs (z.set v.length (d % 4294967296)) ∧ lv (z.set v.length (d % 4294967296)) + lv v = lv u % lv v + 4294967296 ^ (v.length + 1) := by
  obtain ⟨h1, h2⟩ := borrow2 (getD_lt h.lim v.length) h.hc h.hb hd
  have hz : v.length < z.length := by rw [h.len]; omega
  have hs := lv_set (l := z) (v := d % 4294967296) hz
  have hvv := h.val
  rw [List.take_length] at hvv
  have hL : Limbs (z.set v.length (d % 4294967296)) := h.lim.set (Nat.mod_lt _ (by decide))
  have hlt := lv_lt hL
  rw [List.length_set, h.len, hl] at hlt
  have h3 : d / 9223372036854775808 = 1 := by omega
  have e : lv (z.set v.length (d % 4294967296)) + q * lv v = lv u + 4294967296 ^ (v.length + 1) := by
    rw [h3] at h1
    generalize z.getD v.length 0 = x at *
    clear hd hL hlt h0 h2 h3
    generalize lv (z.set v.length (d % 4294967296)) = y at *
    generalize d % 4294967296 = r at *
    rw [Nat.pow_succ]
    generalize 4294967296 ^ v.length = B at *
    have e2 : B * (r + c + b) = B * (x + 4294967296 * 1) := by rw [h1]
    simp only [Nat.mul_add] at e2 hvv
    omega
  have hm := Nat.div_add_mod (lv u) (lv v)
  have hne : q ≠ lv u / lv v := fun hx => by
    rw [hx, Nat.mul_comm] at e; omega
  have eq : q = lv u / lv v + 1 := by omega
  refine ⟨eq, hL, ?_⟩
  rw [eq, Nat.add_mul, Nat.one_mul, Nat.mul_comm] at e
  omega
theorem BackR.good {u v z : List Nat} {c R x : Nat} (h : BackR u v z v.length c) (hl : u.length = v.length + 1) (hV : R < lv v) (hv : Limbs v)
    (hu : lv u + lv v = R + 4294967296 ^ (v.length + 1)) (hx : x = (z.getD v.length 0 + c) % 4294967296) : Limbs (z.set v.length x) ∧ lv (z.set v.length x) = R := by
  have hz : v.length < z.length := by rw [h.len]; omega
  have hs := lv_set (l := z) (v := x) hz
  have hvv := h.val
  rw [List.take_length] at hvv
  have hL : Limbs (z.set v.length x) := h.lim.set (by rw [hx]; exact Nat.mod_lt _ (by decide))
  have hlt := lv_lt hL
  rw [List.length_set, h.len, hl] at hlt
  have hzl := getD_lt h.lim v.length
  have hc := h.hc
  have hvl := lv_lt hv
  refine ⟨hL, ?_⟩
  rcases Nat.lt_or_ge (z.getD v.length 0 + c) 4294967296 with h5 | h5
  · have h6 : x = z.getD v.length 0 + c := by omega
    have e : lv (z.set v.length x) = lv u + lv v := by
      rw [h6] at hs
      rw [h6]
      rw [Nat.mul_add] at hs
      omega
    omega
  · have h6 : x + 4294967296 = z.getD v.length 0 + c := by omega
    have e : lv (z.set v.length x) + 4294967296 ^ (v.length + 1) = lv u + lv v := by
      generalize lv (z.set v.length x) = y at *
      clear hlt
      rw [hu, Nat.pow_succ]
      generalize z.getD v.length 0 = t at *
      rw [hu, Nat.pow_succ] at hvv
      generalize 4294967296 ^ v.length = B at *
      have e2 : B * (x + 4294967296) = B * (t + c) := by rw [h6]
      simp only [Nat.mul_add] at e2
      omega
    omega
end Tor
end
section
namespace Tor
open Go Go.RowKit Go.Proofs
def Outside (W0 W : List Nat) (j m : Nat) : Prop := W.length = W0.length ∧ W.take j = W0.take j ∧ W.drop (j + m) = W0.drop (j + m)
theorem Outside.refl (W : List Nat) (j m : Nat) : Outside W W j m := ⟨rfl, rfl, rfl⟩
theorem Outside.set {W0 W : List Nat} {j m i x : Nat} (h : Outside W0 W j m) (hi : i < m) : Outside W0 (W.set (j + i) x) j m :=
  ⟨by rw [List.length_set]; exact h.1, by rw [List.take_set_of_le (by omega)]; exact h.2.1, by rw [List.drop_set_of_lt (by omega)]; exact h.2.2⟩
theorem q_sub {q Q : Nat} (h : q = Q + 1) (hq : q < 4294967296) : (q + 18446744073709551616 - 1) % 18446744073709551616 % 4294967296 = Q := by omega
structure DgS (W0 v : List Nat) (j k q : Nat) (s : List Nat × Nat × Nat × Nat) : Prop where
  out : Outside W0 s.1 j (k + 3)
  lim : Limbs s.1
  sub : SubR (win W0 j (k + 3)) v q (win s.1 j (k + 3)) s.2.1 s.2.2.1 s.2.2.2
structure DgB (W0 W1 v : List Nat) (j k : Nat) (s : List Nat × Nat × Nat) : Prop where
  out : Outside W0 s.1 j (k + 3)
  lim : Limbs s.1
  back : BackR (win W1 j (k + 3)) v (win s.1 j (k + 3)) s.2.1 s.2.2
abbrev DigS (W v : List Nat) (j k : Nat) : Type := {W' : List Nat // Outside W W' j (k + 3) ∧ Limbs W' ∧ lv (win W' j (k + 3)) = lv (win W j (k + 3)) % lv v}
theorem GuessR.aux {top h : Nat} (ht : top < (h + 1) * 4294967296) (hh : 2147483648 ≤ h) : top < h * 4294967298 := by
  have e1 : h * 4294967298 = h * 4294967296 + h * 2 := by rw [← Nat.mul_add]
  have e2 : (h + 1) * 4294967296 = h * 4294967296 + 4294967296 := by rw [Nat.add_mul]
  have e3 : 4294967296 ≤ h * 2 := Nat.mul_le_mul_right 2 hh
  rw [e1]; rw [e2] at ht
  exact Nat.lt_of_lt_of_le ht (Nat.add_le_add_left e3 _)
theorem GuessR.start {U V P h v2 top u2 : Nat} (g : Gss U V 4294967296 P h v2 top u2) (hh : 2147483648 ≤ h) (hl : h < 4294967296) : GuessR h top (U / V) (top / h, top % h) := by
  have hm := Nat.mod_lt top (show 0 < h by omega)
  refine ⟨?_, ?_, g.start, ?_⟩
  · show top / h * h + top % h = top
    rw [Nat.mul_comm]; exact Nat.div_add_mod top h
  · show top % h < _; omega
  · have ht := g.top
    have h1 : top < h * 4294967298 := GuessR.aux ht hh
    exact Nat.lt_succ_iff.1 (Nat.div_lt_of_lt_mul h1)
theorem GuessR.next {h top Q q r : Nat} (s : GuessR h top Q (q, r)) (hQ : Q < q) (hr : r + h < 4294967296) : GuessR h top Q (q - 1, r + h) := by
  obtain ⟨p, rfl⟩ : ∃ p, q = p + 1 := ⟨q - 1, by omega⟩
  have e : (p + 1) * h + r = top := s.e
  have m : p + 1 ≤ 4294967297 := s.m
  refine ⟨?_, hr, ?_, ?_⟩
  · show (p + 1 - 1) * h + (r + h) = top
    rw [Nat.add_mul, Nat.one_mul] at e
    rw [Nat.add_sub_cancel]; omega
  · show Q ≤ p + 1 - 1; omega
  · show p + 1 - 1 ≤ _; omega
theorem GuessR.last {U V P h v2 top u2 q r : Nat} (g : Gss U V 4294967296 P h v2 top u2) (s : GuessR h top (U / V) (q, r)) (hQ : U / V < q) (hr : 4294967296 ≤ r + h) : q - 1 < 4294967296 ∧ U / V ≤ q - 1 ∧ q - 1 ≤ U / V + 1 := by
  obtain ⟨p, rfl⟩ : ∃ p, q = p + 1 := ⟨q - 1, by have := Nat.lt_of_le_of_lt (Nat.zero_le _) hQ; omega⟩
  have e : (p + 1) * h + r = top := s.e
  have ht := g.top
  have e2 : p * h + (r + h) = top := by rw [Nat.add_mul, Nat.one_mul] at e; omega
  have h1 : p < 4294967296 := by
    rcases Nat.lt_or_ge p 4294967296 with h1 | h1
    · exact h1
    · have := Nat.mul_le_mul_right h h1
      omega
  rw [Nat.add_sub_cancel]
  exact ⟨h1, Nat.lt_succ_iff.1 hQ, g.done e2 h1 (.inr hr)⟩
attribute [local irreducible] Tor.J Tor.PJ Tor.StepO Tor.one Tor.slT Tor.ptrT Tor.aggT Tor.tupT Tor.exT Tor.andT Tor.eP Tor.boxO Tor.sliO Tor.slV Tor.VT.le Tor.Ret Tor.anyT
set_option maxHeartbeats 4000000 in
set_option maxRecDepth 20000 in
theorem digit_ok (b N j cap k : Nat) (W v : List Nat) (hW : Limbs W) (hv : Limbs v) (hN : W.length = N) (hj : j + (k + 3) ≤ N) (hk : v.length = k + 2) (hb31 : v.length ≤ 1099511627776) (hh : 2147483648 ≤ v.getD (k + 1) 0) (hlt : lv (win W j (k + 3)) < lv v * 4294967296) :
    OkI Try.prog 101 [one (winV b j 1 (k + 3) cap), limT v] [sliO (some b) 78 .one N N (limF W)] (fun _ : DigS W v j k => one (.int .u32 ((lv (win W j (k + 3)) / lv v : Nat) : Int))) (fun s => [sliO (some b) 78 .one N N (limF s.1)]) := by
  unfold limT
  rw [hk]
  refine OkI.enter Try.func101 rfl Try.ntmps101 rfl (fun w O => ?_)
  have lw := win_len (W := W) (j := j) (m := k + 3) (by omega)
  have g := gss_of (hW.win j (k + 3)) hv lw hk (by omega) hlt
  rw [win_getD (by omega), win_getD (by omega), win_getD (by omega)] at g
  have x0 := getD_lt hW (j + k)
  have x1 := getD_lt hW (j + (k + 1))
  have x2 := getD_lt hW (j + (k + 2))
  have y1 := getD_lt hv (k + 1)
  have y0 := getD_lt hv k
  rw [hk] at hb31
  have y1' : v.getD (k + 2 - 1) 0 < 4294967296 := y1
  have y0' : v.getD (k + 2 - 2) 0 < 4294967296 := y0
  have yh' : 2147483648 ≤ v.getD (k + 2 - 1) 0 := hh
  have x1' : W.getD (j + (k + 2 - 1)) 0 < 4294967296 := x1
  have x0' : W.getD (j + (k + 2 - 2)) 0 < 4294967296 := x0
  refine J_seq (J_reg (st (s_assign rfl) rfl (Run.nil (pj_then (J_seq (J_reg (st (s_move rfl) rfl (st (s_len rfl) rfl (st (s_assign rfl) rfl ?_)))))))))
  refine Run.nil (pj_then (J_seq (J_reg (st (s_move rfl) rfl (st (s_move rfl) rfl (st (s_subN _ 1 rfl rfl (by omega) (by omega)) rfl (st (s_indexIN rfl rfl (by omega)) rfl (st (s_load rfl) rfl (st (s_toU64 rfl (by omega)) rfl ?_)))))))))
  refine st (s_assign rfl) rfl (Run.nil (pj_then (J_seq (J_regd 13 mixed (by kernel_rfl) (by decide) (st (s_move rfl) rfl (st (s_move rfl) rfl (st (s_indexW rfl rfl (by omega)) rfl (st (s_loadE 0 rfl rfl (by omega)) rfl (st (s_toU64 rfl (by omega)) rfl ?_)))))))))
  refine st (s_shlU (s := 32) rfl rfl (by omega) (by omega)) rfl (st (s_move rfl) rfl (st (s_move rfl) rfl (st (s_subN _ 1 rfl rfl (by omega) (by omega)) rfl (st (s_indexW rfl rfl (by omega)) rfl (st (s_loadE 0 rfl rfl (by omega)) rfl (st (s_toU64 rfl (by omega)) rfl (st (s_orHL rfl rfl (by omega) (by omega)) rfl (Run.nil (st (s_assign rfl) rfl ?_)))))))))
  refine Run.nil (pj_then (J_seq (J_regd 7 mixed (by kernel_rfl) (by decide) (st (s_move rfl) rfl (st (s_move rfl) rfl (st (s_quoU rfl rfl (by omega) (by omega)) rfl (st (s_move rfl) rfl (st (s_move rfl) rfl (st (s_remN _ rfl rfl rfl (by omega)) rfl ?_)))))))))
  refine st (s_assign rfl) rfl (Run.nil (st (s_assign rfl) rfl (Run.nil (pj_then (J_seq (J_block (J_sub (Γ' := [(0, _), (1, _), (4, _), (5, _), (6, _), (8, _), (9, _)]) (SubG.cons rfl (VT.le_refl _) (SubG.cons rfl (VT.le_refl _) (SubG.cons rfl (VT.le_refl _) (SubG.cons rfl (VT.le_refl _) (SubG.cons rfl (VT.le_refl _) (SubG.cons rfl (VT.le_refl _) (SubG.cons rfl (VT.le_refl _) (SubG.nil)))))))) (SubM.refl _) ?_)))))))
  refine J_joinB (σ := Nat) (Γk := [(0, _), (1, _), (4, _), (5, _)]) (SubG.cons rfl (VT.le_refl _) (SubG.cons rfl (VT.le_refl _) (SubG.cons rfl (VT.le_refl _) (SubG.cons rfl (VT.le_refl _) SubG.nil)))) (fun q => [(8, one (.int .u64 (q : Nat)))]) (fun _ M0 => M0) (fun q => q < 4294967296 ∧ lv (win W j (k + 3)) / lv v ≤ q ∧ q ≤ lv (win W j (k + 3)) / lv v + 1) ?_ (fun q hq => ?_)
  · refine J_sub (Γ' := [(0, _), (1, _), (4, _), (5, _), (6, _), (8, _), (9, _)]) (SubG.cons rfl (VT.le_refl _) (SubG.cons rfl (VT.le_refl _) (SubG.cons rfl (VT.le_refl _) (SubG.cons rfl (VT.le_refl _) (SubG.cons rfl (VT.le_refl _) (SubG.cons rfl (VT.le_refl _) (SubG.cons rfl (VT.le_refl _) (SubG.nil)))))))) (SubM.refl _) ?_
    refine J_loopA (σ := Nat × Nat) (Γk := [(0, _), (1, _), (4, _), (5, _), (6, _)]) (SubG.cons rfl (VT.le_refl _) (SubG.cons rfl (VT.le_refl _) (SubG.cons rfl (VT.le_refl _) (SubG.cons rfl (VT.le_refl _) (SubG.cons rfl (VT.le_refl _) (SubG.nil)))))) (fun p => [(8, one (.int .u64 (p.1 : Nat))), (9, one (.int .u64 (p.2 : Nat)))]) (fun p M0 => M0) (fun p => GuessR (v.getD (k + 1) 0) (W.getD (j + (k + 2)) 0 * 4294967296 + W.getD (j + (k + 1)) 0) (lv (win W j (k + 3)) / lv v) p) (fun p => p.1) (((W.getD (j + (k + 2)) 0 * 4294967296 + W.getD (j + (k + 1)) 0) / v.getD (k + 1) 0, (W.getD (j + (k + 2)) 0 * 4294967296 + W.getD (j + (k + 1)) 0) % v.getD (k + 1) 0)) (GuessR.start g hh y1) (by repeat (first | exact SubG.refl _ | exact SubG.nil | refine SubG.cons rfl (VT.le_refl _) ?_ | (refine SubG.cons rfl (one_le ?_) ?_; (congr 1; first | omega | (simp; omega) | simp)))) (.keep (Own.le_refl _) (.nil)) (fun p hp => ?_)
    refine J_norm (Γ' := [(8, _), (9, _), (0, _), (1, _), (4, _), (5, _), (6, _)]) (M' := [_]) rfl rfl ?_
    obtain ⟨q, r⟩ := p
    dsimp only at hp ⊢
    have hr : r < 4294967296 := hp.r
    have hqm : q ≤ 4294967297 := hp.m
    by_cases hA : 4294967295 < q
    · have hQ : lv (win W j (k + 3)) / lv v < q := Nat.lt_of_lt_of_le g.q_lt hA
      have hq1 : 1 ≤ q := Nat.lt_of_le_of_lt (Nat.zero_le _) hQ
      have hq2 : (q + 18446744073709551616 - 1) % 18446744073709551616 = q - 1 := by omega
      by_cases hC : 4294967296 ≤ r + v.getD (k + 2 - 1) 0
      · refine J_seq (J_seq (J_regd 22 mixed (by kernel_rfl) (by decide) (st (s_move rfl) rfl (st (sT (by omega) (s_gt rfl rfl)) rfl (st (s_move rfl) rfl (sg0 rfl rfl rfl rfl (sg0 rfl rfl rfl rfl (sg0 rfl rfl rfl rfl (sg0 rfl rfl rfl rfl ?_)))))))))
        refine sg0 rfl rfl rfl rfl (sg0 rfl rfl rfl rfl (sg0 rfl rfl rfl rfl (sg0 rfl rfl rfl rfl (sg0 rfl rfl rfl rfl (sg0 rfl rfl rfl rfl (sg0 rfl rfl rfl rfl (sg0 rfl rfl rfl rfl (sg0 rfl rfl rfl rfl (sg0 rfl rfl rfl rfl ?_)))))))))
        refine sg0 rfl rfl rfl rfl (sg0 rfl rfl rfl rfl (sg0 rfl rfl rfl rfl (sg0 rfl rfl rfl rfl (st (s_pickT rfl rfl) rfl (Run.nil (Run.nil (pj_then (J_cond1 rfl (J_skip ?_)))))))))
        refine pj_then (J_block (J_seq (J_reg (st (s_move rfl) rfl (st (s_subU rfl rfl (by omega) (by decide)) rfl (st (s_assign rfl) rfl (Run.nil (pj_then (J_seq ?_)))))))))
        refine J_reg (st (s_move rfl) rfl (st (s_move rfl) rfl (st (s_addU rfl rfl (by omega)) rfl (st (s_assign rfl) rfl (Run.nil (pj_then (J_seq (J_reg (st (s_move rfl) rfl ?_)))))))))
        refine st (sT (by omega) (s_gt rfl rfl)) rfl (Run.nil (pj_then (J_cond1 rfl (J_exit (px_block_ne rfl (px_then (px_block ?_)))))))
        rw [hq2]
        refine pj_cut (q - 1) (hp.last g hQ hC) (by repeat (first | exact SubG.refl _ | exact SubG.nil | refine SubG.cons rfl (VT.le_refl _) ?_ | (refine SubG.cons rfl (one_le ?_) ?_; (congr 1; first | omega | (simp; omega) | simp)))) (.keep (Own.le_refl _) (.nil))
      · refine J_seq (J_seq (J_regd 22 mixed (by kernel_rfl) (by decide) (st (s_move rfl) rfl (st (sT (by omega) (s_gt rfl rfl)) rfl (st (s_move rfl) rfl (sg0 rfl rfl rfl rfl (sg0 rfl rfl rfl rfl (sg0 rfl rfl rfl rfl (sg0 rfl rfl rfl rfl ?_)))))))))
        refine sg0 rfl rfl rfl rfl (sg0 rfl rfl rfl rfl (sg0 rfl rfl rfl rfl (sg0 rfl rfl rfl rfl (sg0 rfl rfl rfl rfl (sg0 rfl rfl rfl rfl (sg0 rfl rfl rfl rfl (sg0 rfl rfl rfl rfl (sg0 rfl rfl rfl rfl (sg0 rfl rfl rfl rfl ?_)))))))))
        refine sg0 rfl rfl rfl rfl (sg0 rfl rfl rfl rfl (sg0 rfl rfl rfl rfl (sg0 rfl rfl rfl rfl (st (s_pickT rfl rfl) rfl (Run.nil (Run.nil (pj_then (J_cond1 rfl (J_skip ?_)))))))))
        refine pj_then (J_block (J_seq (J_reg (st (s_move rfl) rfl (st (s_subU rfl rfl (by omega) (by decide)) rfl (st (s_assign rfl) rfl (Run.nil (pj_then (J_seq ?_)))))))))
        refine J_reg (st (s_move rfl) rfl (st (s_move rfl) rfl (st (s_addU rfl rfl (by omega)) rfl (st (s_assign rfl) rfl (Run.nil (pj_then (J_seq (J_reg (st (s_move rfl) rfl ?_)))))))))
        refine st (sF (by omega) (s_gt rfl rfl)) rfl (Run.nil (pj_then (J_cond0 rfl (J_skip (pn_block ?_)))))
        rw [hq2]
        refine pj_roundM ((q - 1, r + v.getD (k + 1) 0)) (hp.next hQ (Nat.lt_of_not_le hC)) (by omega) (by repeat (first | exact SubG.refl _ | exact SubG.nil | refine SubG.cons rfl (VT.le_refl _) ?_ | (refine SubG.cons rfl (one_le ?_) ?_; (congr 1; first | omega | (simp; omega) | simp)))) (.keep (Own.le_refl _) (.nil))
    · have hqv := sub_lim (q := q) (c := 0) (by omega) y0 (by decide)
      have hqv1 : q * v.getD (k + 2 - 2) 0 < 18446744073709551616 := hqv.1
      by_cases hB : r * 4294967296 + W.getD (j + (k + 2 - 2)) 0 < q * v.getD (k + 2 - 2) 0
      · have hQ : lv (win W j (k + 3)) / lv v < q := g.low hp.e hB
        have hq1 : 1 ≤ q := Nat.lt_of_le_of_lt (Nat.zero_le _) hQ
        have hq2 : (q + 18446744073709551616 - 1) % 18446744073709551616 = q - 1 := by omega
        by_cases hC : 4294967296 ≤ r + v.getD (k + 2 - 1) 0
        · refine J_seq (J_seq (J_regd 22 mixed (by kernel_rfl) (by decide) (st (s_move rfl) rfl (st (sF (by omega) (s_gt rfl rfl)) rfl (st (s_move rfl) rfl (sg1 rfl rfl (s_move rfl) rfl (sg1 rfl rfl (s_move rfl) rfl (sg1 rfl rfl (s_move rfl) rfl (sg1 rfl rfl (s_subN _ 2 rfl rfl (by omega) (by omega)) rfl ?_)))))))))
          refine sg1 rfl rfl (s_indexIN rfl rfl (by omega)) rfl (sg1 rfl rfl (s_load rfl) rfl (sg1 rfl rfl (s_toU64 rfl (by omega)) rfl (sg1 rfl rfl (s_mulU rfl rfl (by omega)) rfl (sg1 rfl rfl (s_move rfl) rfl (sg1 rfl rfl (s_shl32 rfl (by omega)) rfl (sg1 rfl rfl (s_move rfl) rfl (sg1 rfl rfl (s_move rfl) rfl (sg1 rfl rfl (s_subN _ 2 rfl rfl (by omega) (by omega)) rfl (sg1 rfl rfl (s_indexW rfl rfl (by omega)) rfl ?_)))))))))
          refine sg1 rfl rfl (s_loadE 0 rfl rfl (by omega)) rfl (sg1 rfl rfl (s_toU64 rfl (by omega)) rfl (sg1 rfl rfl (s_orHL rfl rfl (by omega) (by omega)) rfl (sg1 rfl rfl (sT (by omega) (s_gt rfl rfl)) rfl (st (s_pickF rfl rfl) rfl (Run.nil (Run.nil (pj_then (J_cond1 rfl (J_skip ?_)))))))))
          refine pj_then (J_block (J_seq (J_reg (st (s_move rfl) rfl (st (s_subU rfl rfl (by omega) (by decide)) rfl (st (s_assign rfl) rfl (Run.nil (pj_then (J_seq ?_)))))))))
          refine J_reg (st (s_move rfl) rfl (st (s_move rfl) rfl (st (s_addU rfl rfl (by omega)) rfl (st (s_assign rfl) rfl (Run.nil (pj_then (J_seq (J_reg (st (s_move rfl) rfl ?_)))))))))
          refine st (sT (by omega) (s_gt rfl rfl)) rfl (Run.nil (pj_then (J_cond1 rfl (J_exit (px_block_ne rfl (px_then (px_block ?_)))))))
          rw [hq2]
          refine pj_cut (q - 1) (hp.last g hQ hC) (by repeat (first | exact SubG.refl _ | exact SubG.nil | refine SubG.cons rfl (VT.le_refl _) ?_ | (refine SubG.cons rfl (one_le ?_) ?_; (congr 1; first | omega | (simp; omega) | simp)))) (.keep (Own.le_refl _) (.nil))
        · refine J_seq (J_seq (J_regd 22 mixed (by kernel_rfl) (by decide) (st (s_move rfl) rfl (st (sF (by omega) (s_gt rfl rfl)) rfl (st (s_move rfl) rfl (sg1 rfl rfl (s_move rfl) rfl (sg1 rfl rfl (s_move rfl) rfl (sg1 rfl rfl (s_move rfl) rfl (sg1 rfl rfl (s_subN _ 2 rfl rfl (by omega) (by omega)) rfl ?_)))))))))
          refine sg1 rfl rfl (s_indexIN rfl rfl (by omega)) rfl (sg1 rfl rfl (s_load rfl) rfl (sg1 rfl rfl (s_toU64 rfl (by omega)) rfl (sg1 rfl rfl (s_mulU rfl rfl (by omega)) rfl (sg1 rfl rfl (s_move rfl) rfl (sg1 rfl rfl (s_shl32 rfl (by omega)) rfl (sg1 rfl rfl (s_move rfl) rfl (sg1 rfl rfl (s_move rfl) rfl (sg1 rfl rfl (s_subN _ 2 rfl rfl (by omega) (by omega)) rfl (sg1 rfl rfl (s_indexW rfl rfl (by omega)) rfl ?_)))))))))
          refine sg1 rfl rfl (s_loadE 0 rfl rfl (by omega)) rfl (sg1 rfl rfl (s_toU64 rfl (by omega)) rfl (sg1 rfl rfl (s_orHL rfl rfl (by omega) (by omega)) rfl (sg1 rfl rfl (sT (by omega) (s_gt rfl rfl)) rfl (st (s_pickF rfl rfl) rfl (Run.nil (Run.nil (pj_then (J_cond1 rfl (J_skip ?_)))))))))
          refine pj_then (J_block (J_seq (J_reg (st (s_move rfl) rfl (st (s_subU rfl rfl (by omega) (by decide)) rfl (st (s_assign rfl) rfl (Run.nil (pj_then (J_seq ?_)))))))))
          refine J_reg (st (s_move rfl) rfl (st (s_move rfl) rfl (st (s_addU rfl rfl (by omega)) rfl (st (s_assign rfl) rfl (Run.nil (pj_then (J_seq (J_reg (st (s_move rfl) rfl ?_)))))))))
          refine st (sF (by omega) (s_gt rfl rfl)) rfl (Run.nil (pj_then (J_cond0 rfl (J_skip (pn_block ?_)))))
          rw [hq2]
          refine pj_roundM ((q - 1, r + v.getD (k + 1) 0)) (hp.next hQ (Nat.lt_of_not_le hC)) (by omega) (by repeat (first | exact SubG.refl _ | exact SubG.nil | refine SubG.cons rfl (VT.le_refl _) ?_ | (refine SubG.cons rfl (one_le ?_) ?_; (congr 1; first | omega | (simp; omega) | simp)))) (.keep (Own.le_refl _) (.nil))
      · refine J_seq (J_seq (J_regd 22 mixed (by kernel_rfl) (by decide) (st (s_move rfl) rfl (st (sF (by omega) (s_gt rfl rfl)) rfl (st (s_move rfl) rfl (sg1 rfl rfl (s_move rfl) rfl (sg1 rfl rfl (s_move rfl) rfl (sg1 rfl rfl (s_move rfl) rfl (sg1 rfl rfl (s_subN _ 2 rfl rfl (by omega) (by omega)) rfl ?_)))))))))
        refine sg1 rfl rfl (s_indexIN rfl rfl (by omega)) rfl (sg1 rfl rfl (s_load rfl) rfl (sg1 rfl rfl (s_toU64 rfl (by omega)) rfl (sg1 rfl rfl (s_mulU rfl rfl (by omega)) rfl (sg1 rfl rfl (s_move rfl) rfl (sg1 rfl rfl (s_shlU (s := 32) rfl rfl (by omega) (by omega)) rfl (sg1 rfl rfl (s_move rfl) rfl (sg1 rfl rfl (s_move rfl) rfl (sg1 rfl rfl (s_subN _ 2 rfl rfl (by omega) (by omega)) rfl (sg1 rfl rfl (s_indexW rfl rfl (by omega)) rfl ?_)))))))))
        refine sg1 rfl rfl (s_loadE 0 rfl rfl (by omega)) rfl (sg1 rfl rfl (s_toU64 rfl (by omega)) rfl (sg1 rfl rfl (s_orHL rfl rfl (by omega) (by omega)) rfl (sg1 rfl rfl (sF (by omega) (s_gt rfl rfl)) rfl (st (s_pickF rfl rfl) rfl (Run.nil (Run.nil (pj_then (J_cond0 rfl (J_exit ?_)))))))))
        refine px_then (px_then (px_block ?_))
        have hqB : q < 4294967296 := by omega
        refine pj_cut (q) (⟨hqB, hp.q, g.done hp.e hqB (.inl (Nat.le_of_not_lt hB))⟩) (by repeat (first | exact SubG.refl _ | exact SubG.nil | refine SubG.cons rfl (VT.le_refl _) ?_ | (refine SubG.cons rfl (one_le ?_) ?_; (congr 1; first | omega | (simp; omega) | simp)))) (.keep (Own.le_refl _) (.nil))
  · obtain ⟨hq1, hq2, hq3⟩ := hq
    have lu := lw
    refine pj_then (J_seq (J_reg (st (s_assign rfl) rfl (st (s_assign rfl) rfl (Run.nil (pj_then (J_seq (J_seq (J_reg ?_)))))))))
    refine st (s_move rfl) rfl (st (s_len rfl) rfl (st (s_move rfl) rfl (Run.nil (pj_then (J_block (J_sub (Γ' := [(0, _), (1, _), (4, _), (5, _), (8, _), (10, _), (11, _), (74, _), (75, _), (76, _)]) (SubG.cons rfl (VT.le_refl _) (SubG.cons rfl (VT.le_refl _) (SubG.cons rfl (VT.le_refl _) (SubG.cons rfl (VT.le_refl _) (SubG.cons rfl (VT.le_refl _) (SubG.cons rfl (VT.le_refl _) (SubG.cons rfl (VT.le_refl _) (SubG.cons rfl (VT.le_refl _) (SubG.cons rfl (VT.le_refl _) (SubG.cons rfl (VT.le_refl _) (SubG.nil))))))))))) (SubM.refl _) ?_))))))
    refine J_loopA (σ := List Nat × Nat × Nat × Nat) (Γk := [(0, _), (1, _), (4, _), (5, _), (8, _), (74, _), (75, _)]) (SubG.cons rfl (VT.le_refl _) (SubG.cons rfl (VT.le_refl _) (SubG.cons rfl (VT.le_refl _) (SubG.cons rfl (VT.le_refl _) (SubG.cons rfl (VT.le_refl _) (SubG.cons rfl (VT.le_refl _) (SubG.cons rfl (VT.le_refl _) (SubG.nil)))))))) (fun s => [(76, one (.int .i64 (s.2.1 : Nat))), (10, one (.int .u64 (s.2.2.1 : Nat))), (11, one (.int .u64 (s.2.2.2 : Nat)))]) (fun s M0 => (M0.set 0 (sliO (some b) 78 .one N N (limF s.1)))) (fun s => DgS W v j k q s) (fun s => k + 2 - s.2.1) ((W, 0, 0, 0)) (⟨Outside.refl _ _ _, hW, SubR.start (hW.win _ _)⟩) (by repeat (first | exact SubG.refl _ | exact SubG.nil | refine SubG.cons rfl (VT.le_refl _) ?_ | (refine SubG.cons rfl (one_le ?_) ?_; (congr 1; first | omega | (simp; omega) | simp)))) (.keep (Own.le_refl _) (.nil)) (fun s hs => ?_)
    refine J_norm (Γ' := [(76, _), (10, _), (11, _), (0, _), (1, _), (4, _), (5, _), (8, _), (74, _), (75, _)]) (M' := [_]) rfl rfl ?_
    obtain ⟨W1, i, br, c⟩ := s
    dsimp only at hs ⊢
    have h1o := hs.out
    have h1l := hs.lim
    have h1s := hs.sub
    dsimp only at h1o h1l h1s
    have hbr := h1s.hb
    have hcr := h1s.hc
    have hN1 : W1.length = N := h1o.1.trans hN
    refine J_seq (J_reg (st (s_lt rfl rfl) rfl (Run.nil (pj_then (J_seq ?_)))))
    refine J_if rfl (fun hc => ?_) (fun hc => ?_)
    · have hi : i < k + 2 := by omega
      have z1 := getD_lt h1l (j + i)
      have v1 := getD_lt hv i
      have sl := sub_lim hq1 v1 hcr
      have sl1 := sl.1
      have sl2 := sl.2.1
      have sl3 := sl.2.2
      obtain ⟨d, hd⟩ : ∃ d, d = ((W1.getD (j + i) 0 + 18446744073709551616 - (c + q * v.getD i 0) % 4294967296) % 18446744073709551616 + 18446744073709551616 - br) % 18446744073709551616 := ⟨_, rfl⟩
      have hst := h1s.step hv hq1 (by omega) (by rw [lu, hk]; omega) (d := d) (by rw [win_getD (by omega)]; exact hd)
      rw [← win_set (by omega)] at hst
      refine J_skip (pj_then (J_seq (J_block (J_seq (J_reg (st (s_move rfl) rfl (st (s_indexIN rfl rfl (by omega)) rfl (st (s_load rfl) rfl (st (s_assign rfl) rfl ?_)))))))))
      refine st (s_assign rfl) rfl (Run.nil (pj_then (J_seq (J_reg (st (s_move rfl) rfl (st (s_move rfl) rfl (st (s_move rfl) rfl (st (s_toU64 rfl (by omega)) rfl (st (s_mulU rfl rfl (by omega)) rfl ?_)))))))))
      refine st (s_addU rfl rfl (by omega)) rfl (st (s_assign rfl) rfl (Run.nil (pj_then (J_seq (J_reg (st (s_move rfl) rfl (st (s_move rfl) rfl (st (s_indexW rfl rfl (by omega)) rfl (st (s_loadE 0 rfl rfl (by omega)) rfl ?_)))))))))
      refine st (s_toU64 rfl (by omega)) rfl (st (s_move rfl) rfl (st (s_andM rfl (by omega)) rfl (st (s_subU rfl rfl (by omega) (by omega)) rfl (st (s_move rfl) rfl (st (s_subU rfl rfl (by omega) (by omega)) rfl (st (s_assign rfl) rfl (Run.nil (pj_then (J_seq ?_)))))))))
      refine J_reg (st (s_move rfl) rfl (st (s_move rfl) rfl (st (s_move rfl) rfl (st (s_toU32 rfl) rfl (st (s_indexW rfl rfl (by omega)) rfl ?_)))))
      (refine a_storeE 0 rfl rfl rfl ?_ rfl ?_; omega)
      refine Run.nil (pj_then (J_seq (J_reg (st (s_move rfl) rfl (st (s_shr63 rfl) rfl (st (s_assign rfl) rfl (Run.nil (pj_then (J_reg ?_)))))))))
      refine st (s_move rfl) rfl (st (s_shr32 rfl) rfl (st (s_assign rfl) rfl (Run.nil (pn_block (pj_then (J_reg (st (s_addN _ 1 rfl rfl (by omega)) rfl (st (s_move rfl) rfl (Run.nil ?_)))))))))
      rw [← hd]
      refine pj_roundM ((W1.set (j + i) (d % 4294967296), i + 1, d / 9223372036854775808, (c + q * v.getD i 0) / 4294967296)) (⟨h1o.set (by omega), h1l.set (Nat.mod_lt _ (by decide)), hst⟩) (by (simp only []; omega)) (by repeat (first | exact SubG.refl _ | exact SubG.nil | refine SubG.cons rfl (VT.le_refl _) ?_ | (refine SubG.cons rfl (one_le ?_) ?_; (congr 1; first | omega | (simp; omega) | simp)))) (.keep (lim_setF (by omega) rfl) (.nil))
    · have hi : i = k + 2 := by have := h1s.le; omega
      subst hi
      have z1 := getD_lt h1l (j + (k + 2))
      obtain ⟨d, hd⟩ : ∃ d, d = ((W1.getD (j + (k + 2)) 0 + 18446744073709551616 - c) % 18446744073709551616 + 18446744073709551616 - br) % 18446744073709551616 := ⟨_, rfl⟩
      have h1v : SubR (win W j (k + 3)) v q (win W1 j (k + 3)) v.length br c := by rw [hk]; exact h1s
      have hdw : d = (((win W1 j (k + 3)).getD v.length 0 + 18446744073709551616 - c) % 18446744073709551616 + 18446744073709551616 - br) % 18446744073709551616 := by rw [hk, win_getD (by omega)]; exact hd
      refine J_exit (px_then (px_then (px_block (pj_then (J_seq (J_reg (st (s_move rfl) rfl (st (s_move rfl) rfl (st (s_indexW rfl rfl (by omega)) rfl ?_)))))))))
      refine st (s_loadE 0 rfl rfl (by omega)) rfl (st (s_toU64 rfl (by omega)) rfl (st (s_move rfl) rfl (st (s_subU rfl rfl (by omega) (by omega)) rfl (st (s_move rfl) rfl (st (s_subU rfl rfl (by omega) (by omega)) rfl (st (s_assign rfl) rfl (Run.nil (pj_then (J_seq ?_)))))))))
      refine J_reg (st (s_move rfl) rfl (st (s_move rfl) rfl (st (s_move rfl) rfl (st (s_toU32 rfl) rfl (st (s_indexW rfl rfl (by omega)) rfl ?_)))))
      (refine a_storeE 0 rfl rfl rfl ?_ rfl ?_; omega)
      refine Run.nil (pj_then (J_seq (J_seq (J_reg (st (s_move rfl) rfl (st (s_shr63 rfl) rfl (st (s_eq rfl rfl) rfl (Run.nil (pj_then ?_)))))))))
      rw [← hd]
      refine J_if rfl (fun h0 => ?_) (fun h0 => ?_)
      · obtain ⟨f1, f2, f3⟩ := h1v.good (by rw [lu, hk]) g.V0 hq2 hdw (by omega)
        rw [hk, ← win_set (by omega)] at f3
        refine J_seq (J_reg (st (s_move rfl) rfl (st (s_toU32 rfl) rfl (st (s_assign rfl) rfl (Run.nil (pj_then (J_ret (pr_then ?_))))))))
        refine retI1 (⟨W1.set (j + (k + 2)) (d % 4294967296), h1o.set (by omega), h1l.set (Nat.mod_lt _ (by decide)), f3⟩ : DigS W v j k) Try.results101 (.tmp rfl (one_le (by rw [← f1, Nat.mod_eq_of_lt hq1]))) (.keep (lim_setF (by omega) rfl) .nil)
      · obtain ⟨f1, f2, f3⟩ := h1v.bad (by rw [lu, hk]) g.V0 hq2 hq3 hdw (by omega)
        rw [hk, ← win_set (by omega)] at f3
        obtain ⟨W2, hW2⟩ : ∃ W2, W2 = W1.set (j + (k + 2)) (d % 4294967296) := ⟨_, rfl⟩
        have h2o : Outside W W2 j (k + 3) := hW2 ▸ h1o.set (by omega)
        have h2l : Limbs W2 := hW2 ▸ h1l.set (Nat.mod_lt _ (by decide))
        have hN2 : W2.length = N := h2o.1.trans hN
        rw [← hW2] at f3
        refine J_skip (pj_then (J_seq (J_reg (st (s_assign rfl) rfl (Run.nil (pj_then (J_seq (J_seq (J_reg ?_)))))))))
        refine st (s_move rfl) rfl (st (s_len rfl) rfl (st (s_move rfl) rfl (Run.nil (pj_then (J_block (J_sub (Γ' := [(0, _), (4, _), (5, _), (8, _), (11, _), (126, _), (127, _), (128, _)]) (SubG.cons rfl (VT.le_refl _) (SubG.cons rfl (VT.le_refl _) (SubG.cons rfl (VT.le_refl _) (SubG.cons rfl (VT.le_refl _) (SubG.cons rfl (VT.le_refl _) (SubG.cons rfl (VT.le_refl _) (SubG.cons rfl (VT.le_refl _) (SubG.cons rfl (VT.le_refl _) (SubG.nil))))))))) (SubM.refl _) ?_))))))
        refine J_loopA (σ := List Nat × Nat × Nat) (Γk := [(0, _), (4, _), (5, _), (8, _), (126, _), (127, _)]) (SubG.cons rfl (VT.le_refl _) (SubG.cons rfl (VT.le_refl _) (SubG.cons rfl (VT.le_refl _) (SubG.cons rfl (VT.le_refl _) (SubG.cons rfl (VT.le_refl _) (SubG.cons rfl (VT.le_refl _) (SubG.nil))))))) (fun s => [(128, one (.int .i64 (s.2.1 : Nat))), (11, one (.int .u64 (s.2.2 : Nat)))]) (fun s M0 => (M0.set 0 (sliO (some b) 78 .one N N (limF s.1)))) (fun s => DgB W W2 v j k s) (fun s => k + 2 - s.2.1) ((W2, 0, 0)) (⟨h2o, h2l, BackR.start (h2l.win _ _)⟩) (by repeat (first | exact SubG.refl _ | exact SubG.nil | refine SubG.cons rfl (VT.le_refl _) ?_ | (refine SubG.cons rfl (one_le ?_) ?_; (congr 1; first | omega | (simp; omega) | simp)))) (.keep (by (subst hW2; exact lim_setF (by omega) rfl)) (.nil)) (fun s hs => ?_)
        refine J_norm (Γ' := [(128, _), (11, _), (0, _), (4, _), (5, _), (8, _), (126, _), (127, _)]) (M' := [_]) rfl rfl ?_
        obtain ⟨W3, i, c3⟩ := s
        dsimp only at hs ⊢
        have h3o := hs.out
        have h3l := hs.lim
        have h3s := hs.back
        dsimp only at h3o h3l h3s
        have hcr := h3s.hc
        have hN3 : W3.length = N := h3o.1.trans hN
        have lu2 : (win W2 j (k + 3)).length = k + 3 := win_len (by omega)
        refine J_seq (J_reg (st (s_lt rfl rfl) rfl (Run.nil (pj_then (J_seq ?_)))))
        refine J_if rfl (fun hc => ?_) (fun hc => ?_)
        · have hi : i < k + 2 := by omega
          have z1 := getD_lt h3l (j + i)
          have v1 := getD_lt hv i
          have hst := h3s.step hv (by omega) (by rw [lu2, hk]; omega)
          rw [win_getD (by omega), ← win_set (by omega)] at hst
          refine J_skip (pj_then (J_seq (J_block (J_seq (J_reg (st (s_move rfl) rfl (st (s_indexIN rfl rfl (by omega)) rfl (st (s_load rfl) rfl (st (s_assign rfl) rfl ?_)))))))))
          refine st (s_assign rfl) rfl (Run.nil (pj_then (J_seq (J_reg (st (s_move rfl) rfl (st (s_move rfl) rfl (st (s_move rfl) rfl (st (s_indexW rfl rfl (by omega)) rfl (st (s_loadE 0 rfl rfl (by omega)) rfl ?_)))))))))
          refine st (s_toU64 rfl (by omega)) rfl (st (s_move rfl) rfl (st (s_toU64 rfl (by omega)) rfl (st (s_addU rfl rfl (by omega)) rfl (st (s_addU rfl rfl (by omega)) rfl (st (s_assign rfl) rfl (Run.nil (pj_then (J_seq (J_reg ?_)))))))))
          refine st (s_move rfl) rfl (st (s_move rfl) rfl (st (s_move rfl) rfl (st (s_toU32 rfl) rfl (st (s_indexW rfl rfl (by omega)) rfl ?_))))
          (refine a_storeE 0 rfl rfl rfl ?_ rfl ?_; omega)
          refine Run.nil (pj_then (J_reg (st (s_move rfl) rfl (st (s_shr32 rfl) rfl (st (s_assign rfl) rfl (Run.nil (pn_block (pj_then (J_reg ?_)))))))))
          refine st (s_addN _ 1 rfl rfl (by omega)) rfl (st (s_move rfl) rfl (Run.nil ?_))
          refine pj_roundM ((W3.set (j + i) ((c3 + (W3.getD (j + i) 0 + v.getD i 0)) % 4294967296), i + 1, (c3 + (W3.getD (j + i) 0 + v.getD i 0)) / 4294967296)) (⟨h3o.set (by omega), h3l.set (Nat.mod_lt _ (by decide)), hst⟩) (by (simp only []; omega)) (by repeat (first | exact SubG.refl _ | exact SubG.nil | refine SubG.cons rfl (VT.le_refl _) ?_ | (refine SubG.cons rfl (one_le ?_) ?_; (congr 1; first | omega | (simp; omega) | simp)))) (.keep (lim_setF (by omega) rfl) (.nil))
        · have hi : i = k + 2 := by have := h3s.le; omega
          subst hi
          have z1 := getD_lt h3l (j + (k + 2))
          have h3v : BackR (win W2 j (k + 3)) v (win W3 j (k + 3)) v.length c3 := by rw [hk]; exact h3s
          obtain ⟨f4, f5⟩ := h3v.good (R := lv (win W j (k + 3)) % lv v) (x := (W3.getD (j + (k + 2)) 0 + c3) % 4294967296) (by rw [lu2, hk]) (Nat.mod_lt _ g.V0) hv (by rw [hk]; exact f3) (by rw [hk, win_getD (by omega)])
          rw [hk, ← win_set (by omega)] at f5
          refine J_exit (px_then (px_then (px_block (pj_then (J_seq (J_reg (st (s_move rfl) rfl (st (s_move rfl) rfl (st (s_indexW rfl rfl (by omega)) rfl ?_)))))))))
          refine st (s_loadE 0 rfl rfl (by omega)) rfl (st (s_move rfl) rfl (st (s_toU32 rfl) rfl (st (s_addW rfl rfl) rfl (st (s_indexW rfl rfl (by omega)) rfl ?_))))
          (refine a_storeE 0 rfl rfl rfl ?_ rfl ?_; omega)
          refine Run.nil (pj_then (J_seq (J_reg (st (s_move rfl) rfl (st (s_subU rfl rfl (by omega) (by decide)) rfl (st (s_toU32 rfl) rfl (st (s_assign rfl) rfl (Run.nil (pj_then ?_)))))))))
          refine J_ret ?_
          have e1 : (q + 18446744073709551616 - 1) % 18446744073709551616 % 4294967296 = lv (win W j (k + 3)) / lv v := q_sub f1 hq1
          refine retI1 (⟨W3.set (j + (k + 2)) ((W3.getD (j + (k + 2)) 0 + c3) % 4294967296), h3o.set (by omega), h3l.set (Nat.mod_lt _ (by decide)), f5⟩ : DigS W v j k) Try.results101 (.tmp rfl (one_le (by rw [e1]))) (.keep (lim_setF (by omega) (by rw [Nat.mod_eq_of_lt (show c3 < 4294967296 by omega)])) .nil)
end Tor
end
section
namespace Tor
open Go Go.RowKit Go.Proofs
theorem drop_win (U : List Nat) {j m : Nat} (h : j + m ≤ U.length) : lv (U.drop j) = lv (win U j m) + 4294967296 ^ m * lv (U.drop (j + m)) := by
  have h1 := lv_split (U.drop j) m (by simp; omega)
  rw [List.drop_drop] at h1
  exact h1
theorem lv_drop_succ {U : List Nat} {j : Nat} (h : j < U.length) : lv (U.drop j) = U.getD j 0 + 4294967296 * lv (U.drop (j + 1)) := by
  rw [drop_getD h]; rfl
structure DivR (V A n e : Nat) (p : List Nat × List Nat × Nat) : Prop where
  le : p.2.2 ≤ e + 1
  lu : p.1.length = n + e + 1
  lq : p.2.1.length = e + 1
  limU : Limbs p.1
  limQ : Limbs p.2.1
  zero : ∀ k, k < p.2.2 → p.2.1.getD k 0 = 0
  lt : lv (p.1.drop p.2.2) < V
  val : lv p.1 + lv p.2.1 * V = A
theorem DivR.pre {V A n e j : Nat} {U Q : List Nat} (h : DivR V A n e (U, Q, j + 1)) (hV : V < 4294967296 ^ n) : j + (n + 1) ≤ U.length ∧ lv (U.drop (j + (n + 1))) = 0 ∧ lv (U.drop j) = lv (win U j (n + 1)) ∧ lv (win U j (n + 1)) < V * 4294967296 := by
  have hle : j + 1 ≤ e + 1 := h.le
  have hlu : U.length = n + e + 1 := h.lu
  have hlt : lv (U.drop (j + 1)) < V := h.lt
  have h1 : j + (n + 1) ≤ U.length := by omega
  have h2 := lv_drop_succ (U := U) (j := j) (by omega)
  have h3 := drop_win U h1
  have hd := getD_lt (show Limbs U from h.limU) j
  have h4 : lv (U.drop j) < V * 4294967296 := by
    rw [h2]
    generalize lv (U.drop (j + 1)) = x at *
    generalize U.getD j 0 = y at *
    omega
  have h5 : lv (U.drop (j + (n + 1))) = 0 := by
    rcases Nat.eq_zero_or_pos (lv (U.drop (j + (n + 1)))) with h | h
    · exact h
    · exfalso
      have h6 : 4294967296 ^ (n + 1) ≤ 4294967296 ^ (n + 1) * lv (U.drop (j + (n + 1))) := Nat.le_mul_of_pos_right _ h
      have h7 : V * 4294967296 < 4294967296 ^ (n + 1) := by rw [Nat.pow_succ]; exact Nat.mul_lt_mul_of_pos_right hV (by decide)
      omega
  rw [h5, Nat.mul_zero, Nat.add_zero] at h3
  exact ⟨h1, h5, h3, h3 ▸ h4⟩
theorem DivR.step {V A n e j q : Nat} {U Q U' : List Nat} (h : DivR V A n e (U, Q, j + 1)) (hV0 : 0 < V) (hV : V < 4294967296 ^ n) (ho : Outside U U' j (n + 1)) (hl : Limbs U') (hr : lv (win U' j (n + 1)) = lv (win U j (n + 1)) % V) (hq : q = lv (win U j (n + 1)) / V) :
    DivR V A n e (U', Q.set j q, j) := by
  obtain ⟨p1, p2, p3, p4⟩ := h.pre hV
  obtain ⟨o1, o2, o3⟩ := ho
  have hle : j + 1 ≤ e + 1 := h.le
  have hlq : Q.length = e + 1 := h.lq
  have hqB : q < 4294967296 := by rw [hq]; exact Nat.div_lt_of_lt_mul p4
  have h0 : Q.getD j 0 = 0 := h.zero j (Nat.lt_succ_self j)
  have hs := lv_set (l := Q) (k := j) (v := q) (by omega)
  rw [h0, Nat.mul_zero, Nat.add_zero] at hs
  have d1 := lv_split U j (by omega)
  have d2 := lv_split U' j (by omega)
  have e1 := drop_win U' (j := j) (m := n + 1) (by omega)
  rw [o3, p2, Nat.mul_zero, Nat.add_zero] at e1
  have hm := Nat.div_add_mod (lv (win U j (n + 1))) V
  have hv : lv U + lv Q * V = A := h.val
  refine ⟨Nat.le_of_succ_le hle, o1.trans h.lu, by rw [List.length_set]; exact h.lq, hl, Limbs.set h.limQ hqB, fun k hk => ?_, ?_, ?_⟩
  · simp only at hk ⊢
    rw [getD_setL (by omega), if_neg (by omega)]; exact h.zero k (Nat.lt_succ_of_lt hk)
  · show lv (U'.drop j) < V
    rw [e1, hr]; exact Nat.mod_lt _ hV0
  · show lv U' + lv (Q.set j q) * V = A
    rw [hs, ← hv, d1, d2, o2, e1, p3, hr, hq]
    generalize lv (win U j (n + 1)) = w at *
    have e2 : (lv Q + 4294967296 ^ j * (w / V)) * V = lv Q * V + 4294967296 ^ j * (V * (w / V)) := by rw [Nat.add_mul, Nat.mul_assoc, Nat.mul_comm (w / V)]
    have e3 : 4294967296 ^ j * w = 4294967296 ^ j * (V * (w / V)) + 4294967296 ^ j * (w % V) := by rw [← Nat.mul_add, hm]
    rw [e2, e3]; omega
theorem DivR.start {V A n e : Nat} {U : List Nat} (hU : Limbs U) (hlu : U.length = n + e + 1) (hA : lv U = A) (hlt : A < V * 4294967296 ^ (e + 1)) : DivR V A n e (U, List.replicate (e + 1) 0, e + 1) := by
  refine ⟨Nat.le_refl _, hlu, by simp, hU, Limbs.replicate _, fun k _ => getD_replicate0 _ _, ?_, by simp [lv_replicate, hA]⟩
  show lv (U.drop (e + 1)) < V
  have h1 := lv_split U (e + 1) (by omega)
  have h2 : lv (U.drop (e + 1)) * 4294967296 ^ (e + 1) < V * 4294967296 ^ (e + 1) := by
    rw [Nat.mul_comm]; omega
  exact Nat.lt_of_mul_lt_mul_right h2
theorem DivR.finish {a b s n e : Nat} {U Q : List Nat} (h : DivR (b * 2 ^ s) (a * 2 ^ s) n e (U, Q, 0)) (hb : 0 < b) : lv Q = a / b ∧ lv U = (a % b) * 2 ^ s := by
  have hp := Nat.two_pow_pos s
  have hlt : lv U < b * 2 ^ s := h.lt
  have hv : lv U + lv Q * (b * 2 ^ s) = a * 2 ^ s := h.val
  have hq : lv Q = a / b := by
    have h1 : lv Q * b ≤ a := by
      refine Nat.le_of_mul_le_mul_right (c := 2 ^ s) ?_ hp
      rw [Nat.mul_assoc]; omega
    have h2 : a < (lv Q + 1) * b := by
      refine Nat.lt_of_mul_lt_mul_right (a := 2 ^ s) ?_
      rw [Nat.mul_assoc, Nat.add_mul]; omega
    have h3 : lv Q ≤ a / b := (Nat.le_div_iff_mul_le hb).2 h1
    have h4 : a / b < lv Q + 1 := Nat.div_lt_of_lt_mul (by rw [Nat.mul_comm]; exact h2)
    omega
  refine ⟨hq, ?_⟩
  have hm := Nat.div_add_mod a b
  rw [hq] at hv
  have e1 : a * 2 ^ s = (b * (a / b)) * 2 ^ s + (a % b) * 2 ^ s := by rw [← Nat.add_mul, hm]
  have e2 : a / b * (b * 2 ^ s) = (b * (a / b)) * 2 ^ s := by rw [← Nat.mul_assoc, Nat.mul_comm (a / b)]
  omega
def shrL (U : List Nat) (s i : Nat) : Nat := (U.getD (i + 1) 0 * 4294967296 + U.getD i 0) / 2 ^ s % 4294967296
theorem lv_map_range (F : Nat → Nat) : ∀ (n i : Nat) (S : Nat → Nat), (∀ k, i ≤ k → k < i + n → S k = F k + 4294967296 * S (k + 1)) → S (i + n) = 0 → lv ((List.range' i n).map F) = S i
  | 0, i, S, _, h0 => by simpa [lv] using h0.symm
  | n + 1, i, S, h, h0 => by
    rw [List.range'_succ, List.map_cons, lv, lv_map_range F n (i + 1) S (fun k h1 h2 => h k (by omega) (by omega)) (by rw [← h0]; congr 1; omega), h i (Nat.le_refl _) (by omega)]
theorem shr_step {U : List Nat} (hU : Limbs U) {s i : Nat} (hs : s < 32) (hi : i + 1 < U.length) : lv (U.drop i) / 2 ^ s = shrL U s i + 4294967296 * (lv (U.drop (i + 1)) / 2 ^ s) := by
  have h1 := lv_drop_succ (U := U) (j := i) (by omega)
  have h2 := lv_drop_succ (U := U) (j := i + 1) hi
  have hp := Nat.two_pow_pos s
  obtain ⟨t, ht⟩ : ∃ t, 4294967296 = 2 ^ s * t := ⟨2 ^ (32 - s), by rw [← Nat.pow_add, show s + (32 - s) = 32 by omega]⟩
  have hd := getD_lt hU i
  have e1 : lv (U.drop i) / 2 ^ s % 4294967296 = shrL U s i := by
    unfold shrL
    rw [h1, h2]
    generalize lv (U.drop (i + 1 + 1)) = W
    generalize U.getD (i + 1) 0 = x
    generalize U.getD i 0 = y
    have : y + 4294967296 * (x + 4294967296 * W) = (x * 4294967296 + y) + 2 ^ s * (t * (4294967296 * W)) := by
      rw [← Nat.mul_assoc (2 ^ s), ← ht]; omega
    rw [this, Nat.add_mul_div_left _ _ hp]
    rw [show t * (4294967296 * W) = 4294967296 * (t * W) by rw [Nat.mul_left_comm], Nat.add_mul_mod_self_left]
  have e2 : lv (U.drop i) / 2 ^ s / 4294967296 = lv (U.drop (i + 1)) / 2 ^ s := by
    rw [Nat.div_div_eq_div_mul, Nat.mul_comm, ← Nat.div_div_eq_div_mul]
    congr 1
    rw [h1]; omega
  have := Nat.div_add_mod (lv (U.drop i) / 2 ^ s) 4294967296
  rw [e1, e2] at this
  omega
def shrList (U : List Nat) (s n : Nat) : List Nat := (List.range' 0 n).map (shrL U s)
theorem shr_val {U : List Nat} (hU : Limbs U) {s n : Nat} (hs : s < 32) (hn : n < U.length) (h0 : lv U < 4294967296 ^ n) : lv (shrList U s n) = lv U / 2 ^ s := by
  have h1 : lv (U.drop n) = 0 := by
    have h2 := lv_split U n (by omega)
    rcases Nat.eq_zero_or_pos (lv (U.drop n)) with h | h
    · exact h
    · have := Nat.le_mul_of_pos_right (4294967296 ^ n) h; omega
  have := lv_map_range (shrL U s) n 0 (fun k => lv (U.drop k) / 2 ^ s) (fun k _ hk => shr_step hU hs (by omega)) (by rw [Nat.zero_add, h1]; exact Nat.zero_div _)
  unfold shrList
  rw [this]; rfl
theorem shr_lim (U : List Nat) (s n : Nat) : Limbs (shrList U s n) := fun d hd => by
  obtain ⟨i, _, rfl⟩ := List.mem_map.1 hd
  exact Nat.mod_lt _ (by decide)
theorem map_range_get (F : Nat → Nat) {n i : Nat} (h : i < n) : ((List.range' 0 n).map F).getD i 0 = F i := by
  simp [List.getD, h]
theorem shr_get (U : List Nat) (s : Nat) {n i : Nat} (h : i < n) : (shrList U s n).getD i 0 = shrL U s i := map_range_get _ h
theorem shr_len (U : List Nat) (s n : Nat) : (shrList U s n).length = n := by unfold shrList; simp
theorem top_pos {l : List Nat} (h : Trimmed l) : ∀ {k : Nat}, l.length = k + 1 → l.getD k 0 ≠ 0 := by
  induction l with
  | nil => intro k h; simp at h
  | cons d l ih =>
    intro k hk
    cases l with
    | nil => simp at hk; subst hk; simpa using (show d ≠ 0 from h)
    | cons e l =>
      obtain ⟨j, rfl⟩ : ∃ j, k = j + 1 := ⟨k - 1, by simp at hk; omega⟩
      have := ih h.tail (k := j) (by simpa using hk)
      simpa using this
structure Shf (b : Nat) (l : List Nat) (s k : Nat) : Prop where
  s32 : s < 32
  lim : Limbs l
  lo : 2147483648 * 4294967296 ^ (k + 1) ≤ b * 2 ^ s
  hi : b * 2 ^ s < 4294967296 ^ (k + 2)
theorem shf_of {b k : Nat} (hk : (digs b).length = k + 2) : Shf b (digs b) (32 - blen ((digs b).getD (k + 1) 0)) k := by
  have hl := limbs_digs b
  have ht := top_pos (trimmed_digs b) (k := k + 1) hk
  have hd := getD_lt hl (k + 1)
  generalize hx : (digs b).getD (k + 1) 0 = x at *
  obtain ⟨j1, j2⟩ := blen_ge (x := x) (by omega) ht
  have j3 := blen_lt (x := x) (by omega)
  have j4 := blen_le (x := x) (n := 32) (by omega) (by decide)
  have hb : b = lv ((digs b).take (k + 1)) + 4294967296 ^ (k + 1) * x := by
    have e : digs b = (digs b).take (k + 2) := by rw [List.take_of_length_le (by omega)]
    have h1 := lv_take_succ (l := digs b) (k := k + 1) (by omega)
    rw [← e, lv_digs, hx] at h1; exact h1
  have hlo := lv_lt (hl.take (k + 1))
  rw [List.length_take_of_le (by omega)] at hlo
  generalize lv ((digs b).take (k + 1)) = y at *
  obtain ⟨t, ht2⟩ : ∃ t, blen x = t + 1 := ⟨blen x - 1, by omega⟩
  rw [ht2] at j2 j3 j4 ⊢
  rw [Nat.add_sub_cancel] at j2
  have p1 : 2 ^ t * 2 ^ (32 - (t + 1)) = 2147483648 := by rw [← Nat.pow_add, show t + (32 - (t + 1)) = 31 by omega]
  have p2 : 2 ^ (t + 1) * 2 ^ (32 - (t + 1)) = 4294967296 := by rw [← Nat.pow_add, show t + 1 + (32 - (t + 1)) = 32 by omega]
  have hp := Nat.two_pow_pos (32 - (t + 1))
  refine ⟨by omega, hl, ?_, ?_⟩
  · rw [← p1, hb]
    calc 2 ^ t * 2 ^ (32 - (t + 1)) * 4294967296 ^ (k + 1) ≤ x * 2 ^ (32 - (t + 1)) * 4294967296 ^ (k + 1) := Nat.mul_le_mul_right _ (Nat.mul_le_mul_right _ j2)
      _ = 4294967296 ^ (k + 1) * x * 2 ^ (32 - (t + 1)) := by rw [Nat.mul_comm, Nat.mul_assoc]
      _ ≤ _ := Nat.mul_le_mul_right _ (Nat.le_add_left _ _)
  · have h1 : b < 4294967296 ^ (k + 1) * (x + 1) := by rw [Nat.mul_add, Nat.mul_one]; omega
    calc b * 2 ^ (32 - (t + 1)) < 4294967296 ^ (k + 1) * (x + 1) * 2 ^ (32 - (t + 1)) := Nat.mul_lt_mul_of_pos_right h1 hp
      _ ≤ 4294967296 ^ (k + 1) * 2 ^ (t + 1) * 2 ^ (32 - (t + 1)) := Nat.mul_le_mul_right _ (Nat.mul_le_mul_left _ j3)
      _ = 4294967296 ^ (k + 2) := by rw [Nat.mul_assoc, p2, ← Nat.pow_succ]
theorem Shf.v {b s k : Nat} {l z : List Nat} (h : Shf b l s k) (hz : Limbs z) (hl : z.length = k + 3) (hv : lv z = b * 2 ^ s) :
    Limbs (z.take (k + 2)) ∧ (z.take (k + 2)).length = k + 2 ∧ lv (z.take (k + 2)) = b * 2 ^ s ∧ 2147483648 ≤ (z.take (k + 2)).getD (k + 1) 0 := by
  have h1 := lv_split z (k + 2) (by omega)
  have h0 : lv (z.drop (k + 2)) = 0 := by
    rcases Nat.eq_zero_or_pos (lv (z.drop (k + 2))) with h' | h'
    · exact h'
    · have := Nat.le_mul_of_pos_right (4294967296 ^ (k + 2)) h'; have := h.hi; omega
  rw [h0, Nat.mul_zero, Nat.add_zero, hv] at h1
  have hlen : (z.take (k + 2)).length = k + 2 := by rw [List.length_take_of_le (by omega)]
  have hL := hz.take (k + 2)
  refine ⟨hL, hlen, h1.symm, ?_⟩
  generalize z.take (k + 2) = v at *
  have h2 := lv_take_succ (l := v) (k := k + 1) (by omega)
  rw [List.take_of_length_le (by omega)] at h2
  have h3 := lv_lt (hL.take (k + 1))
  rw [List.length_take_of_le (by omega)] at h3
  have h4 := h.lo
  rw [h1, h2] at h4
  generalize lv (v.take (k + 1)) = y at *
  generalize v.getD (k + 1) 0 = x at *
  generalize 4294967296 ^ (k + 1) = B at *
  rcases Nat.lt_or_ge x 2147483648 with h5 | h5
  · have h6 : B * x + B ≤ B * 2147483648 := by rw [← Nat.mul_succ]; exact Nat.mul_le_mul_left _ h5
    rw [Nat.mul_comm 2147483648] at h4; omega
  · exact h5
theorem Shf.u {a b s k e : Nat} {l : List Nat} (h : Shf b l s k) (ha : (digs a).length = k + 2 + e) : a * 2 ^ s < b * 2 ^ s * 4294967296 ^ (e + 1) := by
  have h1 := lt_of_digs_len a
  rw [ha] at h1
  have h2 : 2 ^ s ≤ 2147483648 := Nat.pow_le_pow_right (n := 2) (by decide) (show s ≤ 31 by have := h.s32; omega)
  calc a * 2 ^ s < 4294967296 ^ (k + 2 + e) * 2 ^ s := Nat.mul_lt_mul_of_pos_right h1 (Nat.two_pow_pos s)
    _ ≤ 4294967296 ^ (k + 2 + e) * 2147483648 := Nat.mul_le_mul_left _ h2
    _ = 2147483648 * 4294967296 ^ (k + 1) * 4294967296 ^ (e + 1) := by rw [Nat.mul_assoc, ← Nat.pow_add, Nat.mul_comm, show k + 1 + (e + 1) = k + 2 + e by omega]
    _ ≤ b * 2 ^ s * 4294967296 ^ (e + 1) := Nat.mul_le_mul_right _ h.lo
end Tor
end
section
namespace Tor
open Go Go.RowKit Go.Proofs
theorem nil_nat : VT.le (one (.slice none 0 0)) (natT 0) := VT.le_trans nil_slT (natT_of (l := []) (fun _ h => by cases h) rfl)
theorem cmpN_lt {a b : Nat} : (cmpN a b < 0) = (a < b) := by unfold cmpN; split <;> simp_all <;> (try split) <;> omega
theorem one_limb {b : Nat} (h : (digs b).length = 1) : (digs b).getD 0 0 = b := by
  have h1 := lv_take_succ (l := digs b) (k := 0) (by omega)
  rw [List.take_of_length_le (by omega), lv_digs] at h1
  simpa [lv] using h1.symm
theorem one_nat {v : Nat} (h : v < 4294967296) : VT.le (slT .one 1 fun _ => one (.int .u32 (v : Nat))) (natT v) :=
  VT.le_trans (slT_le' (m := [v].length) (ψ := fun i => one (.int .u32 ([v].getD i 0 : Nat))) rfl (fun q hq => by
    have hq : q < 1 := hq
    have : q = 0 := by omega
    subst this; rfl)) (natT_of (l := [v]) (fun d hd => by simp at hd; omega) (by simp [lv]))
def padL : Nat → Nat → List Nat
  | 0, _ => []
  | n + 1, v => v % 4294967296 :: padL n (v / 4294967296)
theorem padL_len : ∀ n v, (padL n v).length = n
  | 0, _ => rfl
  | n + 1, v => by rw [padL, List.length_cons, padL_len n]
theorem padL_lim : ∀ n v, Limbs (padL n v)
  | 0, _ => fun d hd => by cases hd
  | n + 1, v => fun d hd => by
    rw [padL] at hd
    rcases List.mem_cons.1 hd with rfl | hd
    · exact Nat.mod_lt _ (by decide)
    · exact padL_lim n _ d hd
theorem padL_val : ∀ n v, v < 4294967296 ^ n → lv (padL n v) = v
  | 0, v, h => by simp at h; subst h; rfl
  | n + 1, v, h => by
    have : v / 4294967296 < 4294967296 ^ n := Nat.div_lt_of_lt_mul (by rw [Nat.mul_comm, ← Nat.pow_succ]; exact h)
    rw [padL, lv, padL_val n _ this]; omega
theorem pad_uniq : ∀ {z : List Nat}, Limbs z → z = padL z.length (lv z)
  | [], _ => rfl
  | d :: z, h => by
    have hd := h.head
    have ih := pad_uniq h.tail
    rw [List.length_cons, padL, lv]
    rw [show (d + 4294967296 * lv z) % 4294967296 = d by omega, show (d + 4294967296 * lv z) / 4294967296 = lv z by omega, ← ih]
theorem shift_lt {l : List Nat} {s : Nat} (hl : Limbs l) (hs : s < 32) : lv l * 2 ^ s < 4294967296 ^ (l.length + 1) := by
  rw [Nat.pow_succ]
  have h1 : 2 ^ s ≤ 4294967296 := Nat.pow_le_pow_right (n := 2) (by decide) (show s ≤ 32 by omega)
  exact Nat.lt_of_lt_of_le (Nat.mul_lt_mul_of_pos_right (lv_lt hl) (Nat.two_pow_pos s)) (Nat.mul_le_mul_left _ h1)
def shift0 (l : List Nat) (s : Nat) (hl : Limbs l) (hs : s < 32) : ShiftS l s := ⟨(0, padL (l.length + 1) (lv l * 2 ^ s)), padL_len _ _, padL_lim _ _, padL_val _ _ (shift_lt hl hs)⟩
theorem shiftV_ok (l : List Nat) (s : Nat) (hl : Limbs l) (h1 : l.length ≤ 1099511627776) (hs : s < 32) : Ok Try.prog 100 [limT l, one (.int .i64 (s : Nat))] (slT .one (l.length + 1) (limF (padL (l.length + 1) (lv l * 2 ^ s)))) :=
  (shift_ok l s hl h1 hs).ok fun p => by
    have h := pad_uniq p.2.2.1
    rw [p.2.1, p.2.2.2] at h
    rw [← h]
    exact Ent.sl List.mem_cons_self
theorem take_limF {z : List Nat} {q m : Nat} (h : q < m) : limF z (Int.toNat 0 + q) = limF (z.take m) q := by
  have e : Int.toNat 0 + q = q := Nat.zero_add q
  rw [e]
  unfold limF
  rw [show (z.take m).getD q 0 = z.getD q 0 by simp [List.getD, List.getElem?_take, h]]
theorem shr_upd {br : Option Nat} {T : TypeId} {n i s : Nat} {U : List Nat} (hi : i < n) : Own.le (sliO br T .one n n (upd (fun q => one (.int .u32 ((if q < i then (shrList U s n).getD q 0 else 0 : Nat) : Int))) i (one (.int .u32 (((U.getD (i + 1) 0 * 4294967296 + U.getD i 0) / 2 ^ s % 4294967296 : Nat) : Int)))))
    (sliO br T .one n n (fun q => one (.int .u32 ((if q < i + 1 then (shrList U s n).getD q 0 else 0 : Nat) : Int)))) := sliO_eq (fun q hq => by
  unfold upd
  by_cases h : q = i
  · subst h; rw [if_pos rfl, if_pos (Nat.lt_succ_self q), shr_get U s hi]; rfl
  · rw [if_neg h]
    dsimp only
    by_cases h2 : q < i
    · rw [if_pos h2, if_pos (Nat.lt_succ_of_lt h2)]
    · rw [if_neg h2, if_neg (by omega)])
attribute [local irreducible] Tor.J Tor.PJ Tor.StepO Tor.one Tor.slT Tor.ptrT Tor.aggT Tor.tupT Tor.exT Tor.andT Tor.eP Tor.boxO Tor.sliO Tor.slV Tor.VT.le Tor.Ret Tor.anyT
set_option maxHeartbeats 4000000 in
set_option maxRecDepth 20000 in
theorem divide_ok (a b : Nat) (hb : b ≠ 0) (ha : (digs a).length ≤ 1099511627776) : Ok Try.prog 83 [limT (digs a), limT (digs b)] (tupT [natT (a / b), natT (a % b)]) := by
  have hcl := Clone_ok (digs a) ha
  have hcm := compare_ok a b
  refine Ok.enter Try.func83 rfl Try.ntmps83 rfl (fun w O => ?_)
  by_cases h1 : a < b
  · rw [Nat.div_eq_of_lt h1, Nat.mod_eq_of_lt h1]
    have hlt : cmpN a b < 0 := by rw [cmpN_lt]; exact h1
    refine J_seq (J_reg (st (s_assign rfl) rfl (st (s_assign rfl) rfl (Run.nil (pj_then (J_seq (J_block (J_seq (J_reg ?_)))))))))
    refine st (s_move rfl) rfl (st (s_move rfl) rfl ?_)
    refine st (s_callk (hcm ) rfl ⟨VT.le_refl _, VT.le_refl _, trivial⟩) rfl ?_
    refine st (sT (by assumption) (s_lt rfl rfl)) rfl (st (s_assign rfl) rfl (Run.nil (pj_then (J_cond1 rfl (J_seq (J_reg (st (s_move rfl) rfl ?_)))))))
    refine st (s_callk (hcl ) rfl ⟨VT.le_refl _, trivial⟩) rfl ?_
    refine st (s_assign rfl) rfl (st (s_assign rfl) rfl (Run.nil (pj_then (J_ret (pr_block (pr_then ?_))))))
    refine retc2 Try.results83 (.tmp rfl (nil_nat)) (.tmp rfl (natT_digs _))
  · have hlt : ¬ cmpN a b < 0 := by rw [cmpN_lt]; exact h1
    have hlen := digs_len_le' (Nat.le_of_not_lt h1)
    by_cases h2 : (digs a).length ≤ 2
    · have hw1 := word_ok (digs a) (limbs_digs a) h2
      have hw2 := word_ok (digs b) (limbs_digs b) (by omega)
      rw [lv_digs] at hw1 hw2
      have a64 : a < 18446744073709551616 := Nat.lt_of_lt_of_le (lt_of_digs_len a) (Nat.pow_le_pow_right (n := 4294967296) (by decide) h2)
      have b64 : b < 18446744073709551616 := by omega
      have q64 : a / b < 18446744073709551616 := Nat.lt_of_le_of_lt (Nat.div_le_self _ _) a64
      have r64 : a % b < 18446744073709551616 := Nat.lt_of_le_of_lt (Nat.mod_le _ _) a64
      have hk1 := limbs_ok (a / b) q64
      have hk2 := limbs_ok (a % b) r64
      refine J_seq (J_reg (st (s_assign rfl) rfl (st (s_assign rfl) rfl (Run.nil (pj_then (J_seq (J_block (J_seq (J_reg ?_)))))))))
      refine st (s_move rfl) rfl (st (s_move rfl) rfl ?_)
      refine st (s_callk (hcm ) rfl ⟨VT.le_refl _, VT.le_refl _, trivial⟩) rfl ?_
      refine st (sF (by assumption) (s_lt rfl rfl)) rfl (st (s_assign rfl) rfl (Run.nil (pj_then (J_cond0 rfl (J_seq (J_reg (st (s_move rfl) rfl (st (s_len rfl) rfl (st (sT (by omega) (s_le rfl rfl)) rfl ?_)))))))))
      refine st (s_assign rfl) rfl (Run.nil (pj_then (J_cond1 rfl (J_seq (J_reg (st (s_move rfl) rfl ?_))))))
      refine st (s_callk (hw1 ) rfl ⟨VT.le_refl _, trivial⟩) rfl ?_
      refine st (s_move rfl) rfl ?_
      refine st (s_callk (hw2 ) rfl ⟨VT.le_refl _, trivial⟩) rfl ?_
      refine st (s_assign rfl) rfl (st (s_assign rfl) rfl (Run.nil (pj_then (J_seq (J_regd 9 mixed (by kernel_rfl) (by decide) (st (s_move rfl) rfl (st (s_move rfl) rfl (st (s_quoU rfl rfl (by omega) (by omega)) rfl ?_))))))))
      refine st (s_callk (hk1 ) rfl ⟨VT.le_refl _, trivial⟩) rfl ?_
      refine st (s_move rfl) rfl (st (s_move rfl) rfl (st (s_remN _ rfl rfl rfl (by omega)) rfl ?_))
      refine st (s_callk (hk2 ) rfl ⟨VT.le_refl _, trivial⟩) rfl ?_
      refine st (s_assign rfl) rfl (Run.nil (st (s_assign rfl) rfl (Run.nil (pj_then (J_ret (pr_block (pr_then ?_)))))))
      refine retc2 Try.results83 (.tmp rfl (VT.le_refl _)) (.tmp rfl (VT.le_refl _))
    · by_cases h3 : (digs b).length = 1
      · have hb1 := one_limb h3
        have hd := getD_lt (limbs_digs b) 0
        have hsh := short_ok (digs a) b (limbs_digs a) ha (by omega) (by omega)
        rw [lv_digs] at hsh
        have hr := Nat.mod_lt a (show 0 < b by omega)
        refine J_seq (J_reg (st (s_assign rfl) rfl (st (s_assign rfl) rfl (Run.nil (pj_then (J_seq (J_block (J_seq (J_reg ?_)))))))))
        refine st (s_move rfl) rfl (st (s_move rfl) rfl ?_)
        refine st (s_callk (hcm ) rfl ⟨VT.le_refl _, VT.le_refl _, trivial⟩) rfl ?_
        refine st (sF (by assumption) (s_lt rfl rfl)) rfl (st (s_assign rfl) rfl (Run.nil (pj_then (J_cond0 rfl (J_seq (J_reg (st (s_move rfl) rfl (st (s_len rfl) rfl (st (sF (by omega) (s_le rfl rfl)) rfl ?_)))))))))
        refine st (s_assign rfl) rfl (Run.nil (pj_then (J_cond0 rfl (J_seq (J_reg (st (s_move rfl) rfl (st (s_len rfl) rfl (st (sT (by omega) (s_eq rfl rfl)) rfl (st (s_assign rfl) rfl ?_)))))))))
        refine Run.nil (pj_then (J_cond1 rfl (J_seq (J_reg (st (s_move rfl) rfl (st (s_move rfl) rfl (st (s_indexI rfl rfl (by omega) (by omega)) rfl (st (s_load rfl) rfl ?_))))))))
        refine st (s_callk (hsh ) rfl ⟨VT.le_refl _, (one_le (by rw [show (digs b).getD (Int.toNat 0) 0 = b from hb1])), trivial⟩) rfl ?_
        refine st (s_move rfl) rfl (st (s_extract rfl rfl) rfl (st (s_extract rfl rfl) rfl (st (s_assign rfl) rfl (st (s_assign rfl) rfl (Run.nil (pj_then (J_seq (J_reg (st (s_move rfl) rfl ?_)))))))))
        refine st (s_move rfl) rfl (stS1 rfl rfl rfl rfl (st (s_assign rfl) rfl (st (s_assign rfl) rfl (Run.nil (pj_then (J_ret (pr_block (pr_then ?_))))))))
        refine retc2 Try.results83 (.tmp rfl (VT.le_refl _)) (.tmp rfl (one_nat (by omega)))
      · have hdb : digs b ≠ [] := fun h => hb (by rw [← lv_digs b, h]; rfl)
        obtain ⟨k, hk⟩ : ∃ k, (digs b).length = k + 2 := ⟨(digs b).length - 2, by have := List.length_pos_iff.2 hdb; omega⟩
        obtain ⟨e, he⟩ : ∃ e, (digs a).length = k + 2 + e := ⟨(digs a).length - (k + 2), by omega⟩
        have hx := getD_lt (limbs_digs b) ((digs b).length - 1)
        have S0 := shf_of hk
        rw [show k + 1 = (digs b).length - 1 by omega] at S0
        have hlz := LZ32_ok ((digs b).getD ((digs b).length - 1) 0) hx
        generalize 32 - blen ((digs b).getD ((digs b).length - 1) 0) = s at S0 hlz
        have s32 := S0.s32
        have hsv := shiftV_ok (digs b) s (limbs_digs b) (by omega) s32
        have hsu := shift_ok (digs a) s (limbs_digs a) ha s32
        refine J_seq (J_reg (st (s_assign rfl) rfl (st (s_assign rfl) rfl (Run.nil (pj_then (J_seq (J_block (J_seq (J_reg ?_)))))))))
        refine st (s_move rfl) rfl (st (s_move rfl) rfl ?_)
        refine st (s_callk (hcm ) rfl ⟨VT.le_refl _, VT.le_refl _, trivial⟩) rfl ?_
        refine st (sF (by assumption) (s_lt rfl rfl)) rfl (st (s_assign rfl) rfl (Run.nil (pj_then (J_cond0 rfl (J_seq (J_reg (st (s_move rfl) rfl (st (s_len rfl) rfl (st (sF (by omega) (s_le rfl rfl)) rfl ?_)))))))))
        refine st (s_assign rfl) rfl (Run.nil (pj_then (J_cond0 rfl (J_seq (J_reg (st (s_move rfl) rfl (st (s_len rfl) rfl (st (sF (by omega) (s_eq rfl rfl)) rfl (st (s_assign rfl) rfl ?_)))))))))
        refine Run.nil (pj_then (J_cond0 rfl (J_skip (pn_block (pj_then (J_seq (J_reg (st (s_move rfl) rfl (st (s_move rfl) rfl ?_)))))))))
        refine st (s_len rfl) rfl (st (s_subN _ 1 rfl rfl (by omega) (by omega)) rfl (st (s_indexIN rfl rfl (by omega)) rfl (st (s_load rfl) rfl ?_)))
        refine st (s_callk (hlz ) rfl ⟨VT.le_refl _, trivial⟩) rfl ?_
        refine st (s_move rfl) rfl (st (s_len rfl) rfl (st (s_assign rfl) rfl (st (s_assign rfl) rfl (Run.nil (pj_then (J_seq (J_sub (Γ' := [(0, _), (1, _), (4, _), (5, _), (10, _), (11, _)]) (SubG.cons rfl (VT.le_refl _) (SubG.cons rfl (VT.le_refl _) (SubG.cons rfl (VT.le_refl _) (SubG.cons rfl (VT.le_refl _) (SubG.cons rfl (VT.le_refl _) (SubG.cons rfl (VT.le_refl _) (SubG.nil))))))) (SubM.refl _) ?_)))))))
        refine J_regM (σ := ShiftS (digs a) s) 2 (shift0 (digs a) s (limbs_digs a) s32) (fun p => one (slV (some p.1.1) ((digs a).length + 1) ((digs a).length + 1))) (fun p => [sliO (some p.1.1) 78 .one ((digs a).length + 1) ((digs a).length + 1) (limF p.1.2)]) mixed (by kernel_rfl) (by decide) ?_
        refine vx rfl (fun s B => s_move rfl) rfl ?_
        refine vx rfl (fun s B => s_move rfl) rfl ?_
        refine vc rfl hsu (fun s => rfl) ⟨VT.le_refl _, VT.le_refl _, trivial⟩ rfl ?_
        refine vx rfl (fun s B => s_move rfl) rfl ?_
        refine vx rfl (fun s B => s_move rfl) rfl ?_
        refine vx rfl (fun s B => s_callk hsv rfl ⟨VT.le_refl _, VT.le_refl _, trivial⟩) rfl ?_
        refine vx rfl (fun s B => s_move rfl) rfl ?_
        refine vx rfl (fun s B => s_move rfl) rfl ?_
        refine vx rfl (fun s B => s_slice rfl rfl rfl rfl (fun _ => rfl) (by omega) (by omega) (by omega) (by omega)) rfl ?_
        refine vd rfl (by kernel_rfl) (fun s B => s_assign rfl) rfl ?_
        refine vx rfl (fun s B => s_assign rfl) rfl ?_
        refine .nil (fun p => ?_)
        obtain ⟨⟨bu, U⟩, hu1, hu2, hu3⟩ := p
        dsimp only at hu1 hu2 hu3 ⊢
        rw [lv_digs] at hu3
        rw [he] at hu1
        rw [lv_digs, hk, he]
        obtain ⟨z, hz⟩ : ∃ z, z = padL (k + 2 + 1) (b * 2 ^ s) := ⟨_, rfl⟩
        have z1 := padL_len (k + 2 + 1) (b * 2 ^ s)
        have z2 := padL_lim (k + 2 + 1) (b * 2 ^ s)
        have z3 := padL_val (k + 2 + 1) (b * 2 ^ s) (Nat.lt_of_lt_of_le S0.hi (Nat.pow_le_pow_right (by decide) (by omega)))
        rw [← hz] at z1 z2 z3 ⊢
        obtain ⟨v1, v2, v3, v4⟩ := S0.v z2 z1 z3
        refine PJ_sub (Γ' := [(0, slT .one (k + 2 + e) (limF (digs a))), (4, _), (5, _), (10, _), (11, one (.int .i64 ((k + 2 : Nat) : Int))), (12, one (slV (some bu) (k + 2 + e + 1) (k + 2 + e + 1))), (13, limT (z.take (k + 2)))]) (.cons rfl (slT_le' he (fun _ _ => rfl)) (.cons rfl (VT.le_refl _) (.cons rfl (VT.le_refl _) (.cons rfl (VT.le_refl _) (.cons rfl (VT.le_refl _) (.cons rfl (VT.le_refl _) (.cons rfl ?_ .nil))))))) (SubM.refl _) ?_
        · exact slT_le' (by rw [v2]; omega) (fun q hq => take_limF (by omega))
        generalize z.take (k + 2) = v at *
        have hV0 : 0 < b * 2 ^ s := Nat.mul_pos (by omega) (Nat.two_pow_pos s)
        have hVn := S0.hi
        have hA := S0.u he
        refine pj_then (J_seq (J_reg (st (s_move rfl) rfl (st (s_len rfl) rfl (st (s_move rfl) rfl (st (s_subN _ _ rfl rfl (by omega) (by omega)) rfl (st (s_addN _ 1 rfl rfl (by omega)) rfl ?_)))))))
        refine a_makeSlice (e + 1) (e + 1) rfl rfl (by omega) (by omega) (Nat.le_refl _) rfl rfl (by omega) rfl rfl (fun bz => ?_)
        refine st (s_assign rfl) rfl (Run.nil (pj_then (J_seq (J_seq (J_reg (st (s_move rfl) rfl (st (s_len rfl) rfl (st (s_move rfl) rfl (st (s_subN _ _ rfl rfl (by omega) (by omega)) rfl ?_)))))))))
        refine st (s_assign rfl) rfl (Run.nil (pj_then (J_block (J_sub (Γ' := [(4, _), (5, _), (10, _), (11, _), (12, _), (13, _), (14, _), (15, _)]) (SubG.cons rfl (VT.le_refl _) (SubG.cons rfl (VT.le_refl _) (SubG.cons rfl (VT.le_refl _) (SubG.cons rfl (VT.le_refl _) (SubG.cons rfl (VT.le_refl _) (SubG.cons rfl (VT.le_refl _) (SubG.cons rfl (VT.le_refl _) (SubG.cons rfl (VT.le_refl _) (SubG.nil))))))))) (SubM.refl _) ?_))))
        refine J_loopA (σ := List Nat × List Nat × Nat) (Γk := [(4, _), (5, _), (10, _), (11, _), (12, _), (13, _), (14, _)]) (SubG.cons rfl (VT.le_refl _) (SubG.cons rfl (VT.le_refl _) (SubG.cons rfl (VT.le_refl _) (SubG.cons rfl (VT.le_refl _) (SubG.cons rfl (VT.le_refl _) (SubG.cons rfl (VT.le_refl _) (SubG.cons rfl (VT.le_refl _) (SubG.nil)))))))) (fun p => [(15, one (.int .i64 ((p.2.2 : Nat) - 1 : Int)))]) (fun p M0 => ((M0.set 0 (sliO (some bz) 78 .one (e + 1) (e + 1) (limF p.2.1))).set 1 (sliO (some bu) 78 .one (k + 2 + e + 1) (k + 2 + e + 1) (limF p.1)))) (fun p => DivR (b * 2 ^ s) (a * 2 ^ s) (k + 2) e p) (fun p => p.2.2) ((U, List.replicate (e + 1) 0, e + 1)) (DivR.start hu2 hu1 hu3 hA) (by repeat (first | exact SubG.refl _ | exact SubG.nil | refine SubG.cons rfl (VT.le_refl _) ?_ | (refine SubG.cons rfl (one_le ?_) ?_; (congr 1; first | omega | (simp; omega) | simp)))) (.keep (sliO_eq (fun q _ => by unfold limF; rw [getD_replicate0]; rfl)) (.keep (Own.le_refl _) (.nil))) (fun p hp => ?_)
        refine J_norm (Γ' := [(15, _), (4, _), (5, _), (10, _), (11, _), (12, _), (13, _), (14, _)]) (M' := [_, _]) rfl rfl ?_
        obtain ⟨U1, Q, c⟩ := p
        dsimp only at hp ⊢
        have hu1 : U1.length = k + 2 + e + 1 := hp.lu
        have hq1 : Q.length = e + 1 := hp.lq
        have hcl : c ≤ e + 1 := hp.le
        refine J_seq (J_seq (J_reg (st (s_move rfl) rfl (st (s_ge rfl rfl) rfl (Run.nil (pj_then ?_))))))
        cases c with
        | zero =>
          refine J_condF rfl (by omega) (J_exit (px_then (px_then (px_block (pj_then (J_seq (J_reg (st (s_move rfl) rfl ?_))))))))
          obtain ⟨f1, f2⟩ := hp.finish (by omega)
          refine a_makeSlice (k + 2) (k + 2) rfl rfl rfl rfl (Nat.le_refl _) rfl rfl (by omega) rfl rfl (fun br => ?_)
          refine st (s_assign rfl) rfl (Run.nil (pj_then (J_seq (J_seq (J_reg (st (s_move rfl) rfl (st (s_move rfl) rfl (Run.nil (pj_then ?_)))))))))
          refine J_block (J_sub (Γ' := [(4, _), (5, _), (10, _), (12, _), (14, _), (16, _), (102, _), (103, _)]) (SubG.cons rfl (VT.le_refl _) (SubG.cons rfl (VT.le_refl _) (SubG.cons rfl (VT.le_refl _) (SubG.cons rfl (VT.le_refl _) (SubG.cons rfl (VT.le_refl _) (SubG.cons rfl (VT.le_refl _) (SubG.cons rfl (VT.le_refl _) (SubG.cons rfl (VT.le_refl _) (SubG.nil))))))))) (SubM.refl _) ?_)
          refine J_loopA (σ := Nat) (Γk := [(4, _), (5, _), (10, _), (12, _), (14, _), (16, _), (102, _)]) (SubG.cons rfl (VT.le_refl _) (SubG.cons rfl (VT.le_refl _) (SubG.cons rfl (VT.le_refl _) (SubG.cons rfl (VT.le_refl _) (SubG.cons rfl (VT.le_refl _) (SubG.cons rfl (VT.le_refl _) (SubG.cons rfl (VT.le_refl _) (SubG.nil)))))))) (fun i => [(103, one (.int .i64 (i : Nat)))]) (fun i M0 => (M0.set 0 (sliO (some br) 78 .one (k + 2) (k + 2) (fun q => one (.int .u32 ((if q < i then (shrList U1 s (k + 2)).getD q 0 else 0 : Nat) : Int)))))) (fun i => i ≤ k + 2) (fun i => k + 2 - i) (0) (Nat.zero_le _) (by repeat (first | exact SubG.refl _ | exact SubG.nil | refine SubG.cons rfl (VT.le_refl _) ?_ | (refine SubG.cons rfl (one_le ?_) ?_; (congr 1; first | omega | (simp; omega) | simp)))) (.keep (Own.le_refl _) (.keep (Own.le_refl _) (.keep (Own.le_refl _) (.nil)))) (fun i hi => ?_)
          refine J_norm (Γ' := [(103, _), (4, _), (5, _), (10, _), (12, _), (14, _), (16, _), (102, _)]) (M' := [_, _, _]) rfl rfl (J_seq (J_reg (st (s_lt rfl rfl) rfl (Run.nil (pj_then (J_seq ?_))))))
          refine J_if rfl (fun hc => ?_) (fun hc => ?_)
          · have hik : i < k + 2 := by omega
            have g0 := getD_lt (show Limbs U1 from hp.limU) i
            have g1 := getD_lt (show Limbs U1 from hp.limU) (i + 1)
            refine J_skip (pj_then (J_seq (J_block (J_seq (J_reg (st (s_move rfl) rfl (st (s_assign rfl) rfl (Run.nil (pj_then ?_)))))))))
            refine J_regd 18 mixed (by kernel_rfl) (by decide) (st (s_move rfl) rfl (st (s_move rfl) rfl (st (s_move rfl) rfl (st (s_move rfl) rfl (st (s_addN _ 1 rfl rfl (by omega)) rfl (st (s_indexON rfl rfl (by omega)) rfl (st (s_loadE 2 rfl rfl (by omega)) rfl (st (s_toU64 rfl (by omega)) rfl (st (s_shlU (s := 32) rfl rfl (by omega) (by omega)) rfl ?_)))))))))
            refine st (s_move rfl) rfl (st (s_move rfl) rfl (st (s_indexON rfl rfl (by omega)) rfl (st (s_loadE 2 rfl rfl (by omega)) rfl (st (s_toU64 rfl (by omega)) rfl (st (s_orHL rfl rfl (by omega) (by omega)) rfl (st (s_move rfl) rfl ?_))))))
            refine st (s_shrU rfl rfl (by (show _ < 64; omega))) rfl ?_
            refine st (s_toU32 rfl) rfl (Run.nil (st (s_indexON rfl rfl (by omega)) rfl ?_))
            (refine a_storeE 0 rfl rfl rfl ?_ rfl ?_; omega)
            refine Run.nil (pn_block (pj_then (J_reg (st (s_addN _ 1 rfl rfl (by omega)) rfl (st (s_move rfl) rfl (Run.nil ?_))))))
            refine pj_roundM (i + 1) (by assumption) (by omega) (by repeat (first | exact SubG.refl _ | exact SubG.nil | refine SubG.cons rfl (VT.le_refl _) ?_ | (refine SubG.cons rfl (one_le ?_) ?_; (congr 1; first | omega | (simp; omega) | simp)))) (.keep (shr_upd hik) (.keep (Own.le_refl _) (.keep (Own.le_refl _) (.nil))))
          · have hik : i = k + 2 := by omega
            subst hik
            refine J_exit (px_then (px_then (px_block (pj_then (J_seq (J_reg (st (s_move rfl) rfl (st (s_move rfl) rfl (st (s_assign rfl) rfl ?_)))))))))
            refine st (s_assign rfl) rfl (Run.nil (pj_then (J_ret ?_)))
            have hlU : lv U1 < 4294967296 ^ (k + 2) := Nat.lt_trans (show lv (U1.drop 0) < _ from hp.lt) hVn
            have hrv : lv (shrList U1 s (k + 2)) = a % b := by rw [shr_val hp.limU s32 (by dsimp only; omega) hlU, f2, Nat.mul_div_cancel _ (Nat.two_pow_pos s)]
            refine PJ_freeze (t := 5) (i := 0) rfl rfl (PJ_freeze (t := 4) (i := 0) rfl rfl ?_)
            refine retc2 Try.results83 (.tmp rfl (VT.le_trans (slT_le' (m := Q.length) (ψ := limF Q) hq1.symm (fun _ _ => rfl)) (natT_of hp.limQ f1))) (.tmp rfl (VT.le_trans (slT_le' (m := (shrList U1 s (k + 2)).length) (ψ := limF (shrList U1 s (k + 2))) (shr_len _ _ _).symm (fun q hq => by rw [if_pos hq])) (natT_of (shr_lim _ _ _) hrv)))
        | succ j =>
          obtain ⟨p1, p2, p3, p4⟩ := hp.pre hVn
          have en : ((j + 1 : Nat) : Int) - 1 = (j : Nat) := by omega
          rw [en]
          refine J_condT rfl (by omega) (J_skip (pj_then (J_seq (J_block (J_reg (st (s_move rfl) rfl (st (s_move rfl) rfl (st (s_move rfl) rfl (st (s_move rfl) rfl ?_)))))))))
          refine st (s_move rfl) rfl (st (s_move rfl) rfl (st (s_addN _ _ rfl rfl (by omega)) rfl (st (s_addN _ 1 rfl rfl (by omega)) rfl (st (s_sliceW rfl rfl rfl (by omega) (by omega) (by omega)) rfl (st (s_move rfl) rfl ?_)))))
          refine a_callI (Min := [sliO (some bu) 78 .one (k + 2 + e + 1) (k + 2 + e + 1) (limF U1)]) (Kp := [sliO (some bz) 78 .one (e + 1) (e + 1) (limF Q)]) (digit_ok bu (k + 2 + e + 1) j (k + 2 + e + 1 - j) k U1 v hp.limU v1 hu1 (by omega) v2 (by omega) v4 (by rw [v3]; exact p4)) rfl ⟨one_le (by rw [show j + (k + 2) + 1 - j = k + 3 by omega]; rfl), VT.le_refl _, trivial⟩ (List.Perm.swap _ _ _) rfl rfl (fun r => ?_)
          obtain ⟨U2, o1, o2, o3⟩ := r
          dsimp only
          refine Run_perm (List.Perm.swap _ _ _) (st (s_indexON rfl rfl (by omega)) rfl ?_)
          (refine a_storeE 0 rfl rfl rfl ?_ rfl ?_; omega)
          refine Run.nil (pn_block (pj_then (J_reg (st (s_move rfl) rfl (st (s_sub rfl rfl (wrap_i64 (by omega) (by omega))) rfl (st (s_assign rfl) rfl (Run.nil ?_)))))))
          refine pj_roundM ((U2, Q.set j (lv (win U1 j (k + 3)) / lv v), j)) (hp.step hV0 hVn o1 o2 (by rw [o3, v3]) (by rw [v3])) (by (simp only []; omega)) (by repeat (first | exact SubG.refl _ | exact SubG.nil | refine SubG.cons rfl (VT.le_refl _) ?_ | (refine SubG.cons rfl (one_le ?_) ?_; (congr 1; first | omega | (simp; omega) | simp)))) (.keep (lim_setF (by omega) rfl) (.keep (Own.le_refl _) (.nil)))
end Tor
end
section
namespace Tor
open Go Go.RowKit Go.Proofs
theorem dm_neg0 {A B : Nat} (hB : 0 < B) (h : A % B = 0) : (-(A : Int)) / B = -((A / B : Nat) : Int) ∧ (-(A : Int)) % B = 0 := by
  have hm := Nat.div_add_mod A B
  refine (Int.ediv_emod_unique (by omega)).2 ⟨?_, by omega, by omega⟩
  have e : ((B * (A / B) + A % B : Nat) : Int) = (A : Int) := by rw [hm]
  rw [h] at e
  rw [Int.natCast_add, Int.natCast_mul] at e
  rw [Int.mul_neg]; omega
theorem dm_neg1 {A B : Nat} (hB : 0 < B) (h : A % B ≠ 0) : (-(A : Int)) / B = -((A / B + 1 : Nat) : Int) ∧ (-(A : Int)) % B = ((B - A % B : Nat) : Int) := by
  have hm := Nat.div_add_mod A B
  have hl := Nat.mod_lt A hB
  refine (Int.ediv_emod_unique (by omega)).2 ⟨?_, by omega, by omega⟩
  have e : ((B * (A / B) + A % B : Nat) : Int) = (A : Int) := by rw [hm]
  rw [Int.natCast_add, Int.natCast_mul] at e
  rw [Int.mul_neg, Int.natCast_add, Int.mul_add]
  omega
theorem dm_spec {a b : Int} (hb : b ≠ 0) : (0 ≤ a → a / b = (if b < 0 then -((a.natAbs / b.natAbs : Nat) : Int) else ((a.natAbs / b.natAbs : Nat) : Int)) ∧ a % b = ((a.natAbs % b.natAbs : Nat) : Int)) ∧
    (a < 0 → a.natAbs % b.natAbs = 0 → a / b = (if b < 0 then ((a.natAbs / b.natAbs : Nat) : Int) else -((a.natAbs / b.natAbs : Nat) : Int)) ∧ a % b = 0) ∧
    (a < 0 → a.natAbs % b.natAbs ≠ 0 → a / b = (if b < 0 then ((a.natAbs / b.natAbs + 1 : Nat) : Int) else -((a.natAbs / b.natAbs + 1 : Nat) : Int)) ∧ a % b = ((b.natAbs - a.natAbs % b.natAbs : Nat) : Int)) := by
  have hB : 0 < b.natAbs := by omega
  generalize hA : a.natAbs = A
  generalize hBb : b.natAbs = B at *
  have key : (0 ≤ a → a / (B : Int) = ((A / B : Nat) : Int) ∧ a % (B : Int) = ((A % B : Nat) : Int)) ∧
      (a < 0 → A % B = 0 → a / (B : Int) = -((A / B : Nat) : Int) ∧ a % (B : Int) = 0) ∧
      (a < 0 → A % B ≠ 0 → a / (B : Int) = -((A / B + 1 : Nat) : Int) ∧ a % (B : Int) = ((B - A % B : Nat) : Int)) := by
    refine ⟨fun h => ?_, fun h h0 => ?_, fun h h0 => ?_⟩
    · have : a = (A : Int) := by omega
      rw [this]; exact ⟨(Int.natCast_ediv A B).symm, (Int.natCast_emod A B).symm⟩
    · have : a = -(A : Int) := by omega
      rw [this]; exact dm_neg0 hB h0
    · have : a = -(A : Int) := by omega
      rw [this]; exact dm_neg1 hB h0
  by_cases hn : b < 0
  · have e : b = -(B : Int) := by omega
    simp only [if_pos hn]
    rw [e, Int.ediv_neg, Int.emod_neg]
    refine ⟨fun h => ?_, fun h h0 => ?_, fun h h0 => ?_⟩
    · obtain ⟨k1, k2⟩ := key.1 h; exact ⟨by rw [k1], k2⟩
    · obtain ⟨k1, k2⟩ := key.2.1 h h0; exact ⟨by rw [k1, Int.neg_neg], k2⟩
    · obtain ⟨k1, k2⟩ := key.2.2 h h0; exact ⟨by rw [k1, Int.neg_neg], k2⟩
  · have e : b = (B : Int) := by omega
    simp only [if_neg hn]
    rw [e]; exact key
theorem digs_nil {v : Nat} (h : (digs v).length = 0) : v = 0 := by
  rw [← lv_digs v, List.length_eq_zero_iff.1 h]; rfl
theorem digs_one : digs 1 = [1] := by rw [digs_pos (by decide)]; rfl
theorem one_digs : VT.le (slT .one 1 fun _ => one (.int .u32 1)) (limT (digs 1)) := by
  rw [digs_one]
  exact slT_le' rfl (fun q hq => by
    have hq : q = 0 := by omega
    subst hq; rfl)
theorem neg_ifT (p : Prop) [Decidable p] (x : Int) : (if (!(true == decide p)) = true then -x else x) = (if p then x else -x) := by by_cases h : p <;> simp [h]
theorem neg_ifF (p : Prop) [Decidable p] (x : Int) : (if (!(false == decide p)) = true then -x else x) = (if p then -x else x) := by by_cases h : p <;> simp [h]
attribute [local irreducible] Tor.J Tor.PJ Tor.StepO Tor.one Tor.slT Tor.ptrT Tor.aggT Tor.tupT Tor.exT Tor.andT Tor.eP Tor.boxO Tor.sliO Tor.slV Tor.VT.le Tor.Ret Tor.anyT
set_option maxHeartbeats 4000000 in
set_option maxRecDepth 20000 in
theorem DivMod_ok (a b : Int) (hb : b ≠ 0) (ha : small a) (hbs : small b) : Ok Try.prog 75 [bigT a, bigT b] (tupT [bigT (a / b), bigT (a % b), one (.int .i64 0)]) := by
  obtain ⟨g1, g2, g3⟩ := dm_spec (a := a) hb
  have hb0 : (digs b.natAbs).length ≠ 0 := fun h => hb (by have := digs_nil h; omega)
  have hB : b.natAbs ≠ 0 := by omega
  have hdiv := divide_ok a.natAbs b.natAbs hB ha
  have ha' : (digs a.natAbs).length ≤ 1099511627776 := ha
  have hb' : (digs b.natAbs).length ≤ 1099511627776 := hbs
  have hlt := Nat.mod_lt a.natAbs (Nat.pos_of_ne_zero hB)
  have hr0 : (digs (a.natAbs % b.natAbs)).length = 0 ↔ a.natAbs % b.natAbs = 0 := ⟨digs_nil, fun h => by rw [h]; rfl⟩
  have hql : (digs (a.natAbs / b.natAbs)).length ≤ 1099511627776 := Nat.le_trans (digs_len_le' (Nat.div_le_self _ _)) ha'
  have hmin := minus_ok b.natAbs (a.natAbs % b.natAbs) (Nat.le_of_lt hlt) hb'
  have hplus := plus_ok (a.natAbs / b.natAbs) 1 hql (by rw [digs_one]; decide)
  have hv1 := fun n => value_ok n (a.natAbs / b.natAbs)
  have hv2 := fun n => value_ok n (a.natAbs % b.natAbs)
  have hv3 := fun n => value_ok n (a.natAbs / b.natAbs + 1)
  have hv4 := fun n => value_ok n (b.natAbs - a.natAbs % b.natAbs)
  unfold bigT at *
  refine Ok.enter Try.func75 rfl Try.ntmps75 rfl (fun w O => ?_)
  by_cases hn : a < 0
  · by_cases hr : a.natAbs % b.natAbs = 0
    · have hr1 := hr0.2 hr
      refine J_seq (J_reg ?_)
      refine a_boxS rfl rfl (ltN rfl) (fun b2 => ?_)
      refine a_boxS rfl rfl (ltN rfl) (fun b3 => ?_)
      refine a_alloc (T := 32) rfl (ltN rfl) (fun b4 => ?_)
      refine a_alloc (T := 32) rfl (ltN rfl) (fun b5 => ?_)
      refine st (s_assign rfl) rfl (Run.nil (pj_then (J_seq (J_regd 7 mixed (by kernel_rfl) (by decide) (st (s_fieldAddr rfl) rfl (st (s_loadB 3 rfl rfl rfl) rfl ?_))))))
      refine st (s_callk (trim_ok _) rfl ⟨(natT_digs _), trivial⟩) rfl ?_
      refine st (s_fieldAddr rfl) rfl (st (s_loadB 2 rfl rfl rfl) rfl ?_)
      refine st (s_callk (trim_ok _) rfl ⟨(natT_digs _), trivial⟩) rfl ?_
      refine st (s_assign rfl) rfl (Run.nil (st (s_assign rfl) rfl (Run.nil (pj_then (J_seq (J_seq (J_reg (st (s_move rfl) rfl (st (s_len rfl) rfl ?_)))))))))
      refine st (sF (by omega) (s_eq rfl rfl)) rfl (Run.nil (pj_then (J_cond0 rfl (J_skip (pj_then (J_seq (J_reg (st (s_move rfl) rfl (st (s_move rfl) rfl ?_)))))))))
      refine st (s_callk (hdiv ) rfl ⟨VT.le_refl _, VT.le_refl _, trivial⟩) rfl ?_
      refine st (s_move rfl) rfl (st (s_extract rfl rfl) rfl (st (s_extract rfl rfl) rfl (st (s_assign rfl) rfl (st (s_assign rfl) rfl (Run.nil (pj_then (J_seq (J_reg (st (s_move rfl) rfl ?_)))))))))
      refine st (s_callk (trim_ok _) rfl ⟨VT.le_refl _, trivial⟩) rfl ?_
      refine st (s_assign rfl) rfl (Run.nil (pj_then (J_seq (J_seq (J_reg (st (s_fieldAddr rfl) rfl (st (sT (by assumption) (s_loadB 3 rfl rfl rfl)) rfl (st (s_move rfl) rfl (sg1 rfl rfl (s_move rfl) rfl ?_)))))))))
      refine sg1 rfl rfl (s_len rfl) rfl (sg1 rfl rfl (sF (by omega) (s_gt rfl rfl)) rfl (st (s_pickT rfl rfl) rfl (Run.nil (pj_then (J_cond0 rfl (J_skip (pj_then (J_seq (J_reg ?_)))))))))
      refine st (s_fieldAddr rfl) rfl (st (sT (by assumption) (s_loadB 3 rfl rfl rfl)) rfl (st (s_fieldAddr rfl) rfl (st (s_loadB 2 rfl rfl rfl) rfl (st (s_neB rfl rfl) rfl (st (s_move rfl) rfl ?_)))))
      refine st (s_callk (hv1 _) rfl ⟨VT.le_refl _, VT.le_refl _, trivial⟩) rfl ?_
      refine st (s_move rfl) rfl ?_
      refine st (s_callk (hv2 _) rfl ⟨VT.le_refl _, (natT_digs _), trivial⟩) rfl ?_
      refine a_storeB 1 rfl rfl rfl rfl rfl (leN rfl) rfl (a_storeB 0 rfl rfl rfl rfl rfl (leN rfl) rfl (st (s_assign rfl) rfl (Run.nil (pj_then (J_ret ?_)))))
      refine retc3 Try.results75 (.cellB 1 rfl rfl rfl (bigT_eq (by rw [(g2 hn hr).1]; exact neg_ifT _ _))) (.cellB 0 rfl rfl rfl (bigT_eq (by rw [(g2 hn hr).2, hr]; rfl))) (.tmp rfl (VT.le_refl _))
    · have hr1 : (digs (a.natAbs % b.natAbs)).length ≠ 0 := fun h => hr (hr0.1 h)
      refine J_seq (J_reg ?_)
      refine a_boxS rfl rfl (ltN rfl) (fun b2 => ?_)
      refine a_boxS rfl rfl (ltN rfl) (fun b3 => ?_)
      refine a_alloc (T := 32) rfl (ltN rfl) (fun b4 => ?_)
      refine a_alloc (T := 32) rfl (ltN rfl) (fun b5 => ?_)
      refine st (s_assign rfl) rfl (Run.nil (pj_then (J_seq (J_regd 7 mixed (by kernel_rfl) (by decide) (st (s_fieldAddr rfl) rfl (st (s_loadB 3 rfl rfl rfl) rfl ?_))))))
      refine st (s_callk (trim_ok _) rfl ⟨(natT_digs _), trivial⟩) rfl ?_
      refine st (s_fieldAddr rfl) rfl (st (s_loadB 2 rfl rfl rfl) rfl ?_)
      refine st (s_callk (trim_ok _) rfl ⟨(natT_digs _), trivial⟩) rfl ?_
      refine st (s_assign rfl) rfl (Run.nil (st (s_assign rfl) rfl (Run.nil (pj_then (J_seq (J_seq (J_reg (st (s_move rfl) rfl (st (s_len rfl) rfl ?_)))))))))
      refine st (sF (by omega) (s_eq rfl rfl)) rfl (Run.nil (pj_then (J_cond0 rfl (J_skip (pj_then (J_seq (J_reg (st (s_move rfl) rfl (st (s_move rfl) rfl ?_)))))))))
      refine st (s_callk (hdiv ) rfl ⟨VT.le_refl _, VT.le_refl _, trivial⟩) rfl ?_
      refine st (s_move rfl) rfl (st (s_extract rfl rfl) rfl (st (s_extract rfl rfl) rfl (st (s_assign rfl) rfl (st (s_assign rfl) rfl (Run.nil (pj_then (J_seq (J_reg (st (s_move rfl) rfl ?_)))))))))
      refine st (s_callk (trim_ok _) rfl ⟨VT.le_refl _, trivial⟩) rfl ?_
      refine st (s_assign rfl) rfl (Run.nil (pj_then (J_seq (J_seq (J_reg (st (s_fieldAddr rfl) rfl (st (sT (by assumption) (s_loadB 3 rfl rfl rfl)) rfl (st (s_move rfl) rfl (sg1 rfl rfl (s_move rfl) rfl ?_)))))))))
      refine sg1 rfl rfl (s_len rfl) rfl (sg1 rfl rfl (sT (by omega) (s_gt rfl rfl)) rfl (st (s_pickT rfl rfl) rfl (Run.nil (pj_then (J_cond1 rfl (J_reg (st (s_move rfl) rfl ?_)))))))
      refine st (s_callk (trim_ok _) rfl ⟨VT.le_refl _, trivial⟩) rfl ?_
      refine stS1 rfl rfl rfl rfl ?_
      refine st (s_callk (hplus ) rfl ⟨VT.le_refl _, (one_digs), trivial⟩) rfl ?_
      refine st (s_move rfl) rfl (st (s_move rfl) rfl ?_)
      refine st (s_callk (hmin ) rfl ⟨VT.le_refl _, VT.le_refl _, trivial⟩) rfl ?_
      refine st (s_assign rfl) rfl (st (s_assign rfl) rfl (Run.nil (pj_then (J_seq (J_reg (st (s_fieldAddr rfl) rfl (st (sT (by assumption) (s_loadB 3 rfl rfl rfl)) rfl (st (s_fieldAddr rfl) rfl (st (s_loadB 2 rfl rfl rfl) rfl ?_)))))))))
      refine st (s_neB rfl rfl) rfl (st (s_move rfl) rfl ?_)
      refine st (s_callk (hv3 _) rfl ⟨VT.le_refl _, VT.le_refl _, trivial⟩) rfl ?_
      refine st (s_move rfl) rfl ?_
      refine st (s_callk (hv4 _) rfl ⟨VT.le_refl _, VT.le_refl _, trivial⟩) rfl ?_
      refine a_storeB 1 rfl rfl rfl rfl rfl (leN rfl) rfl (a_storeB 0 rfl rfl rfl rfl rfl (leN rfl) rfl (st (s_assign rfl) rfl (Run.nil (pj_then (J_ret ?_)))))
      refine retc3 Try.results75 (.cellB 1 rfl rfl rfl (bigT_eq (by rw [(g3 hn hr).1]; exact neg_ifT _ _))) (.cellB 0 rfl rfl rfl (bigT_eq (by rw [(g3 hn hr).2]; rfl))) (.tmp rfl (VT.le_refl _))
  · refine J_seq (J_reg ?_)
    refine a_boxS rfl rfl (ltN rfl) (fun b2 => ?_)
    refine a_boxS rfl rfl (ltN rfl) (fun b3 => ?_)
    refine a_alloc (T := 32) rfl (ltN rfl) (fun b4 => ?_)
    refine a_alloc (T := 32) rfl (ltN rfl) (fun b5 => ?_)
    refine st (s_assign rfl) rfl (Run.nil (pj_then (J_seq (J_regd 7 mixed (by kernel_rfl) (by decide) (st (s_fieldAddr rfl) rfl (st (s_loadB 3 rfl rfl rfl) rfl ?_))))))
    refine st (s_callk (trim_ok _) rfl ⟨(natT_digs _), trivial⟩) rfl ?_
    refine st (s_fieldAddr rfl) rfl (st (s_loadB 2 rfl rfl rfl) rfl ?_)
    refine st (s_callk (trim_ok _) rfl ⟨(natT_digs _), trivial⟩) rfl ?_
    refine st (s_assign rfl) rfl (Run.nil (st (s_assign rfl) rfl (Run.nil (pj_then (J_seq (J_seq (J_reg (st (s_move rfl) rfl (st (s_len rfl) rfl ?_)))))))))
    refine st (sF (by omega) (s_eq rfl rfl)) rfl (Run.nil (pj_then (J_cond0 rfl (J_skip (pj_then (J_seq (J_reg (st (s_move rfl) rfl (st (s_move rfl) rfl ?_)))))))))
    refine st (s_callk (hdiv ) rfl ⟨VT.le_refl _, VT.le_refl _, trivial⟩) rfl ?_
    refine st (s_move rfl) rfl (st (s_extract rfl rfl) rfl (st (s_extract rfl rfl) rfl (st (s_assign rfl) rfl (st (s_assign rfl) rfl (Run.nil (pj_then (J_seq (J_reg (st (s_move rfl) rfl ?_)))))))))
    refine st (s_callk (trim_ok _) rfl ⟨VT.le_refl _, trivial⟩) rfl ?_
    refine st (s_assign rfl) rfl (Run.nil (pj_then (J_seq (J_seq (J_reg (st (s_fieldAddr rfl) rfl (st (sF (by assumption) (s_loadB 3 rfl rfl rfl)) rfl (st (s_move rfl) rfl (sg0 rfl rfl rfl rfl ?_)))))))))
    refine sg0 rfl rfl rfl rfl (sg0 rfl rfl rfl rfl (st (s_pickF rfl rfl) rfl (Run.nil (pj_then (J_cond0 rfl (J_skip (pj_then (J_seq (J_reg ?_)))))))))
    refine st (s_fieldAddr rfl) rfl (st (sF (by assumption) (s_loadB 3 rfl rfl rfl)) rfl (st (s_fieldAddr rfl) rfl (st (s_loadB 2 rfl rfl rfl) rfl (st (s_neB rfl rfl) rfl (st (s_move rfl) rfl ?_)))))
    refine st (s_callk (hv1 _) rfl ⟨VT.le_refl _, VT.le_refl _, trivial⟩) rfl ?_
    refine st (s_move rfl) rfl ?_
    refine st (s_callk (hv2 _) rfl ⟨VT.le_refl _, (natT_digs _), trivial⟩) rfl ?_
    refine a_storeB 1 rfl rfl rfl rfl rfl (leN rfl) rfl (a_storeB 0 rfl rfl rfl rfl rfl (leN rfl) rfl (st (s_assign rfl) rfl (Run.nil (pj_then (J_ret ?_)))))
    refine retc3 Try.results75 (.cellB 1 rfl rfl rfl (bigT_eq (by rw [(g1 (by omega)).1]; exact neg_ifF _ _))) (.cellB 0 rfl rfl rfl (bigT_eq (by rw [(g1 (by omega)).2]; rfl))) (.tmp rfl (VT.le_refl _))
end Tor
end
section
namespace Tor
open Go Go.RowKit Go.Proofs
theorem mul64 {a b : Nat} (ha : a < 4294967296) (hb : b < 4294967296) : a * b < 18446744073709551616 := by
  have := mul_lim ha hb (c := 0) (d := 0) (by decide) (by decide); omega
structure PowR (p v : Nat) (s : Nat × Nat × Nat) : Prop where
  r : s.1 < p
  a : s.2.1 < p
  e : s.2.2 < 18446744073709551616
  v : s.1 * s.2.1 ^ s.2.2 % p = v
theorem pow_half (a e p : Nat) : a ^ e % p = ((a * a % p) ^ (e / 2) * (if e % 2 = 1 then a else 1)) % p := by
  have h1 : a ^ e = (a * a) ^ (e / 2) * (if e % 2 = 1 then a else 1) := by
    have he := Nat.div_add_mod e 2
    conv => lhs; rw [← he]
    rw [Nat.pow_add, Nat.pow_mul, Nat.pow_two]
    rcases Nat.mod_two_eq_zero_or_one e with h | h <;> simp [h]
  rw [h1, Nat.mul_mod, Nat.pow_mod, ← Nat.mul_mod]
theorem PowR.start {p a e : Nat} (hp : 0 < p) (ha : a < p) (he : e < 18446744073709551616) : PowR p (a ^ e % p) (1 % p, a, e) :=
  ⟨Nat.mod_lt _ hp, ha, he, by show 1 % p * a ^ e % p = _; rw [Nat.mod_mul_mod, Nat.one_mul]⟩
theorem PowR.odd {p v r a e : Nat} (h : PowR p v (r, a, e)) (h1 : e % 2 = 1) : PowR p v (r * a % p, a * a % p, e / 2) := by
  have hp : 0 < p := Nat.lt_of_le_of_lt (Nat.zero_le _) h.r
  have he : e < 18446744073709551616 := h.e
  refine ⟨Nat.mod_lt _ hp, Nat.mod_lt _ hp, by show e / 2 < _; omega, ?_⟩
  have hv : r * a ^ e % p = v := h.v
  show r * a % p * (a * a % p) ^ (e / 2) % p = v
  have hR : r * a ^ e % p = r * ((a * a % p) ^ (e / 2) * a) % p := by rw [Nat.mul_mod, pow_half a e p, if_pos h1, ← Nat.mul_mod]
  rw [← hv, hR, Nat.mod_mul_mod, Nat.mul_assoc, Nat.mul_comm a]
theorem PowR.even {p v r a e : Nat} (h : PowR p v (r, a, e)) (h1 : ¬ e % 2 = 1) : PowR p v (r, a * a % p, e / 2) := by
  have hp : 0 < p := Nat.lt_of_le_of_lt (Nat.zero_le _) h.r
  have he : e < 18446744073709551616 := h.e
  refine ⟨h.r, Nat.mod_lt _ hp, by show e / 2 < _; omega, ?_⟩
  have hv : r * a ^ e % p = v := h.v
  show r * (a * a % p) ^ (e / 2) % p = v
  rw [← hv, Nat.mul_mod r (a ^ e), pow_half a e p, if_neg h1, Nat.mul_one, ← Nat.mul_mod]
theorem PowR.done {p v r a : Nat} (h : PowR p v (r, a, 0)) : r = v := by
  have hv : r * a ^ 0 % p = v := h.v
  rw [Nat.pow_zero, Nat.mul_one, Nat.mod_eq_of_lt h.r] at hv; exact hv
attribute [local irreducible] Tor.J Tor.PJ Tor.StepO Tor.one Tor.slT Tor.ptrT Tor.aggT Tor.tupT Tor.exT Tor.andT Tor.eP Tor.boxO Tor.sliO Tor.slV Tor.VT.le Tor.Ret Tor.anyT
set_option maxHeartbeats 1000000 in
theorem rem_ok (x p : Nat) (hx : x < 18446744073709551616) (hp0 : 0 < p) (hp : p < 18446744073709551616) : Ok Try.prog 110 [one (.int .u64 x), one (.int .u64 p)] (one (.int .u64 ((x % p : Nat) : Int))) := by
  refine Ok.enter Try.func110 rfl Try.ntmps110 rfl (fun w O => ?_)
  refine J_seq (J_reg (st (s_assign rfl) rfl (Run.nil (pj_then (J_seq (J_seq (J_reg (st (s_move rfl) rfl (st (sF (by omega) (s_eq rfl rfl)) rfl ?_)))))))))
  refine Run.nil (pj_then (J_cond0 rfl (J_skip (pj_then (J_seq (J_reg (st (s_move rfl) rfl (st (s_move rfl) rfl (st (s_remN _ rfl rfl rfl (by omega)) rfl ?_)))))))))
  refine st (s_assign rfl) rfl (Run.nil (pj_then (J_ret ?_)))
  refine retc1 Try.results110 (.tmp rfl (VT.le_refl _))
set_option maxHeartbeats 1000000 in
theorem mMul_ok (p a b : Nat) (hp0 : 0 < p) (hp : p < 4294967296) (ha : a < 4294967296) (hb : b < 4294967296) : Ok Try.prog 108 [one (.int .u64 p), one (.int .u64 a), one (.int .u64 b)] (one (.int .u64 ((a * b % p : Nat) : Int))) := by
  have h64 := mul64 ha hb
  have hr := rem_ok (a * b) p h64 hp0 (by omega)
  refine Ok.enter Try.func108 rfl Try.ntmps108 rfl (fun w O => ?_)
  refine J_seq (J_reg (st (s_assign rfl) rfl (Run.nil (pj_then (J_seq (J_reg (st (s_move rfl) rfl (st (s_move rfl) rfl (st (s_mulU rfl rfl (by omega)) rfl ?_)))))))))
  refine st (s_move rfl) rfl ?_
  refine st (s_callk (hr ) rfl ⟨VT.le_refl _, VT.le_refl _, trivial⟩) rfl ?_
  refine st (s_assign rfl) rfl (Run.nil (pj_then (J_ret ?_)))
  refine retc1 Try.results108 (.tmp rfl (VT.le_refl _))
set_option maxHeartbeats 1000000 in
theorem mPow_ok (p a e : Nat) (hp : p < 4294967296) (ha : a < p) (he : e < 18446744073709551616) : Ok Try.prog 107 [one (.int .u64 p), one (.int .u64 a), one (.int .u64 e)] (one (.int .u64 ((a ^ e % p : Nat) : Int))) := by
  have hp0 : 0 < p := by omega
  have hr := rem_ok 1 p (by decide) hp0 (by omega)
  refine Ok.enter Try.func107 rfl Try.ntmps107 rfl (fun w O => ?_)
  refine J_seq (J_reg (st (s_assign rfl) rfl (Run.nil (pj_then (J_seq (J_reg (st (s_move rfl) rfl ?_)))))))
  refine st (s_callk (hr ) rfl ⟨VT.le_refl _, VT.le_refl _, trivial⟩) rfl ?_
  refine st (s_assign rfl) rfl (Run.nil (pj_then (J_seq (J_block (J_sub (Γ' := [(0, _), (1, _), (2, _), (6, _), (7, _)]) (SubG.cons rfl (VT.le_refl _) (SubG.cons rfl (VT.le_refl _) (SubG.cons rfl (VT.le_refl _) (SubG.cons rfl (VT.le_refl _) (SubG.cons rfl (VT.le_refl _) (SubG.nil)))))) (SubM.refl _) ?_)))))
  refine J_loopA (σ := Nat × Nat × Nat) (Γk := [(0, _), (6, _)]) (SubG.cons rfl (VT.le_refl _) (SubG.cons rfl (VT.le_refl _) (SubG.nil))) (fun s => [(7, one (.int .u64 (s.1 : Nat))), (1, one (.int .u64 (s.2.1 : Nat))), (2, one (.int .u64 (s.2.2 : Nat)))]) (fun s M0 => M0) (fun s => PowR p (a ^ e % p) s) (fun s => s.2.2) ((1 % p, a, e)) (PowR.start hp0 ha he) (by repeat (first | exact SubG.refl _ | exact SubG.nil | refine SubG.cons rfl (VT.le_refl _) ?_ | (refine SubG.cons rfl (one_le ?_) ?_; (congr 1; first | omega | (simp; omega) | simp)))) (.nil) (fun s hs => ?_)
  refine J_norm (Γ' := [(7, _), (1, _), (2, _), (0, _), (6, _)]) (M' := []) rfl rfl ?_
  obtain ⟨r, b, f⟩ := s
  dsimp only at hs ⊢
  have h1 : r < p := hs.r
  have h2 : b < p := hs.a
  have h3 : f < 18446744073709551616 := hs.e
  by_cases hf : f = 0
  · subst hf
    have := hs.done
    subst this
    refine J_seq (J_seq (J_reg (st (s_move rfl) rfl (st (sF (by omega) (s_gt rfl rfl)) rfl (Run.nil (pj_then (J_cond0 rfl (J_exit (px_then ?_)))))))))
    refine px_then (px_block (pj_then (J_seq (J_reg (st (s_move rfl) rfl (st (s_assign rfl) rfl (Run.nil (pj_then (J_ret ?_)))))))))
    refine retc1 Try.results107 (.tmp rfl (VT.le_refl _))
  · by_cases ho : f % 2 = 1
    · have hst := hs.odd ho
      refine J_seq (J_seq (J_reg (st (s_move rfl) rfl (st (sT (by omega) (s_gt rfl rfl)) rfl (Run.nil (pj_then (J_cond1 rfl (J_skip (pj_then ?_)))))))))
      refine J_seq (J_block (J_seq (J_seq (J_reg (st (s_move rfl) rfl (st (s_and1 rfl (by omega)) rfl (st (sT (by omega) (s_eq rfl rfl)) rfl (Run.nil (pj_then ?_)))))))))
      refine J_cond1 rfl (J_reg (st (s_move rfl) rfl (st (s_move rfl) rfl (st (s_move rfl) rfl ?_))))
      refine st (s_callk (mMul_ok _ _ _ (by assumption) (by assumption) (by omega) (by omega)) rfl ⟨VT.le_refl _, VT.le_refl _, VT.le_refl _, trivial⟩) rfl ?_
      refine st (s_assign rfl) rfl (Run.nil (pj_then (J_reg (st (s_move rfl) rfl (st (s_move rfl) rfl (st (s_move rfl) rfl ?_))))))
      refine st (s_callk (mMul_ok _ _ _ (by assumption) (by assumption) (by omega) (by omega)) rfl ⟨VT.le_refl _, VT.le_refl _, VT.le_refl _, trivial⟩) rfl ?_
      refine st (s_assign rfl) rfl (Run.nil (pn_block (pj_then (J_reg (st (s_move rfl) rfl (st (s_shrU (s := 1) rfl rfl (by decide)) rfl (st (s_assign rfl) rfl (Run.nil ?_))))))))
      refine pj_roundM ((r * b % p, b * b % p, f / 2)) (hst) (by (simp only []; omega)) (by repeat (first | exact SubG.refl _ | exact SubG.nil | refine SubG.cons rfl (VT.le_refl _) ?_ | (refine SubG.cons rfl (one_le ?_) ?_; (congr 1; first | omega | (simp; omega) | simp)))) (.nil)
    · have hst := hs.even ho
      refine J_seq (J_seq (J_reg (st (s_move rfl) rfl (st (sT (by omega) (s_gt rfl rfl)) rfl (Run.nil (pj_then (J_cond1 rfl (J_skip (pj_then ?_)))))))))
      refine J_seq (J_block (J_seq (J_seq (J_reg (st (s_move rfl) rfl (st (s_and1 rfl (by omega)) rfl (st (sF (by omega) (s_eq rfl rfl)) rfl (Run.nil (pj_then ?_)))))))))
      refine J_cond0 rfl (J_skip (pj_then (J_reg (st (s_move rfl) rfl (st (s_move rfl) rfl (st (s_move rfl) rfl ?_))))))
      refine st (s_callk (mMul_ok _ _ _ (by assumption) (by assumption) (by omega) (by omega)) rfl ⟨VT.le_refl _, VT.le_refl _, VT.le_refl _, trivial⟩) rfl ?_
      refine st (s_assign rfl) rfl (Run.nil (pn_block (pj_then (J_reg (st (s_move rfl) rfl (st (s_shrU (s := 1) rfl rfl (by decide)) rfl (st (s_assign rfl) rfl (Run.nil ?_))))))))
      refine pj_roundM ((r, b * b % p, f / 2)) (hst) (by (simp only []; omega)) (by repeat (first | exact SubG.refl _ | exact SubG.nil | refine SubG.cons rfl (VT.le_refl _) ?_ | (refine SubG.cons rfl (one_le ?_) ?_; (congr 1; first | omega | (simp; omega) | simp)))) (.nil)
end Tor
end
section
namespace Tor
open Go Go.RowKit Go.Proofs
def stripF : Nat → Nat → Nat → Nat × Nat
  | 0, o, t => (o, t)
  | f + 1, o, t => if o % 2 = 0 then stripF f (o / 2) (t + 1) else (o, t)
def sqrF (n : Nat) : Nat → Nat → Bool
  | 0, _ => false
  | c + 1, x => if x * x % n = n - 1 then true else sqrF n c (x * x % n)
def strongB (n : Nat) (O T b : Nat) : Bool := decide (b ^ O % n = 1) || decide (b ^ O % n = n - 1) || sqrF n (T - 1) (b ^ O % n)
def baseN (j : Nat) : Nat := [2, 3, 5, 7].getD j 0
def testF (n O T : Nat) : Nat → Nat → Bool
  | 0, _ => true
  | c + 1, j => if n = baseN j then true else strongB n O T (baseN j) && testF n O T c (j + 1)
def primeB (n : Nat) : Bool := if n < 2 ∨ 2147483648 ≤ n then false else if n % 2 = 0 then decide (n = 2) else
  testF n (stripF 32 (n - 1) 0).1 (stripF 32 (n - 1) 0).2 4 0
theorem stripF_odd : ∀ (f o t : Nat), 0 < o → o < 2 ^ f → (stripF f o t).1 % 2 = 1 ∧ 0 < (stripF f o t).1 ∧ (stripF f o t).1 ≤ o ∧ (stripF f o t).2 ≤ t + f
  | 0, o, t, h1, h2 => by simp at h2; omega
  | f + 1, o, t, h1, h2 => by
    rw [stripF]
    split
    · have := stripF_odd f (o / 2) (t + 1) (by omega) (by rw [Nat.pow_succ] at h2; omega)
      omega
    · simp only; omega
theorem baseN_le (j : Nat) : baseN j ≤ 7 ∧ (j < 4 → 2 ≤ baseN j) := by
  unfold baseN
  match j with
  | 0 => decide
  | 1 => decide
  | 2 => decide
  | 3 => decide
  | j + 4 => simp
structure BasR (n : Nat) (O T i : Nat) : Prop where
  le : i ≤ 4
  ne : ∀ j, j < i → n ≠ baseN j
  eq : testF n O T 4 0 = testF n O T (4 - i) i
theorem BasR.next {n O T i : Nat} (h : BasR n O T i) (hi : i < 4) (hn : n ≠ baseN i) (hs : strongB n O T (baseN i) = true) : BasR n O T (i + 1) := by
  refine ⟨hi, fun j hj => ?_, ?_⟩
  · rcases Nat.lt_or_eq_of_le (Nat.lt_succ_iff.1 hj) with h' | h'
    · exact h.ne j h'
    · rw [h']; exact hn
  · rw [h.eq, show 4 - i = (4 - (i + 1)) + 1 by omega, testF, if_neg hn, hs]; rfl
theorem BasR.hit {n O T i : Nat} (h : BasR n O T i) (hi : i < 4) (hn : n = baseN i) : testF n O T 4 0 = true := by
  rw [h.eq, show 4 - i = (4 - (i + 1)) + 1 by omega, testF, if_pos hn]
theorem BasR.miss {n O T i : Nat} (h : BasR n O T i) (hi : i < 4) (hn : n ≠ baseN i) (hs : strongB n O T (baseN i) = false) : testF n O T 4 0 = false := by
  rw [h.eq, show 4 - i = (4 - (i + 1)) + 1 by omega, testF, if_neg hn, hs]; rfl
theorem BasR.end {n O T : Nat} (h : BasR n O T 4) : testF n O T 4 0 = true := by rw [h.eq]; rfl
theorem BasR.lt {n O T i : Nat} (h : BasR n O T i) (hi : i < 4) (hn : n ≠ baseN i) (h2 : 2 < n) (ho : n % 2 = 1) : baseN i < n := by
  have h0 := h.ne
  match i, hi with
  | 0, _ => show 2 < n; omega
  | 1, _ => have : n ≠ 3 := hn; show 3 < n; omega
  | 2, _ => have : n ≠ 5 := hn; have : n ≠ 3 := h0 1 (by omega); show 5 < n; omega
  | 3, _ => have : n ≠ 7 := hn; have : n ≠ 3 := h0 1 (by omega); have : n ≠ 5 := h0 2 (by omega); show 7 < n; omega
attribute [local irreducible] Tor.J Tor.PJ Tor.StepO Tor.one Tor.slT Tor.ptrT Tor.aggT Tor.tupT Tor.exT Tor.andT Tor.eP Tor.boxO Tor.sliO Tor.slV Tor.VT.le Tor.Ret Tor.anyT
set_option maxHeartbeats 4000000 in
set_option maxRecDepth 20000 in
theorem mPrime_ok (n : Nat) (hn64 : n < 18446744073709551616) : Ok Try.prog 93 [one (.int .u64 n)] (one (.bool (primeB n))) := by
  refine Ok.enter Try.func93 rfl Try.ntmps93 rfl (fun w O => ?_)
  unfold primeB
  by_cases h1 : n < 2
  · rw [if_pos (.inl h1)]
    refine J_seq (J_reg (st (s_assign rfl) rfl (Run.nil (pj_then (J_scope (J_seq (J_seq (J_reg (st (s_move rfl) rfl ?_)))))))))
    refine st (sT (by omega) (s_lt rfl rfl)) rfl (st (s_move rfl) rfl (sg0 rfl rfl rfl rfl (sg0 rfl rfl rfl rfl (st (s_pickT rfl rfl) rfl (Run.nil (pj_then (J_cond1 rfl (J_seq (J_reg ?_)))))))))
    refine st (s_assign rfl) rfl (Run.nil (pj_then (J_ret (pr_then (pr_scope ?_)))))
    refine retc1 Try.results93 (.tmp rfl (VT.le_refl _))
  · by_cases h2 : 2147483648 ≤ n
    · rw [if_pos (.inr h2)]
      refine J_seq (J_reg (st (s_assign rfl) rfl (Run.nil (pj_then (J_scope (J_seq (J_seq (J_reg (st (s_move rfl) rfl ?_)))))))))
      refine st (sF (by omega) (s_lt rfl rfl)) rfl (st (s_move rfl) rfl (sg1 rfl rfl (s_move rfl) rfl (sg1 rfl rfl (sT (by omega) (s_ge rfl rfl)) rfl (st (s_pickF rfl rfl) rfl (Run.nil (pj_then (J_cond1 rfl (J_seq (J_reg ?_)))))))))
      refine st (s_assign rfl) rfl (Run.nil (pj_then (J_ret (pr_then (pr_scope ?_)))))
      refine retc1 Try.results93 (.tmp rfl (VT.le_refl _))
    · rw [if_neg (by omega)]
      by_cases h3 : n % 2 = 0
      · rw [if_pos h3]
        refine J_seq (J_reg (st (s_assign rfl) rfl (Run.nil (pj_then (J_scope (J_seq (J_seq (J_reg (st (s_move rfl) rfl ?_)))))))))
        refine st (sF (by omega) (s_lt rfl rfl)) rfl (st (s_move rfl) rfl (sg1 rfl rfl (s_move rfl) rfl (sg1 rfl rfl (sF (by omega) (s_ge rfl rfl)) rfl (st (s_pickF rfl rfl) rfl (Run.nil (pj_then (J_cond0 rfl (J_skip (pj_then ?_)))))))))
        refine J_seq (J_seq (J_reg (st (s_move rfl) rfl (st (s_remN 2 rfl rfl rfl (by decide)) rfl (st (sT (by omega) (s_eq rfl rfl)) rfl (Run.nil (pj_then (J_cond1 rfl (J_seq ?_)))))))))
        refine J_reg (st (s_move rfl) rfl (st (s_eq rfl rfl) rfl (st (s_assign rfl) rfl (Run.nil (pj_then (J_ret (pr_then (pr_scope ?_))))))))
        refine retc1 Try.results93 (.tmp rfl (one_le (by congr 1; rw [decide_eq_decide]; omega)))
      · rw [if_neg h3]
        obtain ⟨s1, s2, s3, s4⟩ := stripF_odd 32 (n - 1) 0 (by omega) (by omega)
        have hST : stripF 32 (n - 1) 0 = ((stripF 32 (n - 1) 0).1, (stripF 32 (n - 1) 0).2) := rfl
        generalize (stripF 32 (n - 1) 0).1 = OO at *
        generalize (stripF 32 (n - 1) 0).2 = TT at *
        have hn1 : 1 ≤ n := by omega
        refine J_seq (J_reg (st (s_assign rfl) rfl (Run.nil (pj_then (J_scope (J_seq (J_seq (J_reg (st (s_move rfl) rfl ?_)))))))))
        refine st (sF (by omega) (s_lt rfl rfl)) rfl (st (s_move rfl) rfl (sg1 rfl rfl (s_move rfl) rfl (sg1 rfl rfl (sF (by omega) (s_ge rfl rfl)) rfl (st (s_pickF rfl rfl) rfl (Run.nil (pj_then (J_cond0 rfl (J_skip (pj_then ?_)))))))))
        refine J_seq (J_seq (J_reg (st (s_move rfl) rfl (st (s_remN 2 rfl rfl rfl (by decide)) rfl (st (sF (by omega) (s_eq rfl rfl)) rfl (Run.nil (pj_then (J_cond0 rfl (J_skip ?_)))))))))
        refine pj_then (J_seq (J_reg (st (s_move rfl) rfl (st (s_subC 1 rfl rfl (by omega) (by omega)) rfl (st (s_assign rfl) rfl (st (s_assign rfl) rfl (Run.nil (pj_then (J_seq ?_)))))))))
        refine J_block (J_sub (Γ' := [(0, _), (2, _), (3, _), (4, _)]) (SubG.cons rfl (VT.le_refl _) (SubG.cons rfl (VT.le_refl _) (SubG.cons rfl (VT.le_refl _) (SubG.cons rfl (VT.le_refl _) (SubG.nil))))) (SubM.refl _) ?_)
        refine J_loopA (σ := Nat × Nat × Nat) (Γk := [(0, _), (2, _)]) (SubG.cons rfl (VT.le_refl _) (SubG.cons rfl (VT.le_refl _) (SubG.nil))) (fun p => [(3, one (.int .u64 (p.1 : Nat))), (4, one (.int .i64 (p.2.1 : Nat)))]) (fun p M0 => M0) (fun p => stripF p.2.2 p.1 p.2.1 = (OO, TT) ∧ 0 < p.1 ∧ p.1 < 2 ^ p.2.2 ∧ p.2.1 + p.2.2 = 32) (fun p => p.1) ((n - 1, 0, 32)) (⟨hST, (by omega : 0 < n - 1), (by omega : n - 1 < 2 ^ 32), rfl⟩) (by repeat (first | exact SubG.refl _ | exact SubG.nil | refine SubG.cons rfl (VT.le_refl _) ?_ | (refine SubG.cons rfl (one_le ?_) ?_; (congr 1; first | omega | (simp; omega) | simp)))) (.nil) (fun p hp => ?_)
        refine J_norm (Γ' := [(3, _), (4, _), (0, _), (2, _)]) (M' := []) rfl rfl ?_
        obtain ⟨o, t, f⟩ := p
        dsimp only at hp ⊢
        obtain ⟨p1, p2, p3, p4⟩ := hp
        have ho31 : o < 4294967296 := Nat.lt_of_lt_of_le p3 (Nat.pow_le_pow_right (n := 2) (by decide) (show f ≤ 32 by omega))
        by_cases ho : o % 2 = 0
        · have hf0 : f ≠ 0 := fun h => by rw [h] at p3; simp at p3; omega
          obtain ⟨g, rfl⟩ : ∃ g, f = g + 1 := ⟨f - 1, by omega⟩
          rw [stripF, if_pos ho] at p1
          have p5 : o / 2 < 2 ^ g := by rw [Nat.pow_succ] at p3; omega
          refine J_seq (J_seq (J_reg (st (s_move rfl) rfl (st (s_remN 2 rfl rfl rfl (by decide)) rfl (st (sT (by omega) (s_eq rfl rfl)) rfl (Run.nil (pj_then (J_cond1 rfl (J_skip ?_)))))))))
          refine pj_then (J_block (J_seq (J_reg (st (s_move rfl) rfl (st (s_quoU rfl rfl (by omega) (by decide)) rfl (st (s_assign rfl) rfl (Run.nil (pj_then (J_reg ?_)))))))))
          refine st (s_move rfl) rfl (st (s_addN _ 1 rfl rfl (by omega)) rfl (st (s_assign rfl) rfl (Run.nil (pn_block ?_))))
          refine pj_roundM ((o / 2, t + 1, g)) (⟨p1, (by omega : 0 < o / 2), p5, (by omega : t + 1 + g = 32)⟩) (by omega) (by repeat (first | exact SubG.refl _ | exact SubG.nil | refine SubG.cons rfl (VT.le_refl _) ?_ | (refine SubG.cons rfl (one_le ?_) ?_; (congr 1; first | omega | (simp; omega) | simp)))) (.nil)
        · have e2 : stripF f o t = (o, t) := by cases f <;> simp [stripF, ho]
          rw [e2] at p1
          obtain ⟨rfl, rfl⟩ := Prod.mk.inj p1
          refine J_seq (J_seq (J_reg (st (s_move rfl) rfl (st (s_remN 2 rfl rfl rfl (by decide)) rfl (st (sF (by omega) (s_eq rfl rfl)) rfl (Run.nil (pj_then (J_cond0 rfl (J_exit ?_)))))))))
          refine px_then (px_then (px_block (pj_then (J_seq (J_label (pj_then (J_seq (J_seq (J_reg ?_)))))))))
          refine stB rfl rfl rfl (BuildK.cons rfl rfl rfl (BuildK.cons rfl rfl rfl (BuildK.cons rfl rfl rfl (BuildK.cons rfl rfl rfl (BuildK.nil (st (s_move rfl) rfl (Run.nil (pj_then (J_block ?_)))))))))
          refine J_sub (Γ' := [(0, _), (2, _), (3, _), (4, _), (28, _), (29, _)]) (SubG.cons rfl (VT.le_refl _) (SubG.cons rfl (VT.le_refl _) (SubG.cons rfl (VT.le_refl _) (SubG.cons rfl (VT.le_refl _) (SubG.cons rfl (VT.le_refl _) (SubG.cons rfl (VT.le_refl _) (SubG.nil))))))) (SubM.refl _) ?_
          refine J_loopA (σ := Nat) (Γk := [(0, _), (3, _), (4, _), (28, _)]) (SubG.cons rfl (VT.le_refl _) (SubG.cons rfl (VT.le_refl _) (SubG.cons rfl (VT.le_refl _) (SubG.cons rfl (VT.le_refl _) (SubG.nil))))) (fun i => [(29, one (.int .i64 (i : Nat)))]) (fun i M0 => M0) (fun i => BasR n o t i) (fun i => 4 - i) (0) (⟨by decide, fun j hj => absurd hj (Nat.not_lt_zero j), rfl⟩) (by repeat (first | exact SubG.refl _ | exact SubG.nil | refine SubG.cons rfl (VT.le_refl _) ?_ | (refine SubG.cons rfl (one_le ?_) ?_; (congr 1; first | omega | (simp; omega) | simp)))) (.nil) (fun i hi => ?_)
          refine J_norm (Γ' := [(29, _), (0, _), (3, _), (4, _), (28, _)]) (M' := []) rfl rfl ?_
          have hile := hi.le
          refine J_seq (J_reg (st (s_lt rfl rfl) rfl (Run.nil (pj_then (J_seq ?_)))))
          refine J_if rfl (fun hc => ?_) (fun hc => ?_)
          · have hi4 : i < 4 := by omega
            have hbl := baseN_le i
            refine J_skip (pj_then (J_seq (J_block (J_seq (J_reg ?_)))))
            refine st (s_indexAF (fun j => one (.int .u64 (baseN j : Nat))) rfl rfl hi4 (fun j hj => by rcases (show j = 0 ∨ j = 1 ∨ j = 2 ∨ j = 3 by omega) with rfl | rfl | rfl | rfl <;> rfl)) rfl ?_
            refine st (s_assign rfl) rfl (Run.nil (pj_then (J_seq (J_seq (J_reg (st (s_move rfl) rfl (st (s_move rfl) rfl (st (s_eq rfl rfl) rfl (Run.nil ?_)))))))))
            refine pj_then ?_
            refine J_if rfl (fun hnb => ?_) (fun hnb => ?_)
            · rw [hi.hit hi4 (by omega)]
              refine J_seq (J_reg (st (s_assign rfl) rfl (Run.nil (pj_then (J_ret (pr_then (pr_block (pr_then (pr_then ?_)))))))))
              refine pr_block (pr_then (pr_scope ?_))
              refine retc1 Try.results93 (.tmp rfl (VT.le_refl _))
            · have hnb' : n ≠ baseN i := by omega
              have hlt := hi.lt hi4 hnb' (by omega) (by omega)
              have hpw := mPow_ok n (baseN i) o (by omega) hlt (by omega)
              have hxl : baseN i ^ o % n < n := Nat.mod_lt _ (by omega)
              have hss : strongB n o t (baseN i) = (decide (baseN i ^ o % n = 1) || decide (baseN i ^ o % n = n - 1) || sqrF n (t - 1) (baseN i ^ o % n)) := rfl
              generalize baseN i ^ o % n = x0 at *
              clear p3 p4 ho31 s3 e2 p1 hST
              by_cases c1 : x0 = 1
              · have hst := hi.next hi4 hnb' (by rw [hss, decide_eq_true c1]; rfl)
                refine J_skip (pj_then (J_seq (J_reg (st (s_move rfl) rfl (st (s_move rfl) rfl (st (s_move rfl) rfl ?_))))))
                refine st (s_callk (hpw ) rfl ⟨VT.le_refl _, VT.le_refl _, VT.le_refl _, trivial⟩) rfl ?_
                refine st (s_assign rfl) rfl (Run.nil (pj_then (J_seq (J_seq (J_reg (st (s_move rfl) rfl (st (sT (by omega) (s_eq rfl rfl)) rfl (st (s_move rfl) rfl (sg0 rfl rfl rfl rfl ?_)))))))))
                refine sg0 rfl rfl rfl rfl (sg0 rfl rfl rfl rfl (sg0 rfl rfl rfl rfl (st (s_pickT rfl rfl) rfl (Run.nil (pj_then (J_cond1 rfl (J_exit (px_then (px_block ?_)))))))))
                refine pj_then (J_reg (st (s_addN _ 1 rfl rfl (by omega)) rfl (st (s_move rfl) rfl (Run.nil ?_))))
                refine pj_roundM (i + 1) (hst) (by omega) (by repeat (first | exact SubG.refl _ | exact SubG.nil | refine SubG.cons rfl (VT.le_refl _) ?_ | (refine SubG.cons rfl (one_le ?_) ?_; (congr 1; first | omega | (simp; omega) | simp)))) (.nil)
              · by_cases c2 : x0 = n - 1
                · have hst := hi.next hi4 hnb' (by rw [hss, decide_eq_true c2, Bool.or_true]; rfl)
                  refine J_skip (pj_then (J_seq (J_reg (st (s_move rfl) rfl (st (s_move rfl) rfl (st (s_move rfl) rfl ?_))))))
                  refine st (s_callk (hpw ) rfl ⟨VT.le_refl _, VT.le_refl _, VT.le_refl _, trivial⟩) rfl ?_
                  refine st (s_assign rfl) rfl (Run.nil (pj_then (J_seq (J_seq (J_reg (st (s_move rfl) rfl (st (sF (by omega) (s_eq rfl rfl)) rfl (st (s_move rfl) rfl (sg1 rfl rfl (s_move rfl) rfl ?_)))))))))
                  refine sg1 rfl rfl (s_move rfl) rfl (sg1 rfl rfl (s_subC 1 rfl rfl (by omega) (by omega)) rfl (sg1 rfl rfl (sT (by omega) (s_eq rfl rfl)) rfl (st (s_pickF rfl rfl) rfl (Run.nil (pj_then (J_cond1 rfl (J_exit (px_then (px_block ?_)))))))))
                  refine pj_then (J_reg (st (s_addN _ 1 rfl rfl (by omega)) rfl (st (s_move rfl) rfl (Run.nil ?_))))
                  refine pj_roundM (i + 1) (hst) (by omega) (by repeat (first | exact SubG.refl _ | exact SubG.nil | refine SubG.cons rfl (VT.le_refl _) ?_ | (refine SubG.cons rfl (one_le ?_) ?_; (congr 1; first | omega | (simp; omega) | simp)))) (.nil)
                · rw [decide_eq_false c1, decide_eq_false c2] at hss
                  simp only [Bool.false_or] at hss
                  refine J_skip (pj_then (J_seq (J_reg (st (s_move rfl) rfl (st (s_move rfl) rfl (st (s_move rfl) rfl ?_))))))
                  refine st (s_callk (hpw ) rfl ⟨VT.le_refl _, VT.le_refl _, VT.le_refl _, trivial⟩) rfl ?_
                  refine st (s_assign rfl) rfl (Run.nil (pj_then (J_seq (J_seq (J_reg (st (s_move rfl) rfl (st (sF (by omega) (s_eq rfl rfl)) rfl (st (s_move rfl) rfl (sg1 rfl rfl (s_move rfl) rfl ?_)))))))))
                  refine sg1 rfl rfl (s_move rfl) rfl (sg1 rfl rfl (s_subC 1 rfl rfl (by omega) (by omega)) rfl (sg1 rfl rfl (sF (by omega) (s_eq rfl rfl)) rfl (st (s_pickF rfl rfl) rfl (Run.nil (pj_then (J_cond0 rfl (J_skip (pj_then (J_seq ?_)))))))))
                  refine J_seq (J_reg (st (s_move rfl) rfl (st (s_sub rfl rfl (wrap_i64 (by omega) (by omega))) rfl (st (s_move rfl) rfl (Run.nil (pj_then (J_block (J_sub (Γ' := [(0, _), (3, _), (4, _), (7, _), (28, _), (29, _), (48, _), (49, _)]) (SubG.cons rfl (VT.le_refl _) (SubG.cons rfl (VT.le_refl _) (SubG.cons rfl (VT.le_refl _) (SubG.cons rfl (VT.le_refl _) (SubG.cons rfl (VT.le_refl _) (SubG.cons rfl (VT.le_refl _) (SubG.cons rfl (VT.le_refl _) (SubG.cons rfl (VT.le_refl _) (SubG.nil))))))))) (SubM.refl _) ?_))))))))
                  refine J_loopA (σ := Nat × Nat) (Γk := [(0, _), (3, _), (4, _), (28, _), (29, _), (48, _)]) (SubG.cons rfl (VT.le_refl _) (SubG.cons rfl (VT.le_refl _) (SubG.cons rfl (VT.le_refl _) (SubG.cons rfl (VT.le_refl _) (SubG.cons rfl (VT.le_refl _) (SubG.cons rfl (VT.le_refl _) (SubG.nil))))))) (fun q => [(49, one (.int .i64 (q.1 : Nat))), (7, one (.int .u64 (q.2 : Nat)))]) (fun q M0 => M0) (fun q => q.2 < n ∧ sqrF n (t - 1) x0 = sqrF n (t - 1 - q.1) q.2) (fun q => t - 1 - q.1) ((0, x0)) (⟨hxl, rfl⟩) (by repeat (first | exact SubG.refl _ | exact SubG.nil | refine SubG.cons rfl (VT.le_refl _) ?_ | (refine SubG.cons rfl (one_le ?_) ?_; (congr 1; first | omega | (simp; omega) | simp)))) (.nil) (fun q hq => ?_)
                  refine J_norm (Γ' := [(49, _), (7, _), (0, _), (3, _), (4, _), (28, _), (29, _), (48, _)]) (M' := []) rfl rfl ?_
                  obtain ⟨j, x⟩ := q
                  dsimp only at hq ⊢
                  obtain ⟨q1, q2⟩ := hq
                  by_cases hj : j < t - 1
                  · rw [show t - 1 - j = (t - 1 - (j + 1)) + 1 by omega, sqrF] at q2
                    have hxx : x * x % n < n := Nat.mod_lt _ (by omega)
                    by_cases c3 : x * x % n = n - 1
                    · rw [if_pos c3] at q2
                      have hst := hi.next hi4 hnb' (hss.trans q2)
                      have e3 : ((x * x % n : Nat) : Int) = ((n - 1 : Nat) : Int) := by rw [c3]
                      refine J_seq (J_reg (st (sT (by omega) (s_lt rfl rfl)) rfl (Run.nil (pj_then (J_seq (J_cond1 rfl (J_skip (pj_then (J_seq ?_)))))))))
                      refine J_block (J_seq (J_reg (st (s_move rfl) rfl (st (s_move rfl) rfl (st (s_move rfl) rfl ?_)))))
                      refine st (s_callk (mMul_ok _ _ _ (by assumption) (by omega) (by omega) (by omega)) rfl ⟨VT.le_refl _, VT.le_refl _, VT.le_refl _, trivial⟩) rfl ?_
                      refine st (s_assign rfl) rfl (Run.nil (pj_then (J_seq (J_reg (st (s_move rfl) rfl (st (s_move rfl) rfl (st (s_subC 1 rfl rfl (by omega) (by omega)) rfl (st (sT (by assumption) (s_eq rfl rfl)) rfl (Run.nil ?_)))))))))
                      refine pj_then (J_cond1 rfl (J_exit (px_block_ne rfl (px_then (px_then (px_block_ne rfl (px_then (px_block (pj_then ?_)))))))))
                      refine J_reg (st (s_addN _ 1 rfl rfl (by omega)) rfl (st (s_move rfl) rfl (Run.nil ?_)))
                      refine pj_roundM (i + 1) (hst) (by omega) (by repeat (first | exact SubG.refl _ | exact SubG.nil | refine SubG.cons rfl (VT.le_refl _) ?_ | (refine SubG.cons rfl (one_le ?_) ?_; (congr 1; first | omega | (simp; omega) | simp)))) (.nil)
                    · rw [if_neg c3] at q2
                      refine J_seq (J_reg (st (sT (by omega) (s_lt rfl rfl)) rfl (Run.nil (pj_then (J_seq (J_cond1 rfl (J_skip (pj_then (J_seq ?_)))))))))
                      refine J_block (J_seq (J_reg (st (s_move rfl) rfl (st (s_move rfl) rfl (st (s_move rfl) rfl ?_)))))
                      refine st (s_callk (mMul_ok _ _ _ (by assumption) (by omega) (by omega) (by omega)) rfl ⟨VT.le_refl _, VT.le_refl _, VT.le_refl _, trivial⟩) rfl ?_
                      refine st (s_assign rfl) rfl (Run.nil (pj_then (J_seq (J_reg (st (s_move rfl) rfl (st (s_move rfl) rfl (st (s_subC 1 rfl rfl (by omega) (by omega)) rfl (st (sF (by omega) (s_eq rfl rfl)) rfl (Run.nil ?_)))))))))
                      refine pj_then (J_cond0 rfl (J_skip (pn_block (pj_then (J_reg (st (s_addN _ 1 rfl rfl (by omega)) rfl (st (s_move rfl) rfl (Run.nil ?_))))))))
                      refine pj_roundM ((j + 1, x * x % n)) (⟨hxx, q2⟩) (by omega) (by repeat (first | exact SubG.refl _ | exact SubG.nil | refine SubG.cons rfl (VT.le_refl _) ?_ | (refine SubG.cons rfl (one_le ?_) ?_; (congr 1; first | omega | (simp; omega) | simp)))) (.nil)
                  · have hf : strongB n o t (baseN i) = false := by rw [hss, q2, show t - 1 - j = 0 by omega]; rfl
                    rw [hi.miss hi4 hnb' hf]
                    refine J_seq (J_reg (st (sF (by omega) (s_lt rfl rfl)) rfl (Run.nil (pj_then (J_seq (J_cond0 rfl (J_exit (px_then (px_then ?_)))))))))
                    refine px_block (pj_then (J_seq (J_reg (st (s_assign rfl) rfl (Run.nil (pj_then (J_ret (pr_block (pr_then ?_)))))))))
                    refine pr_then (pr_block (pr_then (pr_scope ?_)))
                    refine retc1 Try.results93 (.tmp rfl (VT.le_refl _))
          · have : i = 4 := by omega
            subst this
            rw [hi.end]
            refine J_exit (px_then (px_then (px_block (pj_then (J_seq (J_reg (st (s_assign rfl) rfl (Run.nil (pj_then ?_)))))))))
            refine J_ret (pr_scope ?_)
            refine retc1 Try.results93 (.tmp rfl (VT.le_refl _))
end Tor
end
section
namespace Tor
def powF : Nat → Nat → Nat → Nat → Nat → Nat
  | 0, _, r, _, _ => r
  | f + 1, p, r, a, e => if e = 0 then r else powF f p (if e % 2 = 1 then r * a % p else r) (a * a % p) (e / 2)
theorem powF_eq : ∀ (f : Nat) {p v r a e : Nat}, e < 2 ^ f → PowR p v (r, a, e) → powF f p r a e = v
  | 0, p, v, r, a, e, h, hR => by
    have : e = 0 := by simpa using h
    subst this; exact hR.done
  | f + 1, p, v, r, a, e, h, hR => by
    rw [powF]
    by_cases h0 : e = 0
    · subst h0; rw [if_pos rfl]; exact hR.done
    · rw [if_neg h0]
      have h2 : e / 2 < 2 ^ f := by rw [Nat.pow_succ] at h; omega
      by_cases h1 : e % 2 = 1
      · rw [if_pos h1]; exact powF_eq f h2 (hR.odd h1)
      · rw [if_neg h1]; exact powF_eq f h2 (hR.even h1)
def strongF (n O T b : Nat) : Bool := decide (powF 64 n (1 % n) b O = 1) || decide (powF 64 n (1 % n) b O = n - 1) || sqrF n (T - 1) (powF 64 n (1 % n) b O)
theorem strong_eq {n O T b : Nat} (hb : b < n) (hO : O < 18446744073709551616) : strongB n O T b = strongF n O T b := by
  have := powF_eq 64 (e := O) hO (PowR.start (p := n) (by omega) hb hO)
  unfold strongB strongF
  rw [this]
def testG (n O T : Nat) : Nat → Nat → Bool
  | 0, _ => true
  | c + 1, j => if n = baseN j then true else strongF n O T (baseN j) && testG n O T c (j + 1)
theorem test_eq {n O T : Nat} (h7 : 7 < n) (hO : O < 18446744073709551616) : ∀ c j, testF n O T c j = testG n O T c j
  | 0, _ => rfl
  | c + 1, j => by
    have hb := (baseN_le j).1
    rw [testF, testG, strong_eq (by omega) hO, test_eq h7 hO c (j + 1)]
def primeF (n : Nat) : Bool := if n < 2 ∨ 2147483648 ≤ n then false else if n % 2 = 0 then decide (n = 2) else
  testG n (stripF 32 (n - 1) 0).1 (stripF 32 (n - 1) 0).2 4 0
theorem prime_eq {n : Nat} (h7 : 7 < n) : primeB n = primeF n := by
  unfold primeB primeF
  by_cases h1 : n < 2 ∨ 2147483648 ≤ n
  · rw [if_pos h1, if_pos h1]
  · rw [if_neg h1, if_neg h1]
    by_cases h2 : n % 2 = 0
    · rw [if_pos h2, if_pos h2]
    · rw [if_neg h2, if_neg h2]
      have := stripF_odd 32 (n - 1) 0 (by omega) (by omega)
      exact test_eq h7 (by omega) 4 0
end Tor
end
section
namespace Tor
open Go Go.RowKit Go.Proofs
def bitsN (v : Nat) : Nat := if v = 0 then 0 else 32 * ((digs v).length - 1) + blen ((digs v).getD ((digs v).length - 1) 0)
attribute [local irreducible] Tor.J Tor.PJ Tor.StepO Tor.one Tor.slT Tor.ptrT Tor.aggT Tor.tupT Tor.exT Tor.andT Tor.eP Tor.boxO Tor.sliO Tor.slV Tor.VT.le Tor.Ret Tor.anyT
end Tor
end
section
namespace Tor
open Go Go.RowKit Go.Proofs
attribute [local irreducible] Tor.J Tor.PJ Tor.StepO Tor.one Tor.slT Tor.ptrT Tor.aggT Tor.tupT Tor.exT Tor.andT Tor.eP Tor.boxO Tor.sliO Tor.slV Tor.VT.le Tor.Ret Tor.anyT
set_option maxHeartbeats 4000000 in
theorem Bits_ok (a : Int) (ha : small a) : Ok Try.prog 42 [bigT a] (one (.int .i64 (bitsN a.natAbs : Nat))) := by
  have ha' : (digs a.natAbs).length ≤ 1099511627776 := ha
  have hx := getD_lt (limbs_digs a.natAbs) ((digs a.natAbs).length - 1)
  have hbl := blen_le (n := 32) (x := (digs a.natAbs).getD ((digs a.natAbs).length - 1) 0) (by omega) (by decide)
  have hL := Len32_ok _ hx
  unfold bigT bitsN
  refine Ok.enter Try.func42 rfl Try.ntmps42 rfl (fun w O => ?_)
  by_cases h0 : a.natAbs = 0
  · have hl : (digs a.natAbs).length = 0 := by rw [h0]; rfl
    rw [if_pos h0]
    refine J_seq (J_reg ?_)
    refine a_boxS rfl rfl (ltN rfl) (fun b1 => ?_)
    refine st (s_assign rfl) rfl (Run.nil (pj_then (J_seq (J_reg (st (s_fieldAddr rfl) rfl (st (s_loadB 0 rfl rfl rfl) rfl ?_))))))
    refine st (s_callk (trim_ok _) rfl ⟨(natT_digs _), trivial⟩) rfl ?_
    refine st (s_assign rfl) rfl (Run.nil (pj_then (J_seq (J_seq (J_reg (st (s_move rfl) rfl (st (s_len rfl) rfl (st (sT (by omega) (s_eq rfl rfl)) rfl (Run.nil ?_)))))))))
    refine pj_then (J_cond1 rfl (J_seq (J_reg (st (s_assign rfl) rfl (Run.nil (pj_then (J_ret (pr_then ?_))))))))
    refine retc1 Try.results42 (.tmp rfl (VT.le_refl _))
  · have hl : (digs a.natAbs).length ≠ 0 := fun h => h0 (digs_nil h)
    rw [if_neg h0]
    refine J_seq (J_reg ?_)
    refine a_boxS rfl rfl (ltN rfl) (fun b1 => ?_)
    refine st (s_assign rfl) rfl (Run.nil (pj_then (J_seq (J_reg (st (s_fieldAddr rfl) rfl (st (s_loadB 0 rfl rfl rfl) rfl ?_))))))
    refine st (s_callk (trim_ok _) rfl ⟨(natT_digs _), trivial⟩) rfl ?_
    refine st (s_assign rfl) rfl (Run.nil (pj_then (J_seq (J_seq (J_reg (st (s_move rfl) rfl (st (s_len rfl) rfl (st (sF (by omega) (s_eq rfl rfl)) rfl (Run.nil ?_)))))))))
    refine pj_then (J_cond0 rfl (J_skip (pj_then (J_seq (J_reg (st (s_move rfl) rfl (st (s_len rfl) rfl (st (s_subN _ 1 rfl rfl (by omega) (by omega)) rfl (st (s_mulN 32 _ rfl rfl (by omega)) rfl ?_)))))))))
    refine st (s_move rfl) rfl (st (s_move rfl) rfl (st (s_len rfl) rfl (st (s_subN _ 1 rfl rfl (by omega) (by omega)) rfl (st (s_indexIN rfl rfl (by omega)) rfl (st (s_load rfl) rfl ?_)))))
    refine st (s_callk (hL ) rfl ⟨VT.le_refl _, trivial⟩) rfl ?_
    refine st (s_addN _ _ rfl rfl (by omega)) rfl (st (s_assign rfl) rfl (Run.nil (pj_then (J_ret ?_))))
    refine retc1 Try.results42 (.tmp rfl (VT.le_refl _))
end Tor
end
section
namespace Tor
theorem amgm (s x : Nat) : (2 * s - x) * x ≤ s * s := by
  rcases Nat.le_total x s with h | h
  · obtain ⟨d, rfl⟩ : ∃ d, s = x + d := ⟨s - x, by omega⟩
    rw [show 2 * (x + d) - x = x + 2 * d by omega, Nat.add_mul, Nat.add_mul, Nat.mul_add, Nat.mul_add, Nat.mul_assoc, Nat.mul_comm d x]
    have := Nat.zero_le (d * d)
    omega
  · rcases Nat.le_total x (2 * s) with h2 | h2
    · obtain ⟨d, rfl⟩ : ∃ d, x = s + d := ⟨x - s, by omega⟩
      obtain ⟨e, rfl⟩ : ∃ e, s = d + e := ⟨s - d, by omega⟩
      rw [show 2 * (d + e) - (d + e + d) = e by omega]
      simp only [Nat.add_mul, Nat.mul_add]
      have := Nat.mul_comm d e
      have := Nat.zero_le (d * d)
      omega
    · rw [show 2 * s - x = 0 by omega, Nat.zero_mul]; exact Nat.zero_le _
theorem newton_ge {a s x : Nat} (h : s * s ≤ a) (hx : 0 < x) : s ≤ (x + a / x) / 2 := by
  rcases Nat.lt_or_ge ((x + a / x) / 2) s with h1 | h1
  · exfalso
    have h2 := Nat.lt_mul_div_succ a hx
    generalize a / x = q at *
    have h3 : q + 1 ≤ 2 * s - x := by omega
    have h4 := amgm s x
    have h5 : x * (q + 1) ≤ (2 * s - x) * x := by rw [Nat.mul_comm]; exact Nat.mul_le_mul_right _ h3
    omega
  · exact h1
theorem newton_le {a x : Nat} (hx : 0 < x) (h : x ≤ (x + a / x) / 2) : x * x ≤ a := by
  have h1 : x ≤ a / x := by
    generalize a / x = q at *; omega
  exact (Nat.le_div_iff_mul_le hx).1 h1
theorem root_uniq {a s x : Nat} (h1 : x * x ≤ a) (h2 : a < (s + 1) * (s + 1)) (h3 : s ≤ x) : x = s := by
  rcases Nat.lt_or_ge s x with h | h
  · have h4 : (s + 1) * (s + 1) ≤ x * x := Nat.mul_le_mul h h
    omega
  · omega
end Tor
end
section
namespace Tor
open Go Go.RowKit Go.Proofs
theorem bits_lt (v : Nat) : v < 2 ^ bitsN v := by
  unfold bitsN
  by_cases h0 : v = 0
  · rw [if_pos h0]; subst h0; decide
  · rw [if_neg h0]
    have hl : (digs v).length ≠ 0 := fun h => h0 (digs_nil h)
    obtain ⟨k, hk⟩ : ∃ k, (digs v).length = k + 1 := ⟨(digs v).length - 1, by omega⟩
    rw [hk, Nat.add_sub_cancel]
    have hL := limbs_digs v
    have h1 := lv_take_succ (l := digs v) (k := k) (by omega)
    rw [List.take_of_length_le (by omega), lv_digs] at h1
    have h2 := lv_take_lt hL k
    have h3 := blen_lt (x := (digs v).getD k 0) (by have := getD_lt hL k; omega)
    generalize blen ((digs v).getD k 0) = n at *
    generalize (digs v).getD k 0 = d at *
    rw [pow32] at h1
    generalize lv ((digs v).take k) = y at *
    rw [Nat.pow_add]
    have h4 : 2 ^ (32 * k) * (d + 1) ≤ 2 ^ (32 * k) * 2 ^ n := Nat.mul_le_mul_left _ h3
    rw [Nat.mul_add, Nat.mul_one] at h4
    omega
theorem start_val (n : Nat) : Limbs ((List.replicate (n / 32 + 1) 0).set (n / 32) (2 ^ (n % 32))) ∧ lv ((List.replicate (n / 32 + 1) 0).set (n / 32) (2 ^ (n % 32))) = 2 ^ n := by
  have h1 : 2 ^ (n % 32) < 4294967296 := Nat.lt_of_le_of_lt (Nat.pow_le_pow_right (n := 2) (by decide) (show n % 32 ≤ 31 by omega)) (by decide)
  refine ⟨(Limbs.replicate _).set h1, ?_⟩
  have hs := lv_set (l := List.replicate (n / 32 + 1) 0) (k := n / 32) (v := 2 ^ (n % 32)) (by simp)
  rw [getD_replicate0, Nat.mul_zero, Nat.add_zero, lv_replicate, Nat.zero_add] at hs
  rw [hs, pow32, ← Nat.pow_add, Nat.div_add_mod]
theorem bits_le {v m : Nat} (h : (digs v).length ≤ m) : bitsN v ≤ 32 * m := by
  unfold bitsN
  by_cases h0 : v = 0
  · rw [if_pos h0]; exact Nat.zero_le _
  · rw [if_neg h0]
    have hl : (digs v).length ≠ 0 := fun h => h0 (digs_nil h)
    have h1 := getD_lt (limbs_digs v) ((digs v).length - 1)
    have h2 := blen_le (n := 32) (x := (digs v).getD ((digs v).length - 1) 0) (by omega) (by decide)
    omega
end Tor
end
section
namespace Tor
open Go Go.RowKit Go.Proofs
theorem s_shl1 {P : Program} {E : Env} {Γ : Ctx} {M : Mem} {d : Option Tmp} {ty : TypeId} {pos : String} {af : Array Edge} {gd : Option (Nat × Bool)} {T T' : TypeId} {x y : Operand} {k' : IntKind} {s : Nat} (hx : evalT Γ x = some (one (.int .u32 1))) (hy : evalT Γ y = some (one (.int k' (s : Int)))) (hs : s < 32) :
    StepO P E Γ M ⟨d, .binOp .shl T x y T', ty, pos, af, gd⟩ (one (.int .u32 ((2 ^ s : Nat) : Int))) :=
  s_shl hx hy (by omega) (by
    have e : min ((s : Int)).toNat IntKind.u32.bits = s := by show min _ 32 = s; omega
    rw [e, wrap_u32]
    have h1 : 2 ^ s < 4294967296 := Nat.lt_of_le_of_lt (Nat.pow_le_pow_right (n := 2) (by decide) (show s ≤ 31 by omega)) (by decide)
    have : ((1 : Int) * 2 ^ s) = ((2 ^ s : Nat) : Int) := by simp
    rw [this]
    generalize 2 ^ s = x at h1 ⊢
    omega)
theorem pw_mono (i j : Nat) (h : i ≤ j) : 2 ^ i ≤ 2 ^ j := Nat.pow_le_pow_right (by decide) h
theorem pw_two (n k : Nat) (h : k = n + 1) : 2 ^ k = 2 ^ n + 2 ^ n := by rw [h, Nat.pow_succ]; omega
theorem start_le (n : Nat) : VT.le (slT .one (n / 32 + 1) (upd (fun _ => one (.int .u32 0)) (n / 32) (one (.int .u32 ((2 ^ (n % 32) : Nat) : Int))))) (natT (2 ^ n)) :=
  VT.le_trans (slT_le' (m := ((List.replicate (n / 32 + 1) 0).set (n / 32) (2 ^ (n % 32))).length) (ψ := limF ((List.replicate (n / 32 + 1) 0).set (n / 32) (2 ^ (n % 32)))) (by simp) (fun q hq => by
    unfold upd limF
    by_cases h : q = n / 32
    · subst h; rw [if_pos rfl]; simp [List.getD]
    · rw [if_neg h]
      simp only [List.getD, List.getElem?_set, if_neg (Ne.symm h), List.getElem?_replicate, if_pos hq]; rfl)) (natT_of (start_val n).1 (start_val n).2)
attribute [local irreducible] Tor.J Tor.PJ Tor.StepO Tor.one Tor.slT Tor.ptrT Tor.aggT Tor.tupT Tor.exT Tor.andT Tor.eP Tor.boxO Tor.sliO Tor.slV Tor.VT.le Tor.Ret Tor.anyT
set_option maxHeartbeats 4000000 in
theorem Root_ok (a s : Nat) (ha : a < 2 ^ 800) (h0 : a ≠ 0) (h1 : s * s ≤ a) (h2 : a < (s + 1) * (s + 1)) : Ok Try.prog 57 [bigT (a : Int)] (tupT [bigT (s : Int), one (.int .i64 0)]) := by
  have hsm : small (a : Int) := small_lt (Nat.lt_trans ha (by decide +kernel))
  have hbi := Bits_ok (a : Int) hsm
  rw [Int.natAbs_natCast] at hbi
  have hbl := bits_lt a
  have hsg : sgnI (a : Int) = 1 := by unfold sgnI; rw [if_neg (by omega), if_neg (by omega)]
  have hsi := SignI_ok (a : Int)
  rw [hsg] at hsi
  have hb8 : bitsN a ≤ 832 := bits_le (v := a) (m := 26) (digs_len_le (Nat.lt_trans ha (by decide +kernel)))
  generalize bitsN a = bn at *
  refine Ok.enter Try.func57 rfl Try.ntmps57 rfl (fun w O => ?_)
  obtain ⟨n, hn⟩ : ∃ n, n = (bn + 1) / 2 := ⟨_, rfl⟩
  have hn2 : a < 2 ^ n * 2 ^ n := by
    rw [← Nat.pow_add]
    exact Nat.lt_of_lt_of_le hbl (Nat.pow_le_pow_right (by decide) (by omega))
  obtain ⟨e5, he5⟩ : ∃ e, e = 500 := ⟨_, rfl⟩
  have hn5 : 2 ^ n < 2 ^ e5 := Nat.pow_lt_pow_right (by decide) (by omega)
  have hsn : s ≤ 2 ^ n := by
    rcases Nat.lt_or_ge (2 ^ n) s with h | h
    · have := Nat.mul_le_mul (Nat.le_of_lt h) (Nat.le_of_lt h); omega
    · exact h
  have hn0 : 0 < 2 ^ n := Nat.two_pow_pos n
  have hv := value_ok false (2 ^ n)
  rw [if_neg (by decide)] at hv
  refine J_seq (J_reg ?_)
  refine a_boxS rfl rfl (ltN rfl) (fun b1 => ?_)
  refine a_alloc (T := 32) rfl (ltN rfl) (fun b2 => ?_)
  refine st (s_assign rfl) rfl (Run.nil (pj_then (J_seq (J_seq (J_reg (st (s_loadW 1 rfl rfl) rfl ?_))))))
  refine st (s_callk (hsi ) rfl ⟨VT.le_refl _, trivial⟩) rfl ?_
  refine Run.nil (pj_then (J_block (J_seq (J_reg (st (sF (by omega) (s_eq rfl rfl)) rfl (st (s_assign rfl) rfl (Run.nil (pj_then (J_cond0 rfl ?_)))))))))
  refine J_seq (J_reg (st (sF (by omega) (s_eq rfl rfl)) rfl (st (s_assign rfl) rfl (Run.nil (pj_then (J_cond0 rfl (J_skip (pn_block (pj_then ?_)))))))))
  refine J_seq (J_reg ?_)
  refine st (s_callk (Of_ok _ (by omega) (by omega)) rfl ⟨VT.le_refl _, trivial⟩) rfl ?_
  refine a_alloc (T := 32) rfl (ltN rfl) (fun b4 => ?_)
  refine a_storeB 0 rfl rfl rfl rfl rfl (leN rfl) rfl (Run.nil (pj_then (J_seq (J_reg (st (s_loadW 2 rfl rfl) rfl ?_)))))
  refine st (s_callk (hbi ) rfl ⟨VT.le_refl _, trivial⟩) rfl ?_
  refine st (s_addN _ 1 rfl rfl (by omega)) rfl (st (s_quoN 2 rfl rfl rfl (by decide) (by omega)) rfl (st (s_assign rfl) rfl (Run.nil (pj_then (J_seq (J_reg (st (s_move rfl) rfl (st (s_quoN 32 rfl rfl rfl (by decide) (by omega)) rfl (st (s_addN _ 1 rfl rfl (by omega)) rfl ?_)))))))))
  rw [← hn]
  refine a_makeSlice (n / 32 + 1) (n / 32 + 1) rfl rfl rfl rfl (Nat.le_refl _) rfl rfl (by omega) rfl rfl (fun bz => ?_)
  refine st (s_assign rfl) rfl (Run.nil (pj_then (J_seq (J_reg (st (s_move rfl) rfl (st (s_move rfl) rfl (st (s_quoN 32 rfl rfl rfl (by decide) (by omega)) rfl (st (s_move rfl) rfl (st (s_remN 32 rfl rfl rfl (by decide)) rfl ?_)))))))))
  refine st (s_shl1 (s := n % 32) rfl rfl (by omega)) rfl (st (s_indexON rfl rfl (by omega)) rfl ?_)
  (refine a_storeE 0 rfl rfl rfl ?_ rfl ?_; omega)
  refine Run.nil (pj_then (J_seq (J_reg (st (s_move rfl) rfl (Run_freeze (t := 38) (j := 0) rfl rfl ?_)))))
  refine st (s_callk (hv ) rfl ⟨VT.le_refl _, (start_le _), trivial⟩) rfl ?_
  refine a_alloc (T := 32) rfl (ltN rfl) (fun b7 => ?_)
  refine a_storeB 0 rfl rfl rfl rfl rfl (leN rfl) rfl (Run.nil (pj_then (J_block (J_sub (Γ' := [(1, _), (2, _), (3, _), (4, _), (7, _)]) (SubG.cons rfl (VT.le_refl _) (SubG.cons rfl (VT.le_refl _) (SubG.cons rfl (VT.le_refl _) (SubG.cons rfl (VT.le_refl _) (SubG.cons rfl (VT.le_refl _) (SubG.nil)))))) (SubM.refl _) ?_))))
  refine J_loopA (σ := Nat) (Γk := [(1, _), (2, _), (4, _), (7, _)]) (SubG.cons rfl (VT.le_refl _) (SubG.cons rfl (VT.le_refl _) (SubG.cons rfl (VT.le_refl _) (SubG.cons rfl (VT.le_refl _) (SubG.nil))))) (fun x => []) (fun x M0 => (M0.set 0 (boxO b7 32 (Lay.agg 2).sz [(0, Lay.agg 2, bigT (x : Int))]))) (fun x => s ≤ x ∧ x < 2 ^ e5) (fun x => x) (2 ^ n) (⟨hsn, hn5⟩) (by repeat (first | exact SubG.refl _ | exact SubG.nil | refine SubG.cons rfl (VT.le_refl _) ?_ | (refine SubG.cons rfl (one_le ?_) ?_; (congr 1; first | omega | (simp; omega) | simp)))) (.keep (Own.le_refl _) (.keep (Own.le_refl _) (.keep (Own.le_refl _) (.keep (Own.le_refl _) (.nil))))) (fun x hx => ?_)
  refine J_norm (Γ' := [(1, _), (2, _), (4, _), (7, _)]) (M' := [_, _, _, _]) rfl rfl ?_
  obtain ⟨g1, g2⟩ := hx
  have g0 : 0 < x := by
    rcases Nat.eq_zero_or_pos s with h | h
    · subst h; omega
    · omega
  have gx : x < 2 ^ 2048 := Nat.lt_of_lt_of_le g2 (pw_mono e5 2048 (by omega))
  have ga : a < 2 ^ 2048 := Nat.lt_of_lt_of_le ha (pw_mono 800 2048 (by decide))
  have hxs : small (x : Int) := small_lt gx
  have hqa : a / x ≤ a := Nat.div_le_self _ _
  have hd := DivMod_ok (a : Int) (x : Int) (by omega) hsm hxs
  rw [← Int.natCast_ediv, ← Int.natCast_emod] at hd
  have hqs : small ((a / x : Nat) : Int) := small_lt (Nat.lt_of_le_of_lt hqa ga)
  have had := AddI_ok (x : Int) ((a / x : Nat) : Int) hxs hqs
  rw [← Int.natCast_add] at had
  have hss : x + a / x < 2 ^ 2048 := by
    have e1 : x < 2 ^ 2047 := Nat.lt_of_lt_of_le g2 (pw_mono e5 2047 (by omega))
    have e2 : a < 2 ^ 2047 := Nat.lt_of_lt_of_le ha (pw_mono 800 2047 (by decide))
    have e3 : 2 ^ 2048 = 2 ^ 2047 + 2 ^ 2047 := pw_two 2047 2048 rfl
    rw [e3]; generalize 2 ^ 2047 = z at *; omega
  have hd2 := DivMod_ok ((x + a / x : Nat) : Int) 2 (by decide) (small_lt hss) (small_lt (by decide +kernel))
  rw [show ((x + a / x : Nat) : Int) / 2 = (((x + a / x) / 2 : Nat) : Int) from (Int.natCast_ediv _ _).symm, show ((x + a / x : Nat) : Int) % 2 = (((x + a / x) % 2 : Nat) : Int) from (Int.natCast_emod _ _).symm] at hd2
  have hcm := CmpI_ok (((x + a / x) / 2 : Nat) : Int) (x : Int)
  have hnx : s ≤ (x + a / x) / 2 := newton_ge h1 g0
  by_cases hy : x ≤ (x + a / x) / 2
  · have hxe : x = s := root_uniq (newton_le g0 hy) h2 g1
    have hc : ¬ cmpI (((x + a / x) / 2 : Nat) : Int) (x : Int) < 0 := by unfold cmpI; split <;> (try split) <;> omega
    refine J_block (J_seq (J_reg (st (s_loadW 3 rfl rfl) rfl (st (s_loadB 0 rfl rfl rfl) rfl ?_))))
    refine st (s_callk (hd ) rfl ⟨VT.le_refl _, VT.le_refl _, trivial⟩) rfl ?_
    refine st (s_move rfl) rfl (st (s_extract rfl rfl) rfl (st (s_extract rfl rfl) rfl (st (s_extract rfl rfl) rfl ?_)))
    refine a_alloc (T := 32) rfl (ltN rfl) (fun b8 => ?_)
    refine a_alloc (T := 32) rfl (ltN rfl) (fun b9 => ?_)
    refine a_storeB 1 rfl rfl rfl rfl rfl (leN rfl) rfl (a_storeB 0 rfl rfl rfl rfl rfl (leN rfl) rfl (st (s_assign rfl) rfl (Run.nil (pj_then (J_seq ?_)))))
    refine J_regU2 mixed (by kernel_rfl) (by kernel_rfl) ?_
    refine ux (fun B => s_loadB 2 rfl rfl rfl) rfl rfl ?_
    refine ux (fun B => s_loadB 1 rfl rfl rfl) rfl rfl ?_
    refine uxk (had ) rfl ⟨VT.le_refl _, VT.le_refl _, trivial⟩ rfl ?_
    refine ux (fun B => s_loadB 3 rfl rfl rfl) rfl rfl ?_
    refine uxk (hd2 ) rfl ⟨VT.le_refl _, VT.le_refl _, trivial⟩ rfl ?_
    refine ux (fun B => s_move rfl) rfl rfl ?_
    refine ux (fun B => s_extract rfl rfl) rfl rfl ?_
    refine ux (fun B => s_extract rfl rfl) rfl rfl ?_
    refine ux (fun B => s_extract rfl rfl) rfl rfl ?_
    refine ua rfl (ua rfl (us rfl (us rfl ?_)))
    refine ux (fun B => s_assign rfl) rfl rfl ?_
    refine RunU.nil (fun γ => ?_)
    refine PJ_normM (M' := [_, _, _, _, _, _, _, _]) rfl (pj_then (J_seq (J_seq (J_reg (st (s_loadB 1 rfl rfl rfl) rfl (st (s_loadB 4 rfl rfl rfl) rfl ?_))))))
    refine st (s_callk (hcm ) rfl ⟨VT.le_refl _, VT.le_refl _, trivial⟩) rfl ?_
    refine st (sT (by omega) (s_ge rfl rfl)) rfl (Run.nil (pj_then (J_cond1 rfl (J_seq (J_reg (st (s_loadB 4 rfl rfl rfl) rfl (a_storeB 6 rfl rfl rfl rfl rfl (leN rfl) rfl (st (s_assign rfl) rfl (Run.nil ?_)))))))))
    refine pj_then (J_ret (pr_then (pr_block (pr_then (pr_block ?_)))))
    refine retc2 Try.results57 (.cellB 6 rfl rfl rfl (bigT_eq (by rw [hxe]))) (.tmp rfl (VT.le_refl _))
  · have hc : cmpI (((x + a / x) / 2 : Nat) : Int) (x : Int) < 0 := by unfold cmpI; rw [if_pos (by omega)]; decide
    refine J_block (J_seq (J_reg (st (s_loadW 3 rfl rfl) rfl (st (s_loadB 0 rfl rfl rfl) rfl ?_))))
    refine st (s_callk (hd ) rfl ⟨VT.le_refl _, VT.le_refl _, trivial⟩) rfl ?_
    refine st (s_move rfl) rfl (st (s_extract rfl rfl) rfl (st (s_extract rfl rfl) rfl (st (s_extract rfl rfl) rfl ?_)))
    refine a_alloc (T := 32) rfl (ltN rfl) (fun b8 => ?_)
    refine a_alloc (T := 32) rfl (ltN rfl) (fun b9 => ?_)
    refine a_storeB 1 rfl rfl rfl rfl rfl (leN rfl) rfl (a_storeB 0 rfl rfl rfl rfl rfl (leN rfl) rfl (st (s_assign rfl) rfl (Run.nil (pj_then (J_seq ?_)))))
    refine J_regU2 mixed (by kernel_rfl) (by kernel_rfl) ?_
    refine ux (fun B => s_loadB 2 rfl rfl rfl) rfl rfl ?_
    refine ux (fun B => s_loadB 1 rfl rfl rfl) rfl rfl ?_
    refine uxk (had ) rfl ⟨VT.le_refl _, VT.le_refl _, trivial⟩ rfl ?_
    refine ux (fun B => s_loadB 3 rfl rfl rfl) rfl rfl ?_
    refine uxk (hd2 ) rfl ⟨VT.le_refl _, VT.le_refl _, trivial⟩ rfl ?_
    refine ux (fun B => s_move rfl) rfl rfl ?_
    refine ux (fun B => s_extract rfl rfl) rfl rfl ?_
    refine ux (fun B => s_extract rfl rfl) rfl rfl ?_
    refine ux (fun B => s_extract rfl rfl) rfl rfl ?_
    refine ua rfl (ua rfl (us rfl (us rfl ?_)))
    refine ux (fun B => s_assign rfl) rfl rfl ?_
    refine RunU.nil (fun γ => ?_)
    refine PJ_normM (M' := [_, _, _, _, _, _, _, _]) rfl (pj_then (J_seq (J_seq (J_reg (st (s_loadB 1 rfl rfl rfl) rfl (st (s_loadB 4 rfl rfl rfl) rfl ?_))))))
    refine st (s_callk (hcm ) rfl ⟨VT.le_refl _, VT.le_refl _, trivial⟩) rfl ?_
    refine st (sF (by omega) (s_ge rfl rfl)) rfl (Run.nil (pj_then (J_cond0 rfl (J_skip (pj_then (J_reg (st (s_loadB 1 rfl rfl rfl) rfl (a_storeB 4 rfl rfl rfl rfl rfl (leN rfl) rfl (Run.nil ?_)))))))))
    refine pn_block ?_
    refine pj_roundM ((x + a / x) / 2) (⟨hnx, by omega⟩) (by omega) (by repeat (first | exact SubG.refl _ | exact SubG.nil | refine SubG.cons rfl (VT.le_refl _) ?_ | (refine SubG.cons rfl (one_le ?_) ?_; (congr 1; first | omega | (simp; omega) | simp)))) (.drop (.drop (.drop (.drop (.keep (Own.le_refl _) (.keep (Own.le_refl _) (.keep (Own.le_refl _) (.keep (Own.le_refl _) (.nil)))))))))
end Tor
end
