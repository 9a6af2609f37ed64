/-
  Theorems that the proofs of laws of this seat rest on.
  No condition.
-/
import Derived.Test.YtelkiipjepcjmaaFB5
import Init
set_option linter.unusedVariables false
set_option linter.unusedSimpArgs false
section
namespace Tor
open Go Go.RowKit Go.Proofs
attribute [local irreducible] Tor.J Tor.PJ Tor.StepO Tor.one Tor.slT Tor.ptrT Tor.aggT Tor.tupT Tor.exT Tor.andT Tor.eP Tor.boxO Tor.sliO Tor.slV Tor.VT.le Tor.Ret Tor.anyT
set_option maxHeartbeats 4000000 in
theorem Root0_ok : Ok Try.prog 57 [bigT 0] (tupT [bigT 0, one (.int .i64 0)]) := by
  have hsi := SignI_ok 0
  rw [show sgnI 0 = 0 from rfl] at hsi
  refine Ok.enter Try.func57 rfl Try.ntmps57 rfl (fun w O => ?_)
  refine J_seq (J_reg ?_)
  refine a_boxS rfl rfl (ltN rfl) (fun b1 => ?_)
  refine a_alloc (T := 32) rfl (ltN rfl) (fun b2 => ?_)
  refine st (s_assign rfl) rfl (Run.nil (pj_then (J_seq (J_seq (J_reg (st (s_loadW 1 rfl rfl) rfl ?_))))))
  refine st (s_callk (hsi ) rfl ⟨VT.le_refl _, trivial⟩) rfl ?_
  refine Run.nil (pj_then (J_block (J_seq (J_reg (st (sF (by omega) (s_eq rfl rfl)) rfl (st (s_assign rfl) rfl (Run.nil (pj_then (J_cond0 rfl ?_)))))))))
  refine J_seq (J_reg (st (sT (by omega) (s_eq rfl rfl)) rfl (st (s_assign rfl) rfl (Run.nil (pj_then (J_cond1 rfl (J_seq (J_reg (stB rfl rfl rfl ?_)))))))))
  refine BuildK.nil (a_storeB 0 rfl rfl rfl rfl rfl (leN rfl) rfl (st (s_assign rfl) rfl (Run.nil (pj_then (J_ret (pr_block (pr_then ?_)))))))
  refine retc2 Try.results57 (.cellB 0 rfl rfl rfl (bigT_zero)) (.tmp rfl (VT.le_refl _))
end Tor
end
section
namespace Tor
open Go Go.RowKit Go.Proofs
section
variable {P : Program} {E : Env} {Γ : Ctx} {M : Mem} {d : Option Tmp} {ty : TypeId} {pos : String} {af : Array Edge} {gd : Option (Nat × Bool)}
theorem Run_retype {ops : Array Oper} {i : Nat} {os : List Oper} {K : List Deferred → Ctx → Mem → Prop} {D : List Deferred} {t : Nat} {φ ψ : VT} (ht : look Γ t = some φ) (hle : VT.le φ ψ) (h : Run P E ops false i D ((t, ψ) :: Γ) M os K) : Run P E ops false i D Γ M os K :=
  .conv (fun a w hS => hS.sub (fun s χ hs => by
    rw [look_cons] at hs
    split at hs
    · rename_i e; subst e; cases hs; exact ⟨φ, ht, hle⟩
    · exact ⟨χ, hs, VT.le_refl _⟩) (SubM.refl _)) h
theorem PJ_retype {e : Exit} {Q : Exit → Act → World → Prop} {D : List Deferred} {t : Nat} {φ ψ : VT} (ht : look Γ t = some φ) (hle : VT.le φ ψ) (h : PJ E D ((t, ψ) :: Γ) M e Q) : PJ E D Γ M e Q :=
  PJ_sub (fun s χ hs => by
    rw [look_cons] at hs
    split at hs
    · rename_i e; subst e; cases hs; exact ⟨φ, ht, hle⟩
    · exact ⟨χ, hs, VT.le_refl _⟩) (SubM.refl _) h
end
attribute [local irreducible] Tor.J Tor.PJ Tor.StepO Tor.one Tor.slT Tor.ptrT Tor.aggT Tor.tupT Tor.exT Tor.andT Tor.eP Tor.boxO Tor.sliO Tor.slV Tor.VT.le Tor.Ret Tor.anyT
end Tor
end
section
namespace Tor
open Go Go.RowKit Go.Proofs
def lenN (c : Nat) (f : Nat → Int) : Nat := (sumF c (fun k => f k * f k)).natAbs
theorem sqZ_nonneg (x : Int) : 0 ≤ x * x := by
  rw [← Int.natAbs_mul_self (a := x)]; exact Int.natCast_nonneg _
theorem sumsq_nonneg (c : Nat) (f : Nat → Int) : 0 ≤ sumF c (fun k => f k * f k) := by
  induction c with
  | zero => exact Int.le_refl _
  | succ c ih =>
    show 0 ≤ sumF c (fun k => f k * f k) + f c * f c
    have := sqZ_nonneg (f c)
    omega
theorem lenN_eq (c : Nat) (f : Nat → Int) : ((lenN c f : Nat) : Int) = sumF c (fun k => f k * f k) := Int.natAbs_of_nonneg (sumsq_nonneg c f)
def isq : Nat → Nat
  | 0 => 0
  | a + 1 => if (isq a + 1) * (isq a + 1) ≤ a + 1 then isq a + 1 else isq a
theorem isq_spec : ∀ a, isq a * isq a ≤ a ∧ a < (isq a + 1) * (isq a + 1)
  | 0 => ⟨by decide, by decide⟩
  | a + 1 => by
    obtain ⟨h1, h2⟩ := isq_spec a
    show (if (isq a + 1) * (isq a + 1) ≤ a + 1 then isq a + 1 else isq a) * (if (isq a + 1) * (isq a + 1) ≤ a + 1 then isq a + 1 else isq a) ≤ a + 1 ∧ a + 1 < ((if (isq a + 1) * (isq a + 1) ≤ a + 1 then isq a + 1 else isq a) + 1) * ((if (isq a + 1) * (isq a + 1) ≤ a + 1 then isq a + 1 else isq a) + 1)
    split
    · rename_i h
      have : (isq a + 1) * (isq a + 1) < (isq a + 1 + 1) * (isq a + 1 + 1) := Nat.mul_lt_mul'' (by omega) (by omega)
      exact ⟨h, by omega⟩
    · exact ⟨by omega, by omega⟩
def upN (a : Nat) : Nat := if isq a * isq a < a then isq a + 1 else isq a
theorem isq_le (a : Nat) : isq a ≤ a := by
  have h := (isq_spec a).1
  rcases Nat.eq_zero_or_pos (isq a) with h0 | h0
  · omega
  · exact Nat.le_trans (Nat.le_mul_of_pos_right _ h0) h
theorem sm800 {x : Int} (h : x.natAbs ≤ 2 ^ 810) : small x := small_le h (Nat.pow_lt_pow_right (a := 2) (m := 810) (n := 2048) (by decide) (by decide))
theorem pw800 {a : Nat} (h : a < 2 ^ 800) : a ≤ 2 ^ 810 := Nat.le_of_lt (Nat.lt_of_lt_of_le h (Nat.pow_le_pow_right (n := 2) (i := 800) (j := 810) (by decide) (by decide)))
def prN : Nat → (Nat → Nat) → Nat
  | 0, _ => 1
  | n + 1, g => prN n g * g n
theorem prN_le {B n : Nat} {g : Nat → Nat} (h : ∀ i, i < n → g i ≤ B) : ∀ k, k ≤ n → prN k g ≤ B ^ k
  | 0, _ => Nat.le_refl _
  | k + 1, hk => by rw [prN, Nat.pow_succ]; exact Nat.mul_le_mul (prN_le h k (by omega)) (h k (by omega))
theorem prN_lt {B n : Nat} {g : Nat → Nat} (hB : 1 ≤ B) (hn : B ^ n < 2 ^ 800) (h : ∀ i, i < n → g i ≤ B) {k : Nat} (hk : k ≤ n) : prN k g < 2 ^ 800 :=
  Nat.lt_of_le_of_lt (Nat.le_trans (prN_le h k hk) (Nat.pow_le_pow_right hB hk)) hn
theorem B_lt {B n : Nat} (hB : 1 ≤ B) (hn : B ^ n < 2 ^ 800) (h : 0 < n) : B < 2 ^ 800 := by
  have := Nat.pow_le_pow_right hB (show 1 ≤ n from h)
  rw [Nat.pow_one] at this
  exact Nat.lt_of_le_of_lt this hn
theorem bigT_cast {x : Int} {n : Nat} (h : x = (n : Int)) : VT.le (bigT x) (bigT (n : Int)) := h ▸ VT.le_refl _
attribute [local irreducible] Tor.J Tor.PJ Tor.StepO Tor.one Tor.slT Tor.ptrT Tor.aggT Tor.tupT Tor.exT Tor.andT Tor.eP Tor.boxO Tor.sliO Tor.slV Tor.VT.le Tor.Ret Tor.anyT
attribute [local irreducible] bigT
end Tor
end
section
namespace Tor
open Go Go.RowKit Go.Proofs
abbrev u64T (l : List Nat) : VT := slT .one l.length (fun q => one (.int .u64 (l.getD q 0 : Nat)))
def prL2 (l : List Nat) (k : Nat) : Nat := prN k (fun q => l.getD q 0)
theorem prL2_lt {l : List Nat} (hl : ∀ q, l.getD q 0 < 2 ^ 64) : ∀ k, prL2 l k ≤ 2 ^ (64 * k)
  | 0 => Nat.le_refl _
  | k + 1 => by
    have h1 := prL2_lt hl k
    have h2 := hl k
    show prL2 l k * l.getD k 0 ≤ _
    rw [Nat.mul_succ, Nat.pow_add]
    exact Nat.mul_le_mul h1 (Nat.le_of_lt h2)
theorem prL2_small {l : List Nat} (hl : ∀ q, l.getD q 0 < 2 ^ 64) {k : Nat} (hk : k ≤ 24) : small (prL2 l k : Int) := small_le (n := 2 ^ 1600) (by
  rw [Int.natAbs_natCast]
  exact Nat.le_trans (prL2_lt hl k) (Nat.pow_le_pow_right (n := 2) (i := 64 * k) (j := 1600) (by decide) (by omega))) (Nat.pow_lt_pow_right (a := 2) (m := 1600) (n := 2048) (by decide) (by decide))
theorem u64_small {x : Nat} (h : x < 2 ^ 64) : small (x : Int) := small_le (n := 2 ^ 64) (by rw [Int.natAbs_natCast]; exact Nat.le_of_lt h) (by decide +kernel)
theorem gtc {x y : Int} : (0 < cmpI x y) ↔ y < x := by unfold cmpI; split <;> (try split) <;> omega
theorem prL2_succ (l : List Nat) (k : Nat) : ((prL2 l (k + 1) : Nat) : Int) = (prL2 l k : Int) * (l.getD k 0 : Int) := by
  show ((prL2 l k * l.getD k 0 : Nat) : Int) = _
  exact Int.natCast_mul _ _
attribute [local irreducible] Tor.J Tor.PJ Tor.StepO Tor.one Tor.slT Tor.ptrT Tor.aggT Tor.tupT Tor.exT Tor.andT Tor.eP Tor.boxO Tor.sliO Tor.slV Tor.VT.le Tor.Ret Tor.anyT
attribute [local irreducible] bigT
set_option maxHeartbeats 4000000 in
theorem bword_ok (u : Nat) (hu : u < 18446744073709551616) : Ok Try.prog 53 [one (.int .u64 (u : Nat))] (bigT (u : Int)) := by
  have h1 := Of_ok (u / 4294967296 : Nat) (by omega) (by omega)
  have h2 := Of_ok 4294967296 (by decide) (by decide)
  have h3 := Of_ok (u % 4294967296 : Nat) (by omega) (by omega)
  have s1 : small ((u / 4294967296 : Nat) : Int) := u64_small (by omega)
  have s2 : small (4294967296 : Int) := u64_small (x := 4294967296) (by decide)
  have s3 : small ((u % 4294967296 : Nat) : Int) := u64_small (by omega)
  have hm := MulI_ok ((u / 4294967296 : Nat) : Int) 4294967296 s1 s2
  have ha := AddI_ok (((u / 4294967296 : Nat) : Int) * 4294967296) ((u % 4294967296 : Nat) : Int) (by
    have : ((u / 4294967296 : Nat) : Int) * 4294967296 = ((u / 4294967296 * 4294967296 : Nat) : Int) := by omega
    rw [this]; exact u64_small (by omega)) s3
  refine Ok.enter Try.func53 rfl Try.ntmps53 rfl (fun w O => ?_)
  refine J_seq (J_reg ?_)
  refine a_alloc (T := 32) rfl (ltN rfl) (fun b2 => ?_)
  refine Run.nil (pj_then (J_seq (J_reg (st (s_move rfl) rfl (st (s_shr32 rfl) rfl (st (s_toI64 rfl (by omega) (by omega)) rfl ?_))))))
  refine st (s_callk (h1 ) rfl ⟨VT.le_refl _, trivial⟩) rfl ?_
  refine st (s_callk (h2 ) rfl ⟨VT.le_refl _, trivial⟩) rfl ?_
  refine st (s_callk (hm ) rfl ⟨VT.le_refl _, VT.le_refl _, trivial⟩) rfl ?_
  refine a_alloc (T := 32) rfl (ltN rfl) (fun b3 => ?_)
  refine a_storeB 0 rfl rfl rfl rfl rfl (leN rfl) rfl (Run.nil (pj_then (J_seq (J_regd 6 mixed (by kernel_rfl) (by decide) (st (s_loadB 0 rfl rfl rfl) rfl (st (s_move rfl) rfl (st (s_andM rfl (by omega)) rfl (st (s_toI64 rfl (by omega) (by omega)) rfl ?_))))))))
  refine st (s_callk (h3 ) rfl ⟨VT.le_refl _, trivial⟩) rfl ?_
  refine st (s_callk (ha ) rfl ⟨VT.le_refl _, VT.le_refl _, trivial⟩) rfl ?_
  refine Run.nil (a_storeB 1 rfl rfl rfl rfl rfl (leN rfl) rfl (Run.nil (pj_then (J_ret ?_))))
  refine retc1 Try.results53 (.cellB 1 rfl rfl rfl (bigT_cast (by omega)))
set_option maxHeartbeats 4000000 in
theorem Enough_ok (l : List Nat) (b : Int) (hl : ∀ q, l.getD q 0 < 2 ^ 64) (hk : l.length ≤ 24) (hb : mod4 b) : Ok Try.prog 35 [u64T l, bigT b] (one (.bool (decide (b + b < (prL2 l l.length : Int))))) := by
  have h1 := Of_ok 1 (by decide) (by decide)
  have had := AddI_ok b b (mod4_small hb) (mod4_small hb)
  have hc := CmpI_ok (prL2 l l.length : Int) (b + b)
  have hgt := gtc (x := (prL2 l l.length : Int)) (y := b + b)
  refine Ok.enter Try.func35 rfl Try.ntmps35 rfl (fun w O => ?_)
  refine J_seq (J_reg ?_)
  refine a_box rfl rfl (ltN rfl) (fun b3 => ?_)
  refine st (s_assign rfl) rfl (Run.nil (pj_then (J_seq (J_reg ?_))))
  refine st (s_callk (h1 ) rfl ⟨VT.le_refl _, trivial⟩) rfl ?_
  refine a_alloc (T := 32) rfl (ltN rfl) (fun b5 => ?_)
  refine a_storeB 0 rfl rfl rfl rfl rfl (leN rfl) rfl (Run.nil (pj_then (J_seq (J_seq (J_reg (st (s_move rfl) rfl (st (s_len rfl) rfl (st (s_move rfl) rfl (Run.nil ?_)))))))))
  refine pj_then (J_block (J_sub (Γ' := [(3, _), (4, _), (5, _), (9, _), (10, _), (11, _)]) (SubG.cons rfl (VT.le_refl _) (SubG.cons rfl (VT.le_refl _) (SubG.cons rfl (VT.le_refl _) (SubG.cons rfl (VT.le_refl _) (SubG.cons rfl (VT.le_refl _) (SubG.cons rfl (VT.le_refl _) (SubG.nil))))))) (SubM.refl _) ?_))
  refine J_loopA (σ := Nat) (Γk := [(3, _), (4, _), (5, _), (9, _), (10, _)]) (SubG.cons rfl (VT.le_refl _) (SubG.cons rfl (VT.le_refl _) (SubG.cons rfl (VT.le_refl _) (SubG.cons rfl (VT.le_refl _) (SubG.cons rfl (VT.le_refl _) (SubG.nil)))))) (fun i => [(11, one (.int .i64 (i : Nat)))]) (fun i M0 => (M0.set 0 (boxO b5 32 2 [(0, .agg 2, bigT (prL2 l i : Int))]))) (fun i => i ≤ l.length) (fun i => l.length - i) (0) (Nat.zero_le _) (by repeat (first | exact SubG.refl _ | exact SubG.nil | refine SubG.cons rfl (VT.le_refl _) ?_ | (refine SubG.cons rfl (one_le ?_) ?_; (congr 1; first | omega | (simp; omega) | simp)))) (.keep (Own.le_refl _) (.keep (Own.le_refl _) (.nil))) (fun i hi => ?_)
  refine J_norm (Γ' := [(11, _), (3, _), (4, _), (5, _), (9, _), (10, _)]) (M' := [_, _]) rfl rfl ?_
  by_cases hi : i < l.length
  · have hw := bword_ok (l.getD i 0) (hl i)
    have hm := MulI_ok (prL2 l i : Int) (l.getD i 0 : Int) (prL2_small hl (by omega)) (u64_small (hl i))
    have hs := prL2_succ l i
    refine J_seq (J_reg (st (sT (by omega) (s_lt rfl rfl)) rfl (Run.nil (pj_then (J_seq (J_cond1 rfl (J_skip (pj_then (J_seq ?_)))))))))
    refine J_block (J_seq (J_reg (st (s_indexIN rfl rfl (by omega)) rfl (st (s_load rfl) rfl (st (s_assign rfl) rfl (Run.nil (pj_then (J_regd 4 mixed (by kernel_rfl) (by decide) (st (s_loadB 0 rfl rfl rfl) rfl ?_)))))))))
    refine st (s_move rfl) rfl ?_
    refine st (s_callk (hw ) rfl ⟨VT.le_refl _, trivial⟩) rfl ?_
    refine st (s_callk (hm ) rfl ⟨VT.le_refl _, VT.le_refl _, trivial⟩) rfl ?_
    refine Run.nil (a_storeB 0 rfl rfl rfl rfl rfl (leN rfl) rfl (Run.nil (pn_block (pj_then (J_reg (st (s_addN _ 1 rfl rfl (by omega)) rfl (st (s_move rfl) rfl (Run.nil ?_))))))))
    refine pj_roundM (i + 1) (hi) (by omega) (by repeat (first | exact SubG.refl _ | exact SubG.nil | refine SubG.cons rfl (VT.le_refl _) ?_ | (refine SubG.cons rfl (one_le ?_) ?_; (congr 1; first | omega | (simp; omega) | simp)))) (.keep (Own.le_refl _) (.keep (Own.le_refl _) (.nil)))
  · have he : i = l.length := by omega
    subst he
    generalize cmpI (prL2 l l.length : Int) (b + b) = cc at *
    refine J_seq (J_reg (st (sF (by omega) (s_lt rfl rfl)) rfl (Run.nil (pj_then (J_seq (J_cond0 rfl (J_exit (px_then (px_then ?_)))))))))
    refine px_block (pj_then (J_seq (J_regd 6 mixed (by kernel_rfl) (by decide) (st (s_loadB 0 rfl rfl rfl) rfl (st (s_loadB 1 rfl rfl rfl) rfl (st (s_loadB 1 rfl rfl rfl) rfl ?_))))))
    refine st (s_callk (had ) rfl ⟨VT.le_refl _, VT.le_refl _, trivial⟩) rfl ?_
    refine st (s_callk (hc ) rfl ⟨VT.le_refl _, VT.le_refl _, trivial⟩) rfl ?_
    refine st (s_gt rfl rfl) rfl (Run.nil (st (s_assign rfl) rfl (Run.nil (pj_then (J_ret ?_)))))
    refine retc1 Try.results35 (.tmp rfl (one_le (by congr 1; exact decide_eq_decide.2 hgt)))
set_option maxHeartbeats 4000000 in
theorem s9Product_ok (l : List Nat) (hl : ∀ q, l.getD q 0 < 2 ^ 63) (hk : l.length ≤ 24) : Ok Try.prog 55 [u64T l] (bigT (prL2 l l.length : Int)) := by
  have h1 := rOf_ok 1 (by decide) (by decide)
  have hl' : ∀ q, l.getD q 0 < 2 ^ 64 := fun q => Nat.lt_trans (hl q) (by decide)
  refine Ok.enter Try.func55 rfl Try.ntmps55 rfl (fun w O => ?_)
  refine J_seq (J_reg ?_)
  refine a_alloc (T := 32) rfl (ltN rfl) (fun b2 => ?_)
  refine Run.nil (pj_then (J_seq (J_reg ?_)))
  refine st (s_callk (h1 ) rfl ⟨VT.le_refl _, trivial⟩) rfl ?_
  refine a_alloc (T := 32) rfl (ltN rfl) (fun b3 => ?_)
  refine a_storeB 0 rfl rfl rfl rfl rfl (leN rfl) rfl (Run.nil (pj_then (J_seq (J_seq (J_reg (st (s_assign rfl) rfl (Run.nil (pj_then (J_block ?_)))))))))
  refine J_sub (Γ' := [(0, _), (2, _), (3, _), (4, _)]) (SubG.cons rfl (VT.le_refl _) (SubG.cons rfl (VT.le_refl _) (SubG.cons rfl (VT.le_refl _) (SubG.cons rfl (VT.le_refl _) (SubG.nil))))) (SubM.refl _) ?_
  refine J_loopA (σ := Nat) (Γk := [(0, _), (2, _), (3, _)]) (SubG.cons rfl (VT.le_refl _) (SubG.cons rfl (VT.le_refl _) (SubG.cons rfl (VT.le_refl _) (SubG.nil)))) (fun i => [(4, one (.int .i64 (i : Nat)))]) (fun i M0 => (M0.set 0 (boxO b3 32 2 [(0, .agg 2, bigT (prL2 l i : Int))]))) (fun i => i ≤ l.length) (fun i => l.length - i) (0) (Nat.zero_le _) (by repeat (first | exact SubG.refl _ | exact SubG.nil | refine SubG.cons rfl (VT.le_refl _) ?_ | (refine SubG.cons rfl (one_le ?_) ?_; (congr 1; first | omega | (simp; omega) | simp)))) (.keep (Own.le_refl _) (.keep (Own.le_refl _) (.nil))) (fun i hi => ?_)
  refine J_norm (Γ' := [(4, _), (0, _), (2, _), (3, _)]) (M' := [_, _]) rfl rfl ?_
  by_cases hi : i < l.length
  · have hx := hl i
    have ho := rOf_ok (l.getD i 0 : Int) (by omega) (by omega)
    have hm := rMulI_ok (prL2 l i : Int) (l.getD i 0 : Int) (prL2_small hl' (by omega)) (u64_small (hl' i))
    have hs := prL2_succ l i
    refine J_seq (J_seq (J_reg (st (s_move rfl) rfl (st (s_move rfl) rfl (st (s_len rfl) rfl (st (sT (by omega) (s_lt rfl rfl)) rfl (Run.nil (pj_then (J_cond1 rfl ?_)))))))))
    refine J_skip (pj_then (J_seq (J_block (J_regd 8 mixed (by kernel_rfl) (by decide) (st (s_loadB 0 rfl rfl rfl) rfl (st (s_move rfl) rfl (st (s_move rfl) rfl (st (s_indexIN rfl rfl (by omega)) rfl (st (s_load rfl) rfl ?_)))))))))
    refine st (s_toI64 rfl (by omega) (by omega)) rfl ?_
    refine st (s_callk (ho ) rfl ⟨VT.le_refl _, trivial⟩) rfl ?_
    refine st (s_callk (hm ) rfl ⟨VT.le_refl _, VT.le_refl _, trivial⟩) rfl ?_
    refine Run.nil (a_storeB 0 rfl rfl rfl rfl rfl (leN rfl) rfl (Run.nil (pn_block (pj_then (J_reg (st (s_move rfl) rfl (st (s_addN _ 1 rfl rfl (by omega)) rfl (st (s_assign rfl) rfl (Run.nil ?_)))))))))
    refine pj_roundM (i + 1) (hi) (by omega) (by repeat (first | exact SubG.refl _ | exact SubG.nil | refine SubG.cons rfl (VT.le_refl _) ?_ | (refine SubG.cons rfl (one_le ?_) ?_; (congr 1; first | omega | (simp; omega) | simp)))) (.keep (Own.le_refl _) (.keep (Own.le_refl _) (.nil)))
  · have he : i = l.length := by omega
    subst he
    refine J_seq (J_seq (J_reg (st (s_move rfl) rfl (st (s_move rfl) rfl (st (s_len rfl) rfl (st (sF (by omega) (s_lt rfl rfl)) rfl (Run.nil (pj_then (J_cond0 rfl ?_)))))))))
    refine J_exit (px_then (px_then (px_block (pj_then (J_seq (J_reg (st (s_loadB 0 rfl rfl rfl) rfl (a_storeB 1 rfl rfl rfl rfl rfl (leN rfl) rfl (Run.nil ?_)))))))))
    refine pj_then (J_ret ?_)
    refine retc1 Try.results55 (.cellB 1 rfl rfl rfl (VT.le_refl _))
set_option maxHeartbeats 4000000 in
theorem s9Enough_ok (l : List Nat) (b : Int) (hl : ∀ q, l.getD q 0 < 2 ^ 63) (hk : l.length ≤ 24) (hb : mod4 b) : Ok Try.prog 36 [u64T l, bigT b] (one (.bool (decide (b + b < (prL2 l l.length : Int))))) := by
  have hl' : ∀ q, l.getD q 0 < 2 ^ 64 := fun q => Nat.lt_trans (hl q) (by decide)
  have hp := s9Product_ok l hl hk
  have had := rAddI_ok b b (mod4_small hb) (mod4_small hb)
  have hbb : small (b + b) := small_le (n := 2 ^ 400 + 2 ^ 400) (Nat.le_trans (Int.natAbs_add_le b b) (Nat.add_le_add hb hb)) (by decide +kernel)
  have hc := rCmpI_ok (prL2 l l.length : Int) (b + b) (prL2_small hl' hk) hbb
  have hgt := gtc (x := (prL2 l l.length : Int)) (y := b + b)
  refine Ok.enter Try.func36 rfl Try.ntmps36 rfl (fun w O => ?_)
  generalize cmpI (prL2 l l.length : Int) (b + b) = cc at *
  refine J_seq (J_reg ?_)
  refine a_box rfl rfl (ltN rfl) (fun b3 => ?_)
  refine st (s_assign rfl) rfl (Run.nil (pj_then (J_seq (J_regd 7 mixed (by kernel_rfl) (by decide) (st (s_move rfl) rfl ?_)))))
  refine st (s_callk (hp ) rfl ⟨VT.le_refl _, trivial⟩) rfl ?_
  refine st (s_loadB 0 rfl rfl rfl) rfl (st (s_loadB 0 rfl rfl rfl) rfl ?_)
  refine st (s_callk (had ) rfl ⟨VT.le_refl _, VT.le_refl _, trivial⟩) rfl ?_
  refine st (s_callk (hc ) rfl ⟨VT.le_refl _, VT.le_refl _, trivial⟩) rfl ?_
  refine st (s_gt rfl rfl) rfl (Run.nil (st (s_assign rfl) rfl (Run.nil (pj_then (J_ret ?_)))))
  refine retc1 Try.results36 (.tmp rfl (one_le (by congr 1; exact decide_eq_decide.2 hgt)))
set_option maxHeartbeats 4000000 in
theorem s9Same_ok (n m : Nat) (f g : Nat → Nat) (hn : n ≤ 1048576) : Ok Try.prog 30 [slT .one n (fun q => one (.int .u64 (f q : Nat))), slT .one m (fun q => one (.int .u64 (g q : Nat)))] (one (.bool (decide (n = m ∧ ∀ i, i < n → f i = g i)))) := by
  refine Ok.enter Try.func30 rfl Try.ntmps30 rfl (fun w O => ?_)
  by_cases hne : n = m
  · subst hne
    refine J_seq (J_reg (st (s_assign rfl) rfl (Run.nil (pj_then (J_seq (J_seq (J_reg (st (s_move rfl) rfl (st (s_len rfl) rfl ?_)))))))))
    refine st (s_move rfl) rfl (st (s_len rfl) rfl (st (sF (by omega) (s_ne rfl rfl)) rfl (Run.nil (pj_then (J_cond0 rfl (J_skip (pj_then (J_seq (J_seq ?_)))))))))
    refine J_reg (st (s_assign rfl) rfl (Run.nil (pj_then (J_block (J_sub (Γ' := [(0, _), (1, _), (4, _), (5, _)]) (SubG.cons rfl (VT.le_refl _) (SubG.cons rfl (VT.le_refl _) (SubG.cons rfl (VT.le_refl _) (SubG.cons rfl (VT.le_refl _) (SubG.nil))))) (SubM.refl _) ?_)))))
    refine J_loopA (σ := Nat) (Γk := [(0, _), (1, _)]) (SubG.cons rfl (VT.le_refl _) (SubG.cons rfl (VT.le_refl _) (SubG.nil))) (fun i => [(5, one (.int .i64 (i : Nat)))]) (fun i M0 => M0) (fun i => i ≤ n ∧ ∀ q, q < i → f q = g q) (fun i => n - i) (0) (⟨Nat.zero_le _, fun q h => absurd h (Nat.not_lt_zero _)⟩) (by repeat (first | exact SubG.refl _ | exact SubG.nil | refine SubG.cons rfl (VT.le_refl _) ?_ | (refine SubG.cons rfl (one_le ?_) ?_; (congr 1; first | omega | (simp; omega) | simp)))) (.nil) (fun i hi => ?_)
    refine J_norm (Γ' := [(5, _), (0, _), (1, _)]) (M' := []) rfl rfl ?_
    obtain ⟨hi, hq⟩ := hi
    by_cases hlt : i < n
    · by_cases he : f i = g i
      · refine J_seq (J_seq (J_reg (st (s_move rfl) rfl (st (s_move rfl) rfl (st (s_len rfl) rfl (st (sT (by omega) (s_lt rfl rfl)) rfl (Run.nil (pj_then (J_cond1 rfl ?_)))))))))
        refine J_skip (pj_then (J_seq (J_block (J_seq (J_regd 9 mixed (by kernel_rfl) (by decide) (st (s_move rfl) rfl (st (s_move rfl) rfl (st (s_indexIN rfl rfl (by omega)) rfl (st (s_load rfl) rfl ?_)))))))))
        refine st (s_move rfl) rfl (st (s_move rfl) rfl (st (s_indexIN rfl rfl (by omega)) rfl (st (s_load rfl) rfl (st (sF (by omega) (s_ne rfl rfl)) rfl (Run.nil (Run.nil (pj_then (J_cond0 rfl (J_skip ?_)))))))))
        refine pn_block (pj_then (J_reg (st (s_move rfl) rfl (st (s_addN _ 1 rfl rfl (by omega)) rfl (st (s_assign rfl) rfl (Run.nil ?_))))))
        refine pj_roundM (i + 1) (⟨hlt, fun q hq' => by by_cases e : q = i; exact e ▸ he; exact hq q (by omega)⟩) (by omega) (by repeat (first | exact SubG.refl _ | exact SubG.nil | refine SubG.cons rfl (VT.le_refl _) ?_ | (refine SubG.cons rfl (one_le ?_) ?_; (congr 1; first | omega | (simp; omega) | simp)))) (.nil)
      · have hf : decide (n = n ∧ ∀ i, i < n → f i = g i) = false := decide_eq_false fun h => he (h.2 i hlt)
        rw [hf]
        refine J_seq (J_seq (J_reg (st (s_move rfl) rfl (st (s_move rfl) rfl (st (s_len rfl) rfl (st (sT (by omega) (s_lt rfl rfl)) rfl (Run.nil (pj_then (J_cond1 rfl ?_)))))))))
        refine J_skip (pj_then (J_seq (J_block (J_seq (J_regd 9 mixed (by kernel_rfl) (by decide) (st (s_move rfl) rfl (st (s_move rfl) rfl (st (s_indexIN rfl rfl (by omega)) rfl (st (s_load rfl) rfl ?_)))))))))
        refine st (s_move rfl) rfl (st (s_move rfl) rfl (st (s_indexIN rfl rfl (by omega)) rfl (st (s_load rfl) rfl (st (sT (by omega) (s_ne rfl rfl)) rfl (Run.nil (Run.nil (pj_then (J_cond1 rfl (J_seq ?_)))))))))
        refine J_reg (st (s_assign rfl) rfl (Run.nil (pj_then (J_ret (pr_block (pr_then (pr_then (pr_block (pr_then ?_)))))))))
        refine retc1 Try.results30 (.tmp rfl (VT.le_refl _))
    · have hin : i = n := by omega
      subst hin
      have hf : decide (i = i ∧ ∀ q, q < i → f q = g q) = true := decide_eq_true ⟨rfl, hq⟩
      rw [hf]
      refine J_seq (J_seq (J_reg (st (s_move rfl) rfl (st (s_move rfl) rfl (st (s_len rfl) rfl (st (sF (by omega) (s_lt rfl rfl)) rfl (Run.nil (pj_then (J_cond0 rfl ?_)))))))))
      refine J_exit (px_then (px_then (px_block (pj_then (J_seq (J_reg (st (s_assign rfl) rfl (Run.nil (pj_then ?_)))))))))
      refine J_ret ?_
      refine retc1 Try.results30 (.tmp rfl (VT.le_refl _))
  · have hf : decide (n = m ∧ ∀ i, i < n → f i = g i) = false := decide_eq_false fun h => hne h.1
    rw [hf]
    refine J_seq (J_reg (st (s_assign rfl) rfl (Run.nil (pj_then (J_seq (J_seq (J_reg (st (s_move rfl) rfl (st (s_len rfl) rfl ?_)))))))))
    refine st (s_move rfl) rfl (st (s_len rfl) rfl (st (sT (by omega) (s_ne rfl rfl)) rfl (Run.nil (pj_then (J_cond1 rfl (J_seq (J_reg (st (s_assign rfl) rfl (Run.nil ?_)))))))))
    refine pj_then (J_ret (pr_then ?_))
    refine retc1 Try.results30 (.tmp rfl (VT.le_refl _))
end Tor
end
section
namespace Tor
def Trial (n : Nat) : Prop := ∀ d, 2 ≤ d → d * d ≤ n → n % d ≠ 0
def trialB (n : Nat) : Nat → Nat → Bool
  | 0, d => Nat.ble (n + 1) (d * d) || !(Nat.beq (n % d) 0)
  | k + 1, d => trialB n k d && trialB n k (d + 2 ^ k)
theorem trialB_ok {n : Nat} : ∀ {k d : Nat}, trialB n k d = true → ∀ e, d ≤ e → e < d + 2 ^ k → e * e ≤ n → n % e ≠ 0
  | 0, d, h, e, h1, h2, h3 => by
    have : e = d := by simp at h2; omega
    subst this
    simp only [trialB, Bool.or_eq_true, Bool.not_eq_true'] at h
    rcases h with h | h
    · have := Nat.le_of_ble_eq_true h; omega
    · intro hz; rw [hz] at h; cases h
  | k + 1, d, h, e, h1, h2, h3 => by
    simp only [trialB, Bool.and_eq_true] at h
    rw [Nat.pow_succ] at h2
    rcases Nat.lt_or_ge e (d + 2 ^ k) with hl | hl
    · exact trialB_ok h.1 e h1 hl h3
    · exact trialB_ok h.2 e hl (by omega) h3
theorem trial_of {n k : Nat} (h : trialB n k 2 = true) (hn : n < (2 + 2 ^ k) * (2 + 2 ^ k)) : Trial n := fun d h1 h2 => by
  rcases Nat.lt_or_ge d (2 + 2 ^ k) with hl | hl
  · exact trialB_ok h d h1 hl h2
  · have := Nat.mul_le_mul hl hl; omega
def befN (p : Nat → Bool) : Nat → Nat
  | 0 => 0
  | m + 1 => if p m then m else befN p m
theorem befN_le (p : Nat → Bool) : ∀ m, befN p m ≤ m - 1
  | 0 => Nat.le_refl _
  | m + 1 => by
    have := befN_le p m
    show (if p m then m else befN p m) ≤ m
    split <;> omega
noncomputable def trialP (m : Nat) : Bool := @decide (2 ≤ m ∧ m < 2147483648 ∧ Trial m) (Classical.propDecidable _)
theorem trialP_iff {m : Nat} : trialP m = true ↔ 2 ≤ m ∧ m < 2147483648 ∧ Trial m := @decide_eq_true_iff _ (Classical.propDecidable _)
abbrev bf (p : Nat → Bool) (n : Nat) : Nat := befN p (min n 2147483648)
def tlL (p : Nat → Bool) : Nat → Nat → List Nat
  | 0, _ => []
  | k + 1, q => if q = 0 then [] else q :: tlL p k (bf p q)
def ndL (p : Nat → Bool) (B : Int) : Nat → Nat → Nat → Option (List Nat)
  | 0, _, _ => none
  | f + 1, pr, q => if B < (pr : Int) then some [] else if bf p q = 0 then none else (ndL p B f (pr * bf p q) (bf p q)).map (bf p q :: ·)
end Tor
end
section
namespace Tor
open Go Go.RowKit Go.Proofs
theorem bf_lt31 {p : Nat → Bool} {n : Nat} : bf p n < 2147483648 := by
  have := befN_le p (min n 2147483648)
  show befN p (min n 2147483648) < _
  omega
theorem bf_lt {p : Nat → Bool} {n : Nat} (h : 0 < n) : bf p n < n := by
  have := befN_le p (min n 2147483648)
  show befN p (min n 2147483648) < _
  omega
theorem lst_snoc {sv : Option Nat} {T : TypeId} {cap x : Nat} {l : List Nat} : Own.le (sliO sv T .one cap (l.length + 1) (fun q => if q < l.length then one (.int .u64 (l.getD q 0 : Nat)) else one (.int .u64 (x : Nat)))) (sliO sv T .one cap (l ++ [x]).length (fun q => one (.int .u64 ((l ++ [x]).getD q 0 : Nat)))) := by
  refine sliO_len (by simp) (fun q hq => ?_)
  by_cases h : q < l.length
  · rw [if_pos h]; simp only [List.getD]; rw [List.getElem?_append_left h]
  · have : q = l.length := by omega
    subst this; rw [if_neg h]; simp [List.getD]
theorem slV_eq {sv : Option Nat} {n m cap : Nat} (h : n = m) : VT.le (one (slV sv n cap)) (one (slV sv m cap)) := h ▸ VT.le_refl _
theorem nil_u64 : VT.le (one (.slice none 0 0)) (u64T []) := nil_slT
theorem u64T_eq {l m : List Nat} (h : l = m) : VT.le (u64T l) (u64T m) := h ▸ VT.le_refl _
attribute [local irreducible] Tor.J Tor.PJ Tor.StepO Tor.one Tor.slT Tor.ptrT Tor.aggT Tor.tupT Tor.exT Tor.andT Tor.eP Tor.boxO Tor.sliO Tor.slV Tor.VT.le Tor.Ret Tor.anyT
attribute [local irreducible] bigT
set_option maxHeartbeats 4000000 in
theorem s3Prime_ok (n : Nat) (hn : n < 18446744073709551616) (b : Bool) (hb : b = true ↔ 2 ≤ n ∧ n < 2147483648 ∧ Trial n) : Ok Try.prog 50 [one (.int .u64 (n : Nat))] (one (.bool b)) := by
  refine Ok.enter Try.func50 rfl Try.ntmps50 rfl (fun w O => ?_)
  by_cases h2 : n < 2
  · have hf : b = false := by cases b with | false => rfl | true => have := hb.1 rfl; omega
    subst hf
    refine J_seq (J_reg (st (s_assign rfl) rfl (Run.nil (pj_then (J_seq (J_seq (J_reg (st (s_move rfl) rfl (st (sT (by omega) (s_lt rfl rfl)) rfl ?_)))))))))
    refine st (s_move rfl) rfl (sn0 rfl rfl rfl rfl rfl (sn0 rfl rfl rfl rfl rfl (st (s_pickT rfl rfl) rfl (Run.nil (pj_then (J_cond1 rfl (J_seq (J_reg (st (s_assign rfl) rfl ?_)))))))))
    refine Run.nil (pj_then (J_ret (pr_then ?_)))
    refine retc1 Try.results50 (.tmp rfl (VT.le_refl _))
  · by_cases h3 : n < 2147483648
    · refine J_seq (J_reg (st (s_assign rfl) rfl (Run.nil (pj_then (J_seq (J_seq (J_reg (st (s_move rfl) rfl (st (sF (by omega) (s_lt rfl rfl)) rfl ?_)))))))))
      refine st (s_move rfl) rfl (sg1 rfl rfl (s_move rfl) rfl (sg1 rfl rfl (sF (by omega) (s_ge rfl rfl)) rfl (st (s_pickF rfl rfl) rfl (Run.nil (pj_then (J_cond0 rfl (J_skip (pj_then (J_seq ?_)))))))))
      refine J_seq (J_reg (st (s_assign rfl) rfl (Run.nil (pj_then (J_block (J_sub (Γ' := [(0, _), (2, _), (3, _)]) (SubG.cons rfl (VT.le_refl _) (SubG.cons rfl (VT.le_refl _) (SubG.cons rfl (VT.le_refl _) (SubG.nil)))) (SubM.refl _) ?_))))))
      refine J_loopA (σ := Nat) (Γk := [(0, _)]) (SubG.cons rfl (VT.le_refl _) (SubG.nil)) (fun d => [(3, one (.int .u64 (d : Nat)))]) (fun d M0 => M0) (fun d => 2 ≤ d ∧ d ≤ 65536 ∧ ∀ e, 2 ≤ e → e < d → n % e ≠ 0) (fun d => 65536 - d) (2) (⟨Nat.le_refl _, by decide, fun e h1 h2 => absurd h2 (by omega)⟩) (by repeat (first | exact SubG.refl _ | exact SubG.nil | refine SubG.cons rfl (VT.le_refl _) ?_ | (refine SubG.cons rfl (one_le ?_) ?_; (congr 1; first | omega | (simp; omega) | simp)))) (.nil) (fun d hd => ?_)
      refine J_norm (Γ' := [(3, _), (0, _)]) (M' := []) rfl rfl ?_
      obtain ⟨hd2, hd6, hd⟩ := hd
      have hm : d * d ≤ 65536 * 65536 := Nat.mul_le_mul hd6 hd6
      by_cases hle : d * d ≤ n
      · have hlt : d < 65536 := by
          rcases Nat.lt_or_ge d 65536 with h | h
          · exact h
          · have := Nat.mul_le_mul h h; omega
        by_cases h0 : n % d = 0
        · have hf : b = false := by cases b with | false => rfl | true => exact absurd h0 ((hb.1 rfl).2.2 d hd2 hle)
          subst hf
          refine J_seq (J_seq (J_reg (st (s_move rfl) rfl (st (s_move rfl) rfl (st (s_mulU rfl rfl (by omega)) rfl (st (s_move rfl) rfl (st (sT (by omega) (s_le rfl rfl)) rfl (Run.nil (pj_then ?_)))))))))
          refine J_cond1 rfl (J_skip (pj_then (J_seq (J_block (J_seq (J_reg (st (s_move rfl) rfl (st (s_move rfl) rfl (st (s_remN _ rfl rfl rfl (by omega)) rfl ?_)))))))))
          refine st (sT (by omega) (s_eq rfl rfl)) rfl (Run.nil (pj_then (J_cond1 rfl (J_seq (J_reg (st (s_assign rfl) rfl (Run.nil (pj_then (J_ret ?_)))))))))
          refine pr_block (pr_then (pr_then (pr_block (pr_then ?_))))
          refine retc1 Try.results50 (.tmp rfl (VT.le_refl _))
        · refine J_seq (J_seq (J_reg (st (s_move rfl) rfl (st (s_move rfl) rfl (st (s_mulU rfl rfl (by omega)) rfl (st (s_move rfl) rfl (st (sT (by omega) (s_le rfl rfl)) rfl (Run.nil (pj_then ?_)))))))))
          refine J_cond1 rfl (J_skip (pj_then (J_seq (J_block (J_seq (J_reg (st (s_move rfl) rfl (st (s_move rfl) rfl (st (s_remN _ rfl rfl rfl (by omega)) rfl ?_)))))))))
          refine st (sF (by omega) (s_eq rfl rfl)) rfl (Run.nil (pj_then (J_cond0 rfl (J_skip (pn_block (pj_then (J_reg (st (s_move rfl) rfl (st (s_addU (b := 1) rfl rfl (by omega)) rfl ?_)))))))))
          refine st (s_assign rfl) rfl (Run.nil ?_)
          refine pj_roundM (d + 1) (⟨by omega, hlt, fun e h1 h2 => by by_cases e1 : e = d; exact e1 ▸ h0; exact hd e h1 (by omega)⟩) (by omega) (by repeat (first | exact SubG.refl _ | exact SubG.nil | refine SubG.cons rfl (VT.le_refl _) ?_ | (refine SubG.cons rfl (one_le ?_) ?_; (congr 1; first | omega | (simp; omega) | simp)))) (.nil)
      · have ht : b = true := hb.2 ⟨by omega, h3, fun e h1 h4 => hd e h1 (by
          rcases Nat.lt_or_ge e d with h | h
          · exact h
          · have := Nat.mul_le_mul h h; omega)⟩
        subst ht
        refine J_seq (J_seq (J_reg (st (s_move rfl) rfl (st (s_move rfl) rfl (st (s_mulU rfl rfl (by omega)) rfl (st (s_move rfl) rfl (st (sF (by omega) (s_le rfl rfl)) rfl (Run.nil (pj_then ?_)))))))))
        refine J_cond0 rfl (J_exit (px_then (px_then (px_block (pj_then (J_seq (J_reg (st (s_assign rfl) rfl (Run.nil ?_)))))))))
        refine pj_then (J_ret ?_)
        refine retc1 Try.results50 (.tmp rfl (VT.le_refl _))
    · have hf : b = false := by cases b with | false => rfl | true => have := hb.1 rfl; omega
      subst hf
      refine J_seq (J_reg (st (s_assign rfl) rfl (Run.nil (pj_then (J_seq (J_seq (J_reg (st (s_move rfl) rfl (st (sF (by omega) (s_lt rfl rfl)) rfl ?_)))))))))
      refine st (s_move rfl) rfl (sg1 rfl rfl (s_move rfl) rfl (sg1 rfl rfl (sT (by omega) (s_ge rfl rfl)) rfl (st (s_pickF rfl rfl) rfl (Run.nil (pj_then (J_cond1 rfl (J_seq (J_reg (st (s_assign rfl) rfl ?_)))))))))
      refine Run.nil (pj_then (J_ret (pr_then ?_)))
      refine retc1 Try.results50 (.tmp rfl (VT.le_refl _))
set_option maxHeartbeats 4000000 in
theorem s3Before_ok (n : Nat) (hn : n < 18446744073709551616) : Ok Try.prog 32 [one (.int .u64 (n : Nat))] (one (.int .u64 (bf trialP n : Nat))) := by
  have hP := fun m (hm : m < 18446744073709551616) => s3Prime_ok m hm (trialP m) trialP_iff
  refine Ok.enter Try.func32 rfl Try.ntmps32 rfl (fun w O => ?_)
  refine J_seq (J_reg (st (s_assign rfl) rfl (Run.nil (pj_then (J_seq (J_seq (J_reg (st (s_move rfl) rfl (st (s_min rfl rfl) rfl ?_)))))))))
  refine st (s_assign rfl) rfl (Run.nil (pj_then (J_block (J_retype (t := 3) (ψ := one (.int .u64 ((min n 2147483648 : Nat) : Int))) rfl (one_le (by congr 1; omega)) (J_sub (Γ' := [(2, _), (3, _)]) (SubG.cons rfl (VT.le_refl _) (SubG.cons rfl (VT.le_refl _) (SubG.nil))) (SubM.refl _) ?_)))))
  refine J_loopA (σ := Nat) (Γk := []) (SubG.nil) (fun m => [(3, one (.int .u64 (m : Nat)))]) (fun m M0 => M0) (fun m => m ≤ 2147483648 ∧ befN trialP m = bf trialP n) (fun m => m) (min n 2147483648) (⟨Nat.min_le_right _ _, rfl⟩) (by repeat (first | exact SubG.refl _ | exact SubG.nil | refine SubG.cons rfl (VT.le_refl _) ?_ | (refine SubG.cons rfl (one_le ?_) ?_; (congr 1; first | omega | (simp; omega) | simp)))) (.nil) (fun m hm => ?_)
  refine J_norm (Γ' := [(3, _)]) (M' := []) rfl rfl ?_
  obtain ⟨hm, hI⟩ := hm
  cases m with
  | zero =>
    have hI : 0 = bf trialP n := hI
    refine J_seq (J_seq (J_reg (st (s_move rfl) rfl (st (sF (by omega) (s_gt rfl rfl)) rfl (Run.nil (pj_then (J_cond0 rfl (J_exit (px_then ?_)))))))))
    refine px_then (px_block (pj_then (J_seq (J_reg (st (s_assign rfl) rfl (Run.nil (pj_then (J_ret ?_))))))))
    refine retc1 Try.results32 (.tmp rfl (one_le (by congr 1; omega)))
  | succ m =>
    have hI : (if trialP m then m else befN trialP m) = bf trialP n := hI
    have hp := hP m (by omega)
    cases ht : trialP m with
    | true =>
      rw [ht] at hp hI
      have hI : m = bf trialP n := hI
      refine J_seq (J_seq (J_reg (st (s_move rfl) rfl (st (sT (by omega) (s_gt rfl rfl)) rfl (Run.nil (pj_then (J_cond1 rfl (J_skip (pj_then ?_)))))))))
      refine J_block (J_seq (J_reg (st (s_move rfl) rfl (st (s_subC 1 rfl rfl (by omega) (by omega)) rfl (st (s_assign rfl) rfl (Run.nil (pj_then (J_seq (J_reg ?_)))))))))
      refine st (s_move rfl) rfl ?_
      refine st (sBt (by assumption) (s_callk (hP _ (by omega)) rfl ⟨VT.le_refl _, trivial⟩)) rfl ?_
      refine st (s_assign rfl) rfl (Run.nil (pj_then (J_seq (J_reg (st (s_move rfl) rfl (Run.nil (pj_then (J_cond1 rfl (J_seq ?_)))))))))
      refine J_reg (st (s_move rfl) rfl (st (s_assign rfl) rfl (Run.nil (pj_then (J_ret (pr_block (pr_then (pr_block (pr_then ?_)))))))))
      refine retc1 Try.results32 (.tmp rfl (one_le (by congr 1; omega)))
    | false =>
      rw [ht] at hp hI
      have hI : befN trialP m = bf trialP n := hI
      refine J_seq (J_seq (J_reg (st (s_move rfl) rfl (st (sT (by omega) (s_gt rfl rfl)) rfl (Run.nil (pj_then (J_cond1 rfl (J_skip (pj_then ?_)))))))))
      refine J_block (J_seq (J_reg (st (s_move rfl) rfl (st (s_subC 1 rfl rfl (by omega) (by omega)) rfl (st (s_assign rfl) rfl (Run.nil (pj_then (J_seq (J_reg ?_)))))))))
      refine st (s_move rfl) rfl ?_
      refine st (sBf (by assumption) (s_callk (hP _ (by omega)) rfl ⟨VT.le_refl _, trivial⟩)) rfl ?_
      refine st (s_assign rfl) rfl (Run.nil (pj_then (J_seq (J_reg (st (s_move rfl) rfl (Run.nil (pj_then (J_cond0 rfl (J_skip ?_)))))))))
      refine pn_block ?_
      refine pj_roundM (m) (⟨by omega, hI⟩) (by omega) (by repeat (first | exact SubG.refl _ | exact SubG.nil | refine SubG.cons rfl (VT.le_refl _) ?_ | (refine SubG.cons rfl (one_le ?_) ?_; (congr 1; first | omega | (simp; omega) | simp)))) (.nil)
set_option maxHeartbeats 4000000 in
theorem s9Primes_ok (n : Nat) (k : Int) (hn : n < 18446744073709551616) : Ok Try.prog 31 [one (.int .u64 (n : Nat)), one (.int .i64 k)] (u64T (tlL trialP k.toNat (bf trialP n))) := by
  have hB := fun m (hm : m < 18446744073709551616) => s3Before_ok m hm
  have hB1 := hB n hn
  have h31 := bf_lt31 (p := trialP) (n := n)
  generalize hq0 : bf trialP n = q0 at *
  refine Ok.enter Try.func31 rfl Try.ntmps31 rfl (fun w O => ?_)
  refine J_seq (J_reg (st (s_assign rfl) rfl (Run.nil (pj_then (J_seq (J_reg (stSO (n := 0) rfl rfl rfl rfl rfl ?_)))))))
  refine PartsK.nil (fun bl => ?_)
  refine st (s_assign rfl) rfl (Run.nil (pj_then (J_seq (J_seq (J_reg (st (s_move rfl) rfl ?_))))))
  refine st (s_callk (hB _ (by assumption)) rfl ⟨VT.le_refl _, trivial⟩) rfl ?_
  refine st (s_assign rfl) rfl (Run.nil (pj_then (J_block (J_sub (Γ' := [(1, _), (4, _), (5, _), (6, _)]) (SubG.cons rfl (VT.le_refl _) (SubG.cons rfl (VT.le_refl _) (SubG.cons rfl (VT.le_refl _) (SubG.cons rfl (VT.le_refl _) (SubG.nil))))) (SubM.refl _) ?_))))
  refine J_loopA (σ := List Nat × Nat × Option Nat × Nat) (Γk := [(1, _), (4, _)]) (SubG.cons rfl (VT.le_refl _) (SubG.cons rfl (VT.le_refl _) (SubG.nil))) (fun s => [(6, one (.int .u64 (s.2.1 : Nat))), (5, one (slV s.2.2.1 s.1.length s.2.2.2))]) (fun s M0 => (M0.set 0 (sliO s.2.2.1 59 .one s.2.2.2 s.1.length (fun q => one (.int .u64 (s.1.getD q 0 : Nat)))))) (fun s => s.1.length + s.2.1 < 2147483648 ∧ s.1.length ≤ k.toNat ∧ s.1 ++ tlL trialP (k.toNat - s.1.length) s.2.1 = tlL trialP k.toNat q0) (fun s => s.2.1) (([], q0, some bl, 0)) (⟨by simp; exact h31, Nat.zero_le _, rfl⟩) (by repeat (first | exact SubG.refl _ | exact SubG.nil | refine SubG.cons rfl (VT.le_refl _) ?_ | (refine SubG.cons rfl (one_le ?_) ?_; (congr 1; first | omega | (simp; omega) | simp)))) (.keep (sliO_eq (fun q hq => absurd hq (Nat.not_lt_zero _))) (.nil)) (fun s hs => ?_)
  refine J_norm (Γ' := [(6, _), (5, _), (1, _), (4, _)]) (M' := [_]) rfl rfl ?_
  obtain ⟨l, q, sv, cap⟩ := s
  obtain ⟨hs1, hs2, hs3⟩ := hs
  dsimp only at hs1 hs2 hs3 ⊢
  by_cases hk : (l.length : Int) < k
  · by_cases hq : q = 0
    · subst hq
      have hnil : tlL trialP (k.toNat - l.length) 0 = [] := by
        cases k.toNat - l.length with
        | zero => rfl
        | succ j => rfl
      rw [hnil, List.append_nil] at hs3
      refine J_seq (J_seq (J_reg (st (s_move rfl) rfl (st (s_lenO rfl) rfl (st (s_move rfl) rfl (st (sT (by assumption) (s_lt rfl rfl)) rfl (st (s_move rfl) rfl (sg1 rfl rfl (s_move rfl) rfl (sg1 rfl rfl (sF (by omega) (s_gt rfl rfl)) rfl ?_)))))))))
      refine st (s_pickT rfl rfl) rfl (Run.nil (pj_then (J_cond0 rfl (J_exit (px_then (px_then (px_block (pj_then (J_seq ?_)))))))))
      refine J_reg (st (s_move rfl) rfl (st (s_assign rfl) rfl (Run.nil (pj_then (J_ret (PJ_freeze (t := 4) (i := 0) rfl rfl ?_))))))
      refine retc1 Try.results31 (.tmp rfl (u64T_eq hs3))
    · have hB2 := hB q (by omega)
      have hlt := bf_lt (p := trialP) (n := q) (by omega)
      have hnx : tlL trialP (k.toNat - l.length) q = q :: tlL trialP (k.toNat - (l.length + 1)) (bf trialP q) := by
        obtain ⟨j, hj⟩ : ∃ j, k.toNat - l.length = j + 1 := ⟨k.toNat - l.length - 1, by omega⟩
        rw [hj, show k.toNat - (l.length + 1) = j by omega]
        show (if q = 0 then [] else q :: tlL trialP j (bf trialP q)) = _
        rw [if_neg hq]
      refine J_seq (J_seq (J_reg (st (s_move rfl) rfl (st (s_lenO rfl) rfl (st (s_move rfl) rfl (st (sT (by assumption) (s_lt rfl rfl)) rfl (st (s_move rfl) rfl (sg1 rfl rfl (s_move rfl) rfl (sg1 rfl rfl (sT (by omega) (s_gt rfl rfl)) rfl ?_)))))))))
      refine st (s_pickT rfl rfl) rfl (Run.nil (pj_then (J_cond1 rfl (J_skip (pj_then (J_seq (J_block (J_reg (st (s_move rfl) rfl ?_)))))))))
      refine st (s_move rfl) rfl (stS1 rfl rfl rfl rfl ?_)
      (refine a_append 0 rfl rfl rfl (leN rfl) ?_ ?_ rfl (ltN rfl) (fun sv23 cap23 => ?_); omega; omega)
      refine st (s_assign rfl) rfl (Run.nil (pn_block (pj_then (J_reg (st (s_move rfl) rfl ?_)))))
      refine st (s_callk (hB _ (by omega)) rfl ⟨VT.le_refl _, trivial⟩) rfl ?_
      refine st (s_assign rfl) rfl (Run.nil ?_)
      refine pj_roundM ((l ++ [q], bf trialP q, sv23, cap23)) (⟨by simp; omega, by simp; omega, by rw [List.append_assoc, ← hs3, hnx]; simp⟩) (by assumption) (by (repeat (first | exact SubG.nil | refine SubG.cons rfl (VT.le_refl _) ?_ | refine SubG.cons rfl (slV_eq (by simp)) ?_))) (.keep (lst_snoc) (.nil))
  · have hnil : tlL trialP (k.toNat - l.length) q = [] := by rw [show k.toNat - l.length = 0 by omega]; rfl
    rw [hnil, List.append_nil] at hs3
    refine J_seq (J_seq (J_reg (st (s_move rfl) rfl (st (s_lenO rfl) rfl (st (s_move rfl) rfl (st (sF (by assumption) (s_lt rfl rfl)) rfl (st (s_move rfl) rfl (sn0 rfl rfl rfl rfl rfl (sn0 rfl rfl rfl rfl rfl ?_)))))))))
    refine st (s_pickF rfl rfl) rfl (Run.nil (pj_then (J_cond0 rfl (J_exit (px_then (px_then (px_block (pj_then (J_seq ?_)))))))))
    refine J_reg (st (s_move rfl) rfl (st (s_assign rfl) rfl (Run.nil (pj_then (J_ret (PJ_freeze (t := 4) (i := 0) rfl rfl ?_))))))
    refine retc1 Try.results31 (.tmp rfl (u64T_eq hs3))
set_option maxHeartbeats 4000000 in
theorem s9Needed_ok (n : Nat) (b : Int) (hn : n < 18446744073709551616) (hb : mod4 b) (R : Option (List Nat)) (hR : ndL trialP (b + b) (min n 2147483648 + 2) 1 n = R) : Ok Try.prog 34 [bigT b, one (.int .u64 (n : Nat))] (u64T (R.getD [])) := by
  have hB := fun m (hm : m < 18446744073709551616) => s3Before_ok m hm
  have h1 := rOf_ok 1 (by decide) (by decide)
  have had := rAddI_ok b b (mod4_small hb) (mod4_small hb)
  have hbb : (b + b).natAbs ≤ 2 ^ 401 := Nat.le_trans (Int.natAbs_add_le b b) (Nat.le_trans (Nat.add_le_add hb hb) (by decide +kernel))
  have hbs : small (b + b) := small_le hbb (by decide +kernel)
  have hst : n < 18446744073709551616 ∧ ([] : List Nat).length + min n 2147483648 ≤ 2147483648 ∧ min n 2147483648 + 2 ≤ min n 2147483648 + 2 ∧ 1 ≤ 2 ^ 440 ∧ (match ndL trialP (b + b) (min n 2147483648 + 2) 1 n with | some r => R = some ([] ++ r) | none => R = none) := by
    refine ⟨hn, by show 0 + min n 2147483648 ≤ _; omega, Nat.le_refl _, by decide +kernel, ?_⟩
    rw [hR]; cases R <;> rfl
  refine Ok.enter Try.func34 rfl Try.ntmps34 rfl (fun w O => ?_)
  refine J_seq (J_reg ?_)
  refine a_box rfl rfl (ltN rfl) (fun b2 => ?_)
  refine st (s_assign rfl) rfl (Run.nil (pj_then (J_seq (J_reg (stSO (n := 0) rfl rfl rfl rfl rfl ?_)))))
  refine PartsK.nil (fun bl => ?_)
  refine st (s_assign rfl) rfl (Run.nil (pj_then (J_seq (J_reg ?_))))
  refine st (s_callk (h1 ) rfl ⟨VT.le_refl _, trivial⟩) rfl ?_
  refine a_alloc (T := 32) rfl (ltN rfl) (fun b6 => ?_)
  refine a_storeB 0 rfl rfl rfl rfl rfl (leN rfl) rfl (Run.nil (pj_then (J_seq (J_reg (st (s_move rfl) rfl (st (s_assign rfl) rfl (Run.nil (pj_then (J_block ?_)))))))))
  refine J_sub (Γ' := [(2, _), (4, _), (5, _), (6, _), (7, _)]) (SubG.cons rfl (VT.le_refl _) (SubG.cons rfl (VT.le_refl _) (SubG.cons rfl (VT.le_refl _) (SubG.cons rfl (VT.le_refl _) (SubG.cons rfl (VT.le_refl _) (SubG.nil)))))) (SubM.refl _) ?_
  refine J_loopA (σ := List Nat × Nat × Nat × Nat × Option Nat × Nat) (Γk := [(2, _), (6, _)]) (SubG.cons rfl (VT.le_refl _) (SubG.cons rfl (VT.le_refl _) (SubG.nil))) (fun s => [(7, one (.int .u64 (s.2.1 : Nat))), (5, one (slV s.2.2.2.2.1 s.1.length s.2.2.2.2.2))]) (fun s M0 => ((M0.set 1 (sliO s.2.2.2.2.1 59 .one s.2.2.2.2.2 s.1.length (fun q => one (.int .u64 (s.1.getD q 0 : Nat))))).set 0 (boxO b6 32 2 [(0, .agg 2, bigT (s.2.2.1 : Int))]))) (fun s => s.2.1 < 18446744073709551616 ∧ s.1.length + min s.2.1 2147483648 ≤ 2147483648 ∧ min s.2.1 2147483648 + 2 ≤ s.2.2.2.1 ∧ s.2.2.1 ≤ 2 ^ 440 ∧ (match ndL trialP (b + b) s.2.2.2.1 s.2.2.1 s.2.1 with | some r => R = some (s.1 ++ r) | none => R = none)) (fun s => min s.2.1 2147483648 + (if s.2.1 < 2147483648 then 0 else 1)) (([], n, 1, min n 2147483648 + 2, some bl, 0)) (hst) (by repeat (first | exact SubG.refl _ | exact SubG.nil | refine SubG.cons rfl (VT.le_refl _) ?_ | (refine SubG.cons rfl (one_le ?_) ?_; (congr 1; first | omega | (simp; omega) | simp)))) (.keep (Own.le_refl _) (.keep (sliO_eq (fun q hq => absurd hq (Nat.not_lt_zero _))) (.keep (Own.le_refl _) (.nil)))) (fun s hs => ?_)
  refine J_norm (Γ' := [(7, _), (5, _), (2, _), (6, _)]) (M' := [_, _, _]) rfl rfl ?_
  obtain ⟨l, q, pr, f, sv, cap⟩ := s
  obtain ⟨hq, hl, hf, hp, hI⟩ := hs
  dsimp only at hq hl hf hp hI ⊢
  obtain ⟨f, rfl⟩ : ∃ f', f = f' + 1 := ⟨f - 1, by omega⟩
  have hnd : ndL trialP (b + b) (f + 1) pr q = if b + b < (pr : Int) then some [] else if bf trialP q = 0 then none else (ndL trialP (b + b) f (pr * bf trialP q) (bf trialP q)).map (bf trialP q :: ·) := rfl
  have hc := rCmpI_ok (pr : Int) (b + b) (small_le (n := 2 ^ 440) (by rw [Int.natAbs_natCast]; exact hp) (by decide +kernel)) hbs
  have hgt := gtc (x := (pr : Int)) (y := b + b)
  by_cases hlt : b + b < (pr : Int)
  · have hcc := hgt.2 hlt
    rw [hnd, if_pos hlt] at hI
    have hI : R = some (l ++ []) := hI
    rw [List.append_nil] at hI
    subst hI
    generalize cmpI (pr : Int) (b + b) = cc at *
    refine J_block (J_seq (J_seq (J_regd 6 mixed (by kernel_rfl) (by decide) (st (s_loadB 0 rfl rfl rfl) rfl (st (s_loadB 2 rfl rfl rfl) rfl (st (s_loadB 2 rfl rfl rfl) rfl ?_))))))
    refine st (s_callk (had ) rfl ⟨VT.le_refl _, VT.le_refl _, trivial⟩) rfl ?_
    refine st (s_callk (hc ) rfl ⟨VT.le_refl _, VT.le_refl _, trivial⟩) rfl ?_
    refine st (sT (by assumption) (s_gt rfl rfl)) rfl (Run.nil (Run.nil (pj_then (J_cond1 rfl (J_seq (J_reg (st (s_move rfl) rfl (st (s_assign rfl) rfl (Run.nil ?_)))))))))
    refine pj_then (J_ret (pr_then (pr_block (pr_then (pr_block (PJ_freeze (t := 4) (i := 1) rfl rfl ?_))))))
    refine retc1 Try.results34 (.tmp rfl (VT.le_refl _))
  · have hcc : ¬ 0 < cmpI (pr : Int) (b + b) := fun h => hlt (hgt.1 h)
    rw [hnd, if_neg hlt] at hI
    generalize cmpI (pr : Int) (b + b) = cc at *
    have hB1 := hB q hq
    clear hB
    have h31 := bf_lt31 (p := trialP) (n := q)
    have hle := befN_le trialP (min q 2147483648)
    generalize hq1 : bf trialP q = q1 at *
    have hle : q1 ≤ min q 2147483648 - 1 := by rw [← hq1]; exact hle
    by_cases hz : q1 = 0
    · rw [if_pos hz] at hI
      have hI : R = none := hI
      subst hI
      subst hz
      refine J_block (J_seq (J_seq (J_regd 6 mixed (by kernel_rfl) (by decide) (st (s_loadB 0 rfl rfl rfl) rfl (st (s_loadB 2 rfl rfl rfl) rfl (st (s_loadB 2 rfl rfl rfl) rfl ?_))))))
      refine st (s_callk (had ) rfl ⟨VT.le_refl _, VT.le_refl _, trivial⟩) rfl ?_
      refine st (s_callk (hc ) rfl ⟨VT.le_refl _, VT.le_refl _, trivial⟩) rfl ?_
      refine st (sF (by assumption) (s_gt rfl rfl)) rfl (Run.nil (Run.nil (pj_then (J_cond0 rfl (J_skip (pj_then (J_seq (J_reg (st (s_move rfl) rfl ?_)))))))))
      refine st (s_callk (hB1 ) rfl ⟨VT.le_refl _, trivial⟩) rfl ?_
      refine st (s_assign rfl) rfl (Run.nil (pj_then (J_seq (J_seq (J_reg (st (s_move rfl) rfl (st (sT (by omega) (s_eq rfl rfl)) rfl (Run.nil (pj_then ?_)))))))))
      refine J_cond1 rfl (J_seq (J_reg (st (s_assign rfl) rfl (Run.nil (pj_then (J_ret (pr_then (pr_block (pr_then ?_)))))))))
      refine pr_block ?_
      refine retc1 Try.results34 (.tmp rfl (nil_u64))
    · rw [if_neg hz] at hI
      have hpr : pr ≤ 2 ^ 401 := by
        have h1 := Int.not_lt.1 hlt
        omega
      have hpq : pr * q1 ≤ 2 ^ 440 := Nat.le_trans (Nat.mul_le_mul hpr (Nat.le_of_lt h31)) (by decide +kernel)
      have ho := rOf_ok (q1 : Int) (by omega) (by omega)
      have hm := rMulI_ok (pr : Int) (q1 : Int) (small_le (n := 2 ^ 440) (by rw [Int.natAbs_natCast]; exact hp) (by decide +kernel)) (u64_small (by omega))
      have hcast : (pr : Int) * (q1 : Int) = ((pr * q1 : Nat) : Int) := (Int.natCast_mul _ _).symm
      have hnx : q1 < 18446744073709551616 ∧ (l ++ [q1]).length + min q1 2147483648 ≤ 2147483648 ∧ min q1 2147483648 + 2 ≤ f ∧ pr * q1 ≤ 2 ^ 440 ∧ (match ndL trialP (b + b) f (pr * q1) q1 with | some r => R = some ((l ++ [q1]) ++ r) | none => R = none) := by
        refine ⟨by omega, by simp; omega, by omega, hpq, ?_⟩
        cases hn2 : ndL trialP (b + b) f (pr * q1) q1 with
        | none => rw [hn2] at hI; exact hI
        | some r =>
          rw [hn2] at hI
          have hI : R = some (l ++ (q1 :: r)) := hI
          show R = some ((l ++ [q1]) ++ r)
          rw [hI, List.append_assoc]; rfl
      refine J_block (J_seq (J_seq (J_regd 6 mixed (by kernel_rfl) (by decide) (st (s_loadB 0 rfl rfl rfl) rfl (st (s_loadB 2 rfl rfl rfl) rfl (st (s_loadB 2 rfl rfl rfl) rfl ?_))))))
      refine st (s_callk (had ) rfl ⟨VT.le_refl _, VT.le_refl _, trivial⟩) rfl ?_
      refine st (s_callk (hc ) rfl ⟨VT.le_refl _, VT.le_refl _, trivial⟩) rfl ?_
      refine st (sF (by assumption) (s_gt rfl rfl)) rfl (Run.nil (Run.nil (pj_then (J_cond0 rfl (J_skip (pj_then (J_seq (J_reg (st (s_move rfl) rfl ?_)))))))))
      refine st (s_callk (hB1 ) rfl ⟨VT.le_refl _, trivial⟩) rfl ?_
      refine st (s_assign rfl) rfl (Run.nil (pj_then (J_seq (J_seq (J_reg (st (s_move rfl) rfl (st (sF (by omega) (s_eq rfl rfl)) rfl (Run.nil (pj_then ?_)))))))))
      refine J_cond0 rfl (J_skip (pj_then (J_seq (J_reg (st (s_move rfl) rfl (st (s_move rfl) rfl (stS1 rfl rfl rfl rfl ?_)))))))
      (refine a_append 1 rfl rfl rfl (leN rfl) ?_ ?_ rfl (ltN rfl) (fun sv25 cap25 => ?_); omega; omega)
      refine st (s_assign rfl) rfl (Run.nil (pj_then (J_regd 5 mixed (by kernel_rfl) (by decide) (st (s_loadB 0 rfl rfl rfl) rfl (st (s_move rfl) rfl (st (s_toI64 rfl (by omega) (by omega)) rfl ?_))))))
      refine st (s_callk (ho ) rfl ⟨VT.le_refl _, trivial⟩) rfl ?_
      refine st (s_callk (hm ) rfl ⟨VT.le_refl _, VT.le_refl _, trivial⟩) rfl ?_
      refine Run.nil (a_storeB 0 rfl rfl rfl rfl rfl (leN rfl) rfl (Run.nil (pn_block ?_)))
      refine pj_roundM ((l ++ [q1], q1, pr * q1, f, sv25, cap25)) (hnx) (by (dsimp only; split <;> split <;> omega)) (by (repeat (first | exact SubG.nil | refine SubG.cons rfl (VT.le_refl _) ?_ | refine SubG.cons rfl (slV_eq (by simp)) ?_))) (.keep (Own.le_refl _) (.keep (lst_snoc) (.keep (Own.le_refl _) (.nil))))
end Tor
end
section
namespace Tor
open Go Go.RowKit Go.Proofs
abbrev U64 := Fin 18446744073709551616
def encU (x : U64) : Value := .int .u64 (x.val : Nat)
def dnL (c k : Nat) : List U64 := (List.range k).map fun i => ⟨(c - 1 - i) % 18446744073709551616, Nat.mod_lt _ (by decide)⟩
theorem dnL_succ {c k : Nat} : dnL c (k + 1) = dnL c k ++ [⟨(c - 1 - k) % 18446744073709551616, Nat.mod_lt _ (by decide)⟩] := by simp [dnL, List.range_succ]
theorem dnL_len {c k : Nat} : (dnL c k).length = k := by simp [dnL]
theorem befN_dnL {p : Nat → Bool} {c : Nat} (hc : c < 18446744073709551616) : ∀ k, k ≤ c → (∀ y ∈ dnL c k, p y.val = false) → befN p c = befN p (c - k)
  | 0, _, _ => rfl
  | k + 1, hk, h => by
    rw [befN_dnL hc k (by omega) (fun y hy => h y (by rw [dnL_succ]; exact List.mem_append.2 (.inl hy)))]
    have h1 := h ⟨(c - 1 - k) % 18446744073709551616, Nat.mod_lt _ (by decide)⟩ (by rw [dnL_succ]; exact List.mem_append.2 (.inr (List.mem_singleton.2 rfl)))
    have h1 : p ((c - 1 - k) % 18446744073709551616) = false := h1
    rw [Nat.mod_eq_of_lt (by omega)] at h1
    rw [show c - k = (c - 1 - k) + 1 by omega, befN, if_neg (by rw [h1]; simp), show c - (k + 1) = c - 1 - k by omega]
attribute [local irreducible] Tor.J Tor.PJ Tor.StepO Tor.one Tor.slT Tor.ptrT Tor.aggT Tor.tupT Tor.exT Tor.andT Tor.eP Tor.boxO Tor.sliO Tor.slV Tor.VT.le Tor.Ret Tor.anyT
set_option maxHeartbeats 4000000 in
theorem down1_ok (n : Nat) (hn : n < 18446744073709551616) : OkY Try.prog 94 [ptrT .one (one (.int .u64 (n : Nat)))] encU (fun xs => xs = dnL (min n 2147483648) (min n 2147483648)) (fun pre => ∃ k, k < min n 2147483648 ∧ pre = dnL (min n 2147483648) (k + 1)) (min n 2147483648) := by
  refine OkY.enter Try.func94 rfl Try.ntmps94 rfl (fun w0 l J Jx B hA hAx hY h0 => ?_)
  refine J_seq (J_reg (st (s_load rfl) rfl (st (s_min rfl rfl) rfl (st (s_assign rfl) rfl (Run.nil (pj_then (J_block ?_)))))))
  obtain ⟨c, hc⟩ : ∃ c : Nat, c = min n 2147483648 := ⟨_, rfl⟩
  have hcl : c < 18446744073709551616 := by omega
  have hci : (min (n : Int) 2147483648) = (c : Int) := by omega
  rw [hci]
  rw [← hc] at hY ⊢
  refine J_toY [(0, one (.func (.yield l) #[] #[])), (3, one (.int .u64 (c : Nat)))] (.cons rfl (VT.le_refl _) (.cons rfl (VT.le_refl _) .nil)) (.cons (.cons .nil)) (fun w1 hw1 => ?_)
  refine J_loop (σ := Nat × World) (fun s => [(0, one (.func (.yield l) #[] #[])), (3, one (.int .u64 ((c - s.1 : Nat) : Int)))]) (fun s => [yO s.2]) (fun s => s.1 ≤ c ∧ SameW w1 s.2 ∧ J (dnL c s.1) s.2) (fun s => c - s.1) (0, w1)
    ⟨Nat.zero_le _, SameW.refl _, abide hA h0 hw1⟩ (SubG.refl _) (SubM.refl _) (fun s hs => ?_)
  obtain ⟨k, W⟩ := s
  obtain ⟨hk, hsw, hJ⟩ := hs
  dsimp only at hk hsw hJ ⊢
  by_cases hlt : k < c
  · have hv : one (.int .u64 ((c - k - 1 : Nat) : Int)) = one (encU ⟨(c - 1 - k) % 18446744073709551616, Nat.mod_lt _ (by decide)⟩) := by
      have e : (c - 1 - k) % 18446744073709551616 = c - k - 1 := by omega
      show _ = one (.int .u64 (((c - 1 - k) % 18446744073709551616 : Nat) : Int))
      rw [e]
    refine J_seq (J_seq (J_reg ?_))
    refine st (s_move rfl) rfl (st (sT (by omega) (s_gt rfl rfl)) rfl (Run.nil ?_))
    refine pj_then (J_cond1 rfl (J_skip (pj_then (J_seq (J_block (J_seq ?_))))))
    refine J_yreg (m := 3) ⟨(c - 1 - k) % 18446744073709551616, Nat.mod_lt _ (by decide)⟩ [(0, one (.func (.yield l) #[] #[])), (3, one (.int .u64 ((c - k : Nat) : Int)))] hY hA hsw hJ (by rw [dnL_len]; exact hlt) rfl rfl (.cons (.cons .nil)) ?_ (fun W' hJ' hw' => ?_) (fun W' hx' => ?_)
    · refine st (s_move rfl) rfl (st (s_move rfl) rfl (st (s_subC 1 rfl rfl (by omega) (by omega)) rfl (Run.nil ?_)))
      exact ⟨rfl, rfl, rfl, congrArg some hv, .cons rfl (VT.le_refl _) (.cons rfl (VT.le_refl _) .nil)⟩
    · rw [← dnL_succ] at hJ'
      refine st (s_not rfl) rfl (Run.nil (pj_then (J_cond0 rfl (J_skip (pn_block (pj_then (J_reg (st (s_move rfl) rfl (st (s_subC 1 rfl rfl (by omega) (by omega)) rfl ?_)))))))))
      refine st (s_assign rfl) rfl (Run.nil ?_)
      refine pj_roundM (k + 1, W') ?_ ?_ ?_ (SubM.refl _)
      · exact ⟨hlt, hw', hJ'⟩
      · show c - (k + 1) < c - k; omega
      · exact .cons rfl (VT.le_refl _) (.cons rfl (one_le (by rw [Nat.sub_sub])) .nil)
    · rw [← dnL_succ] at hx'
      refine st (s_not rfl) rfl (Run.nil (pj_then (J_cond1 rfl (J_ret (pr_block (pr_then (pr_then (pr_block ?_))))))))
      exact pj_ystop rfl hAx hx' ⟨k, hlt, rfl⟩ (SameW.refl _)
  · obtain rfl : k = c := by omega
    refine J_seq (J_seq (J_reg (st (s_move rfl) rfl (st (sF (by omega) (s_gt rfl rfl)) rfl (Run.nil (pj_then (J_cond0 rfl (J_exit (px_then ?_)))))))))
    refine px_then (px_block ?_)
    exact pj_ydone rfl hA hJ rfl hsw
set_option maxHeartbeats 4000000 in
theorem first_ok (n : Nat) (hn : n < 18446744073709551616) : Ok Try.prog 79 [cloT 94 [ptrT .one (one (.int .u64 (n : Nat)))]] (one (.int .u64 (bf primeB n : Nat))) := by
  refine Ok.enterR Try.func79 rfl Try.ntmps79 rfl (fun w O => ?_)
  refine J_seq (J_reg ?_)
  refine a_alloc (T := 59) rfl (ltN rfl) (fun b2 => ?_)
  refine Run.nil (pj_then (J_seq (J_seq (J_reg (st (s_move rfl) rfl (Run.nil (pj_then (J_block ?_))))))))
  refine J_range (α := U64) (σ := Nat) (down1_ok n hn) (fun v => [boxO b2 59 1 [(0, .one, one (.int .u64 (v : Nat)))]]) (fun pre v => v = 0 ∧ ∀ x ∈ pre, primeB x.val = false)
    (fun e pre v => e = none ∧ ∃ init x, pre = init ++ [x] ∧ v = x.val ∧ primeB x.val = true ∧ ∀ y ∈ init, primeB y.val = false) 0 rfl rfl ⟨rfl, fun x h => by cases h⟩ (SubM.refl _) rfl rfl (by simp [noDef, noDefO])
    (fun l W pre x v hv hlen => ?_) (fun xs v D hxs hv => ?_) (fun pre v D hpre hv => ?_) (fun id pre v D hpre hv => absurd hv.1 (by simp))
  · obtain ⟨rfl, hv⟩ := hv
    have hx := x.isLt
    unfold encU
    cases hp : primeB x.val with
    | true =>
      refine J_block (J_seq (J_reg (st (s_move rfl) rfl ?_)))
      refine st (sBt (by assumption) (s_callk (mPrime_ok _ (by assumption)) rfl ⟨VT.le_refl _, trivial⟩)) rfl ?_
      refine Run.nil (pj_then (J_cond1 rfl (J_seq (J_reg (st (s_move rfl) rfl (a_storeB 0 rfl rfl rfl rfl rfl (leN rfl) rfl (Run.nil (pj_then (J_ret ?_)))))))))
      refine pr_block ?_
      exact pj_rret (x.val : Nat) ⟨rfl, pre, x, rfl, rfl, hp, hv⟩ (SubM.refl _)
    | false =>
      refine J_block (J_seq (J_reg (st (s_move rfl) rfl ?_)))
      refine st (sBf (by assumption) (s_callk (mPrime_ok _ (by assumption)) rfl ⟨VT.le_refl _, trivial⟩)) rfl ?_
      refine Run.nil (pj_then (J_cond0 rfl (J_skip (pn_block ?_))))
      exact pj_rnext 0 ⟨rfl, fun y hy => by rcases List.mem_append.1 hy with h | h; exact hv y h; rw [List.mem_singleton.1 h]; exact hp⟩ (SubM.refl _)
  · have hz : bf primeB n = 0 := by
      have := befN_dnL (p := primeB) (c := min n 2147483648) (by omega) (min n 2147483648) (Nat.le_refl _) (fun y hy => hv.2 y (hxs ▸ hy))
      rw [Nat.sub_self] at this
      exact this
    refine pn_block (pj_then (J_seq (J_reg (a_storeB 1 rfl rfl rfl rfl rfl (leN rfl) rfl (Run.nil (pj_then (J_ret ?_)))))))
    rw [hz]
    refine pj_mark ?_
    refine retc1 Try.results79 (.cellB 0 rfl rfl rfl (VT.le_refl _))
  · obtain ⟨k, hk, hpre⟩ := hpre
    obtain ⟨_, init, x, h1, rfl, h3, h4⟩ := hv
    have hz : bf primeB n = x.val := by
      rw [hpre, dnL_succ] at h1
      obtain ⟨e1, e2⟩ := List.append_inj' h1 rfl
      have e2 : (⟨(min n 2147483648 - 1 - k) % 18446744073709551616, Nat.mod_lt _ (by decide)⟩ : U64) = x := by simpa using e2
      have hb := befN_dnL (p := primeB) (c := min n 2147483648) (by omega) k (by omega) (fun y hy => h4 y (e1 ▸ hy))
      have e3 : x.val = min n 2147483648 - 1 - k := by rw [← e2]; show (min n 2147483648 - 1 - k) % 18446744073709551616 = _; omega
      show befN primeB (min n 2147483648) = _
      rw [hb, show min n 2147483648 - k = (min n 2147483648 - 1 - k) + 1 by omega, befN, if_pos (by rw [← e3]; exact h3), e3]
    refine pr_block (pr_then ?_)
    rw [hz]
    refine pj_mark ?_
    refine retc1 Try.results79 (.cellB 0 rfl rfl rfl (VT.le_refl _))
set_option maxHeartbeats 4000000 in
theorem downward_ok (n : Nat) (hn : n < 18446744073709551616) : Ok Try.prog 80 [one (.int .u64 (n : Nat))] (cloT 94 [ptrT .one (one (.int .u64 (n : Nat)))]) := by
  refine Ok.enter Try.func80 rfl Try.ntmps80 rfl (fun w O => ?_)
  refine J_seq (J_reg ?_)
  refine a_box rfl rfl (ltN rfl) (fun b1 => ?_)
  refine st (s_assign rfl) rfl (Run.nil (pj_then (J_seq (J_reg (st (s_makeFunc rfl) rfl (st (s_assign rfl) rfl (Run.nil (pj_then (J_ret ?_)))))))))
  refine PJ_open [boxO b1 59 1 [(0, .one, one (.int .u64 (n : Nat)))]] (Kp := []) (Kp' := []) (List.Perm.refl _) (EntM.refl []) (EntG.set (t := 2) rfl (Ent.clo1 (Ent.ptr List.mem_cons_self List.mem_cons_self))) ?_
  refine retc1 Try.results80 (.tmp rfl (VT.le_refl _))
set_option maxHeartbeats 4000000 in
theorem before_ok (n : Nat) (hn : n < 18446744073709551616) : Ok Try.prog 69 [one (.int .u64 (n : Nat))] (one (.int .u64 (bf primeB n : Nat))) := by
  refine Ok.enter Try.func69 rfl Try.ntmps69 rfl (fun w O => ?_)
  have h1 := downward_ok n hn
  have h2 := first_ok n hn
  refine J_seq (J_reg (st (s_assign rfl) rfl (Run.nil (pj_then (J_seq (J_reg (st (s_move rfl) rfl ?_)))))))
  refine st (s_callk (h1 ) rfl ⟨VT.le_refl _, trivial⟩) rfl ?_
  refine st (s_callk (h2 ) rfl ⟨VT.le_refl _, trivial⟩) rfl ?_
  refine st (s_assign rfl) rfl (Run.nil (pj_then (J_ret ?_)))
  refine retc1 Try.results69 (.tmp rfl (VT.le_refl _))
end Tor
end
section
namespace Tor
open Go Go.RowKit Go.Proofs
def pk (p : Nat → Bool) (n : Nat) : Nat → Nat
  | 0 => bf p n
  | k + 1 => bf p (pk p n k)
def toU (x : Nat) : U64 := ⟨x % 18446744073709551616, Nat.mod_lt _ (by decide)⟩
def blL (p : Nat → Bool) (n k : Nat) : List U64 := (List.range k).map fun i => toU (pk p n i)
theorem blL_succ {p : Nat → Bool} {n k : Nat} : blL p n (k + 1) = blL p n k ++ [toU (pk p n k)] := by simp [blL, List.range_succ]
theorem blL_len {p : Nat → Bool} {n k : Nat} : (blL p n k).length = k := by simp [blL]
theorem pk_lt {p : Nat → Bool} {n : Nat} : ∀ k, pk p n k < 2147483648
  | 0 => bf_lt31
  | k + 1 => bf_lt31
theorem blL_val {p : Nat → Bool} {n k : Nat} : (blL p n k).map (·.val) = (List.range k).map (pk p n) := by
  unfold blL
  rw [List.map_map]
  refine List.map_congr_left fun i _ => ?_
  have := pk_lt (p := p) (n := n) i
  show pk p n i % 18446744073709551616 = _
  omega
theorem pk_dec {p : Nat → Bool} {n : Nat} : ∀ k, (∀ i, i < k → pk p n i ≠ 0) → pk p n k + k ≤ bf p n
  | 0, _ => Nat.le_refl _
  | k + 1, h => by
    have h1 := pk_dec k (fun i hi => h i (by omega))
    have h2 := h k (by omega)
    have h3 := bf_lt (p := p) (n := pk p n k) (by omega)
    show bf p (pk p n k) + (k + 1) ≤ _
    omega
theorem tlL_pk {p : Nat → Bool} {n : Nat} : ∀ k m, (∀ i, i < k → pk p n i ≠ 0) → tlL p (k + m) (bf p n) = (List.range k).map (pk p n) ++ tlL p m (pk p n k)
  | 0, m, _ => by simp [pk]
  | k + 1, m, h => by
    rw [show k + 1 + m = k + (m + 1) by omega, tlL_pk k (m + 1) (fun i hi => h i (by omega)), tlL, if_neg (h k (by omega)), List.range_succ, List.map_append, List.append_assoc]
    rfl
theorem nil_box {b : Nat} {T : TypeId} {M : Mem} : SubM (boxO b T 1 [(0, .one, one (.slice none 0 0))] :: M) (boxO b T 1 [(0, .one, one (slV none 0 0))] :: M) := SubM.refl _
theorem box_snoc {b : Nat} {T : TypeId} {φ : VT} {sv : Option Nat} {l l' cap : Nat} (h : l + 1 = l') : Own.le (boxO b T 1 (setC [(0, .one, φ)] 0 (one (slV sv (l + 1) cap)))) (boxO b T 1 [(0, .one, one (slV sv l' cap))]) := by
  subst h; exact Own.le_refl _
attribute [local irreducible] Tor.J Tor.PJ Tor.StepO Tor.one Tor.slT Tor.ptrT Tor.aggT Tor.tupT Tor.exT Tor.andT Tor.eP Tor.boxO Tor.sliO Tor.slV Tor.VT.le Tor.Ret Tor.anyT
set_option maxHeartbeats 4000000 in
theorem below1_ok (n : Nat) (hn : n < 18446744073709551616) : OkY Try.prog 68 [ptrT .one (one (.int .u64 (n : Nat)))] encU (fun xs => ∃ k, xs = blL primeB n k ∧ pk primeB n k = 0 ∧ ∀ i, i < k → pk primeB n i ≠ 0)
    (fun pre => ∃ k, pre = blL primeB n (k + 1) ∧ ∀ i, i < k + 1 → pk primeB n i ≠ 0) 2147483648 := by
  refine OkY.enter Try.func68 rfl Try.ntmps68 rfl (fun w0 l J Jx B hA hAx hY h0 => ?_)
  have hb0 := before_ok n hn
  refine J_seq (J_reg (st (s_load rfl) rfl ?_))
  refine st (s_callk (hb0 ) rfl ⟨VT.le_refl _, trivial⟩) rfl ?_
  refine st (s_assign rfl) rfl (Run.nil (pj_then (J_block ?_)))
  refine J_toY [(0, one (.func (.yield l) #[] #[])), (3, one (.int .u64 (pk primeB n 0 : Nat)))] (.cons rfl (VT.le_refl _) (.cons rfl (VT.le_refl _) .nil)) (.cons (.cons .nil)) (fun w1 hw1 => ?_)
  refine J_loop (σ := Nat × World) (fun s => [(0, one (.func (.yield l) #[] #[])), (3, one (.int .u64 (pk primeB n s.1 : Nat)))]) (fun s => [yO s.2]) (fun s => (∀ i, i < s.1 → pk primeB n i ≠ 0) ∧ SameW w1 s.2 ∧ J (blL primeB n s.1) s.2) (fun s => pk primeB n s.1) (0, w1)
    ⟨fun i hi => absurd hi (Nat.not_lt_zero _), SameW.refl _, abide hA h0 hw1⟩ (SubG.refl _) (SubM.refl _) (fun s hs => ?_)
  obtain ⟨k, W⟩ := s
  obtain ⟨hk, hsw, hJ⟩ := hs
  dsimp only at hk hsw hJ ⊢
  have hlt := pk_lt (p := primeB) (n := n) k
  have hdec := pk_dec (p := primeB) (n := n) k hk
  have hlt0 := bf_lt31 (p := primeB) (n := n)
  by_cases hz : pk primeB n k = 0
  · refine J_seq (J_seq (J_reg (st (s_move rfl) rfl (st (sF (by omega) (s_gt rfl rfl)) rfl (Run.nil (pj_then (J_cond0 rfl (J_exit (px_then ?_)))))))))
    refine px_then (px_block ?_)
    exact pj_ydone rfl hA hJ ⟨k, rfl, hz, hk⟩ hsw
  · have hk' : ∀ i, i < k + 1 → pk primeB n i ≠ 0 := fun i hi => by
      by_cases e : i = k
      · exact e ▸ hz
      · exact hk i (by omega)
    have hv : one (.int .u64 ((pk primeB n k : Nat) : Int)) = one (encU (toU (pk primeB n k))) := by
      show _ = one (.int .u64 ((pk primeB n k % 18446744073709551616 : Nat) : Int))
      rw [Nat.mod_eq_of_lt (by omega)]
    refine J_seq (J_seq (J_reg ?_))
    refine st (s_move rfl) rfl (st (sT (by omega) (s_gt rfl rfl)) rfl (Run.nil ?_))
    refine pj_then (J_cond1 rfl (J_skip (pj_then (J_seq (J_block (J_seq ?_))))))
    refine J_yreg (m := 2) (toU (pk primeB n k)) [(0, one (.func (.yield l) #[] #[])), (3, one (.int .u64 (pk primeB n k : Nat)))] hY hA hsw hJ (by rw [blL_len]; omega) rfl rfl (.cons (.cons .nil)) ?_ (fun W' hJ' hw' => ?_) (fun W' hx' => ?_)
    · refine st (s_move rfl) rfl (st (s_move rfl) rfl (Run.nil ?_))
      exact ⟨rfl, rfl, rfl, congrArg some hv, .cons rfl (VT.le_refl _) (.cons rfl (VT.le_refl _) .nil)⟩
    · rw [← blL_succ] at hJ'
      have hb1 := before_ok (pk primeB n k) (by omega)
      refine st (s_not rfl) rfl (Run.nil (pj_then (J_cond0 rfl (J_skip (pn_block (pj_then (J_reg (st (s_move rfl) rfl ?_))))))))
      refine st (s_callk (hb1 ) rfl ⟨VT.le_refl _, trivial⟩) rfl ?_
      refine st (s_assign rfl) rfl (Run.nil ?_)
      refine pj_roundM (k + 1, W') ?_ ?_ ?_ (SubM.refl _)
      · exact ⟨hk', hw', hJ'⟩
      · exact bf_lt (by omega)
      · exact .cons rfl (VT.le_refl _) (.cons rfl (VT.le_refl _) .nil)
    · rw [← blL_succ] at hx'
      refine st (s_not rfl) rfl (Run.nil (pj_then (J_cond1 rfl (J_ret (pr_block (pr_then (pr_then (pr_block ?_))))))))
      exact pj_ystop rfl hAx hx' ⟨k, rfl, hk'⟩ (SameW.refl _)
set_option maxHeartbeats 4000000 in
theorem below_ok (n : Nat) (hn : n < 18446744073709551616) : Ok Try.prog 49 [one (.int .u64 (n : Nat))] (cloT 68 [ptrT .one (one (.int .u64 (n : Nat)))]) := by
  refine Ok.enter Try.func49 rfl Try.ntmps49 rfl (fun w O => ?_)
  refine J_seq (J_reg ?_)
  refine a_box rfl rfl (ltN rfl) (fun b1 => ?_)
  refine st (s_assign rfl) rfl (Run.nil (pj_then (J_seq (J_reg (st (s_makeFunc rfl) rfl (st (s_assign rfl) rfl (Run.nil (pj_then (J_ret ?_)))))))))
  refine PJ_open [boxO b1 59 1 [(0, .one, one (.int .u64 (n : Nat)))]] (Kp := []) (Kp' := []) (List.Perm.refl _) (EntM.refl []) (EntG.set (t := 2) rfl (Ent.clo1 (Ent.ptr List.mem_cons_self List.mem_cons_self))) ?_
  refine retc1 Try.results49 (.tmp rfl (VT.le_refl _))
set_option maxHeartbeats 4000000 in
theorem Primes_ok (n : Nat) (k : Int) (hn : n < 18446744073709551616) (hk : k < 9223372036854775808) (hk' : -9223372036854775808 ≤ k) : Ok Try.prog 29 [one (.int .u64 (n : Nat)), one (.int .i64 k)] (u64T (tlL primeB k.toNat (bf primeB n))) := by
  refine Ok.enterR Try.func29 rfl Try.ntmps29 rfl (fun w O => ?_)
  have hb := below_ok n hn
  by_cases h0 : k ≤ 0
  · have e : k.toNat = 0 := by omega
    rw [e]
    refine J_seq (J_reg ?_)
    refine a_box rfl rfl (ltN rfl) (fun b3 => ?_)
    refine st (s_assign rfl) rfl (Run.nil (pj_then (J_scope (J_seq (J_seq (J_reg (st (s_loadB 0 rfl rfl rfl) rfl (st (sT (by assumption) (s_le rfl rfl)) rfl (Run.nil ?_)))))))))
    refine pj_then (J_cond1 rfl (J_seq (J_reg (st (s_assign rfl) rfl (Run.nil (pj_then (J_ret (pr_then (pr_scope ?_)))))))))
    refine pj_nomark ?_
    refine retc1 Try.results29 (.tmp rfl (nil_u64))
  · refine J_seq (J_reg ?_)
    refine a_box rfl rfl (ltN rfl) (fun b3 => ?_)
    refine st (s_assign rfl) rfl (Run.nil (pj_then (J_scope (J_seq (J_seq (J_reg (st (s_loadB 0 rfl rfl rfl) rfl (st (sF (by assumption) (s_le rfl rfl)) rfl (Run.nil ?_)))))))))
    refine pj_then (J_cond0 rfl (J_skip (pj_then (J_seq (J_reg ?_)))))
    refine a_alloc (T := 60) rfl (ltN rfl) (fun b5 => ?_)
    refine Run.nil (pj_then (J_seq (J_label (pj_then (J_seq (J_seq (J_reg (st (s_move rfl) rfl ?_))))))))
    refine st (s_callk (hb ) rfl ⟨VT.le_refl _, trivial⟩) rfl ?_
    refine Run.nil (pj_then (J_block ?_))
    refine J_conv (ConvM.nilSl0 (T := 59) (L := .one) (φ := fun _ => anyT) _) ?_
    refine J_range (α := U64) (σ := Option Nat × Nat × List Nat) (below1_ok n hn) (fun s => [sliO s.1 59 .one s.2.1 s.2.2.length (fun q => one (.int .u64 (s.2.2.getD q 0 : Nat))), boxO b5 60 1 [(0, .one, one (slV s.1 s.2.2.length s.2.1))], boxO b3 3 1 [(0, .one, one (.int .i64 k))]])
      (fun pre s => s.2.2 = pre.map (·.val) ∧ (pre.length : Int) < k) (fun e pre s => e = some 0 ∧ s.2.2 = pre.map (·.val) ∧ (pre.length : Int) = k) (none, 0, []) rfl rfl ⟨rfl, by simp; omega⟩
      (.keep (sliO_eq (fun q hq => absurd hq (Nat.not_lt_zero _))) nil_box) rfl rfl (by simp [noDef, noDefO])
      (fun l W pre x s hs hlen => ?_) (fun xs s D hxs hs => ?_) (fun pre s D hpre hs => absurd hs.1 (by simp)) (fun id pre s D hpre hs => ?_)
    · obtain ⟨sv, cap, m⟩ := s
      obtain ⟨hm, hl⟩ := hs
      dsimp only at hm hl ⊢
      have hx := x.isLt
      have hml : m.length = pre.length := by rw [hm]; simp
      unfold encU
      have hend : (m ++ [x.val]) = (pre ++ [x]).map (·.val) := by rw [hm]; simp
      by_cases he : (m.length : Int) + 1 = k
      · refine J_block (J_seq (J_reg (st (s_loadB 1 rfl rfl rfl) rfl (st (s_move rfl) rfl (stS1 rfl rfl rfl rfl ?_)))))
        (refine a_append 0 rfl rfl rfl (leN rfl) ?_ ?_ rfl (ltN rfl) (fun sv15 cap15 => ?_); omega; omega)
        refine a_storeB 1 rfl rfl rfl rfl rfl (leN rfl) rfl (Run.nil (pj_then (J_seq (J_reg (st (s_loadB 1 rfl rfl rfl) rfl (st (s_lenO rfl) rfl (Run.nil (pj_then (J_block ?_)))))))))
        refine J_seq (J_reg (st (s_loadB 2 rfl rfl rfl) rfl (st (sT (by assumption) (s_eq rfl rfl)) rfl (st (s_assign rfl) rfl (Run.nil (pj_then (J_cond1 rfl (J_exit (px_block_ne rfl ?_)))))))))
        refine px_block_ne rfl ?_
        exact pj_rexit (sv15, cap15, m ++ [x.val]) ⟨rfl, hend, by simp; omega⟩ (.keep lst_snoc (.keep (box_snoc (by simp)) (SubM.refl _)))
      · refine J_block (J_seq (J_reg (st (s_loadB 1 rfl rfl rfl) rfl (st (s_move rfl) rfl (stS1 rfl rfl rfl rfl ?_)))))
        (refine a_append 0 rfl rfl rfl (leN rfl) ?_ ?_ rfl (ltN rfl) (fun sv15 cap15 => ?_); omega; omega)
        refine a_storeB 1 rfl rfl rfl rfl rfl (leN rfl) rfl (Run.nil (pj_then (J_seq (J_reg (st (s_loadB 1 rfl rfl rfl) rfl (st (s_lenO rfl) rfl (Run.nil (pj_then (J_block ?_)))))))))
        refine J_seq (J_reg (st (s_loadB 2 rfl rfl rfl) rfl (st (sF (by assumption) (s_eq rfl rfl)) rfl (st (s_assign rfl) rfl (Run.nil (pj_then (J_cond0 rfl (J_skip (pn_block ?_)))))))))
        refine pn_block ?_
        exact pj_rnext (sv15, cap15, m ++ [x.val]) ⟨hend, by simp; omega⟩ (.keep lst_snoc (.keep (box_snoc (by simp)) (SubM.refl _)))
    · obtain ⟨sv, cap, m⟩ := s
      obtain ⟨hm, hl⟩ := hs
      obtain ⟨j, hj, hz, hnz⟩ := hxs
      dsimp only at hm hl ⊢
      have hlen : xs.length = j := by rw [hj, blL_len]
      have hres : m = tlL primeB k.toNat (bf primeB n) := by
        rw [hm, hj, blL_val, show k.toNat = j + (k.toNat - j) by omega, tlL_pk j _ hnz, hz]
        obtain ⟨i, hi⟩ : ∃ i, k.toNat - j = i + 1 := ⟨k.toNat - j - 1, by omega⟩
        rw [hi]; simp [tlL]
      refine pn_block (pj_then (J_seq (J_reg (st (s_loadB 2 rfl rfl rfl) rfl (st (s_assign rfl) rfl (Run.nil (pj_then (J_ret (pr_scope ?_)))))))))
      refine pj_mark (PJ_freeze (t := 4) (i := 0) rfl rfl ?_)
      refine retc1 Try.results29 (.tmp rfl (u64T_eq hres))
    · obtain ⟨sv, cap, m⟩ := s
      obtain ⟨hid, hm, hl⟩ := hs
      obtain ⟨j, hj, hnz⟩ := hpre
      cases hid
      dsimp only at hm hl ⊢
      have hlen : pre.length = j + 1 := by rw [hj, blL_len]
      have hres : m = tlL primeB k.toNat (bf primeB n) := by
        rw [hm, hj, blL_val, show k.toNat = (j + 1) + 0 by omega, tlL_pk (j + 1) 0 hnz]
        simp [tlL]
      refine px_block (pj_then (J_seq (J_reg (st (s_loadB 2 rfl rfl rfl) rfl (st (s_assign rfl) rfl (Run.nil (pj_then (J_ret (pr_scope ?_)))))))))
      refine pj_mark (PJ_freeze (t := 4) (i := 0) rfl rfl ?_)
      refine retc1 Try.results29 (.tmp rfl (u64T_eq hres))
end Tor
end
section
namespace Tor
open Go Go.RowKit Go.Proofs
def prodL (l : List Nat) : Nat := l.foldl (· * ·) 1
theorem prodL_snoc (l : List Nat) (x : Nat) : prodL (l ++ [x]) = prodL l * x := by simp [prodL, List.foldl_append]
def pkB (p : Nat → Bool) (n : Nat) : Nat → Nat
  | 0 => n
  | k + 1 => pk p n k
theorem bf_pkB {p : Nat → Bool} {n : Nat} : ∀ k, bf p (pkB p n k) = pk p n k
  | 0 => rfl
  | k + 1 => rfl
theorem ndL_pk {p : Nat → Bool} {n : Nat} {B : Int} : ∀ k f, (∀ i, i < k → pk p n i ≠ 0) → (∀ i, i < k → ¬ B < (prodL ((List.range i).map (pk p n)) : Int)) →
    ndL p B (k + f) 1 n = (ndL p B f (prodL ((List.range k).map (pk p n))) (pkB p n k)).map ((List.range k).map (pk p n) ++ ·)
  | 0, f, _, _ => by simp [pkB, prodL]
  | k + 1, f, h, h' => by
    rw [show k + 1 + f = k + (f + 1) by omega, ndL_pk k (f + 1) (fun i hi => h i (by omega)) (fun i hi => h' i (by omega)), ndL, if_neg (h' k (by omega)), bf_pkB, if_neg (h k (by omega)), List.range_succ, List.map_append, ← prodL_snoc]
    show Option.map _ (Option.map _ (ndL p B f _ (pk p n k))) = Option.map _ (ndL p B f _ (pk p n k))
    rw [Option.map_map]
    congr 1
    funext r
    simp
theorem map_take {p : Nat → Bool} {n k i : Nat} (h : i ≤ k) : ((List.range k).map (pk p n)).take i = (List.range i).map (pk p n) := by
  rw [← List.map_take, List.take_range, Nat.min_eq_left h]
theorem nil_own {b : Nat} {T : TypeId} : Own.le (boxO b T 1 [(0, .one, one (.slice none 0 0))]) (boxO b T 1 [(0, .one, one (slV none 0 0))]) := Own.le_refl _
attribute [local irreducible] Tor.J Tor.PJ Tor.StepO Tor.one Tor.slT Tor.ptrT Tor.aggT Tor.tupT Tor.exT Tor.andT Tor.eP Tor.boxO Tor.sliO Tor.slV Tor.VT.le Tor.Ret Tor.anyT
attribute [local irreducible] bigT
set_option maxHeartbeats 4000000 in
theorem Needed_ok (n : Nat) (b : Int) (hn : n < 18446744073709551616) (hb : mod4 b) (R : Option (List Nat)) (hR : ndL primeB (b + b) (min n 2147483648 + 2) 1 n = R) : Ok Try.prog 33 [bigT b, one (.int .u64 (n : Nat))] (u64T (R.getD [])) := by
  have hbl := below_ok n hn
  have h1 := Of_ok 1 (by decide) (by decide)
  have had := AddI_ok b b (mod4_small hb) (mod4_small hb)
  have hbb : (b + b).natAbs ≤ 2 ^ 401 := Nat.le_trans (Int.natAbs_add_le b b) (Nat.le_trans (Nat.add_le_add hb hb) (by decide +kernel))
  have hbs : small (b + b) := small_le hbb (by decide +kernel)
  have hen := Enough_ok [] b (fun q => by simp) (by simp) hb
  refine Ok.enterR Try.func33 rfl Try.ntmps33 rfl (fun w O => ?_)
  have e1 : (prL2 [] ([] : List Nat).length : Int) = 1 := rfl
  rw [e1] at hen
  by_cases h0 : b + b < 1
  · rw [decide_eq_true h0] at hen
    refine J_seq (J_reg ?_)
    refine a_box rfl rfl (ltN rfl) (fun b2 => ?_)
    refine a_alloc (T := 60) rfl (ltN rfl) (fun b4 => ?_)
    refine Run.nil (pj_then (J_seq (J_seq (J_reg (st (s_loadB 1 rfl rfl rfl) rfl ?_)))))
    refine st (s_callk (hen ) rfl ⟨(nil_u64), VT.le_refl _, trivial⟩) rfl ?_
    refine Run.nil (pj_then (J_cond1 rfl (J_seq (J_reg (a_storeB 0 rfl rfl rfl rfl rfl (leN rfl) rfl (Run.nil (pj_then (J_ret (pr_then ?_)))))))))
    have hR0 : R = some [] := by rw [← hR]; show (if _ then _ else _) = _; rw [if_pos (by simpa using h0)]
    subst hR0
    refine pj_nomark ?_
    refine retc1 Try.results33 (.cellB 0 rfl rfl rfl (nil_u64))
  · rw [decide_eq_false h0] at hen
    refine J_seq (J_reg ?_)
    refine a_box rfl rfl (ltN rfl) (fun b2 => ?_)
    refine a_alloc (T := 60) rfl (ltN rfl) (fun b4 => ?_)
    refine Run.nil (pj_then (J_seq (J_seq (J_reg (st (s_loadB 1 rfl rfl rfl) rfl ?_)))))
    refine st (s_callk (hen ) rfl ⟨(nil_u64), VT.le_refl _, trivial⟩) rfl ?_
    refine Run.nil (pj_then (J_cond0 rfl (J_skip (pj_then (J_seq (J_reg ?_))))))
    refine a_alloc (T := 60) rfl (ltN rfl) (fun b5 => ?_)
    refine Run.nil (pj_then (J_seq ?_))
    refine J_regU2 mixed (by kernel_rfl) (by kernel_rfl) ?_
    refine uxk (h1 ) rfl ⟨VT.le_refl _, trivial⟩ rfl ?_
    refine ux (fun B => s_loadB 2 rfl rfl rfl) rfl rfl ?_
    refine ux (fun B => s_loadB 2 rfl rfl rfl) rfl rfl ?_
    refine uxk (had ) rfl ⟨VT.le_refl _, VT.le_refl _, trivial⟩ rfl ?_
    refine ua rfl (ua rfl (us rfl (us rfl ?_)))
    refine RunU.nil (fun γ => ?_)
    refine PJ_normM (M' := [_, _, _, _, _]) rfl (pj_then (J_seq (J_seq (J_reg (st (s_move rfl) rfl ?_)))))
    refine st (s_callk (hbl ) rfl ⟨VT.le_refl _, trivial⟩) rfl ?_
    refine Run.nil (pj_then (J_block ?_))
    refine J_conv (ConvM.nilSl0 (T := 59) (L := .one) (φ := fun _ => anyT) _) ?_
    refine J_range (α := U64) (σ := Option Nat × Nat × List Nat × Value) (below1_ok n hn) (fun s => [sliO s.1 59 .one s.2.1 s.2.2.1.length (fun q => one (.int .u64 (s.2.2.1.getD q 0 : Nat))), boxO (γ 7) 32 2 [(0, .agg 2, bigT (b + b))],
        boxO (γ 6) 32 2 [(0, .agg 2, bigT (prodL s.2.2.1 : Int))], boxO b5 60 1 [(0, .one, one (slV s.1 s.2.2.1.length s.2.1))], boxO b4 60 1 [(0, .one, one s.2.2.2)]])
      (fun pre s => s.2.2.1 = pre.map (·.val) ∧ s.2.2.2 = .slice none 0 0 ∧ ∀ i, i ≤ s.2.2.1.length → ¬ b + b < (prodL (s.2.2.1.take i) : Int))
      (fun e pre s => e = none ∧ s.2.2.1 = pre.map (·.val) ∧ s.2.2.2 = slV s.1 s.2.2.1.length s.2.1 ∧ b + b < (prodL s.2.2.1 : Int) ∧ ∀ i, i < s.2.2.1.length → ¬ b + b < (prodL (s.2.2.1.take i) : Int)) (none, 0, [], .slice none 0 0) rfl rfl
      ⟨rfl, rfl, fun i _ => by simpa [prodL] using h0⟩
      (.keep (sliO_eq (fun q hq => absurd hq (Nat.not_lt_zero _))) (.keep (Own.le_refl _) (.keep (Own.le_refl _) (.keep nil_own (.keep (Own.le_refl _) (.drop .nil)))))) rfl rfl (by simp [noDef, noDefO])
      (fun l W pre x s hs hlen => ?_) (fun xs s D hxs hs => ?_) (fun pre s D hpre hs => ?_) (fun id pre s D hpre hs => absurd hs.1 (by simp))
    · obtain ⟨sv, cap, m, v⟩ := s
      obtain ⟨hm, hv, hl⟩ := hs
      dsimp only at hm hv hl ⊢
      subst hv
      have hx := x.isLt
      have hml : m.length = pre.length := by rw [hm]; simp
      have hlt := hl m.length (Nat.le_refl _)
      rw [List.take_length] at hlt
      have hp1 : prodL m ≤ 2 ^ 401 := by omega
      have hsm : small (prodL m : Int) := small_le (n := 2 ^ 401) (by rw [Int.natAbs_natCast]; exact hp1) (by decide +kernel)
      have hw := bword_ok x.val hx
      have hmu := MulI_ok (prodL m : Int) (x.val : Int) hsm (u64_small hx)
      have hcm := CmpI_ok ((prodL m : Int) * (x.val : Int)) (b + b)
      have hgt := gtc (x := (prodL m : Int) * (x.val : Int)) (y := b + b)
      have hpr : ((prodL (m ++ [x.val]) : Nat) : Int) = (prodL m : Int) * (x.val : Int) := by rw [prodL_snoc]; exact Int.natCast_mul _ _
      have hend : (m ++ [x.val]) = (pre ++ [x]).map (·.val) := by rw [hm]; simp
      have hnx : ∀ i, i < (m ++ [x.val]).length → ¬ b + b < (prodL ((m ++ [x.val]).take i) : Int) := fun i hi => by
        have hi : i ≤ m.length := by simp at hi; omega
        rw [List.take_append_of_le_length hi]; exact hl i hi
      unfold encU
      by_cases he : b + b < (prodL m : Int) * (x.val : Int)
      · have hcc := hgt.2 he
        generalize cmpI ((prodL m : Int) * (x.val : Int)) (b + b) = cc at *
        refine J_block (J_seq (J_reg (st (s_loadB 3 rfl rfl rfl) rfl (st (s_move rfl) rfl (stS1 rfl rfl rfl rfl ?_)))))
        (refine a_append 0 rfl rfl rfl (leN rfl) ?_ ?_ rfl (ltN rfl) (fun sv21 cap21 => ?_); omega; omega)
        refine a_storeB 3 rfl rfl rfl rfl rfl (leN rfl) rfl (Run.nil (pj_then (J_seq (J_regd 4 mixed (by kernel_rfl) (by decide) (st (s_loadB 2 rfl rfl rfl) rfl (st (s_move rfl) rfl ?_))))))
        refine st (s_callk (hw ) rfl ⟨VT.le_refl _, trivial⟩) rfl ?_
        refine st (s_callk (hmu ) rfl ⟨VT.le_refl _, VT.le_refl _, trivial⟩) rfl ?_
        refine Run.nil (a_storeB 2 rfl rfl rfl rfl rfl (leN rfl) rfl (Run.nil (pj_then (J_seq (J_reg (st (s_loadB 2 rfl rfl rfl) rfl (st (s_loadB 1 rfl rfl rfl) rfl ?_)))))))
        refine st (s_callk (hcm ) rfl ⟨VT.le_refl _, VT.le_refl _, trivial⟩) rfl ?_
        refine st (sT (by assumption) (s_gt rfl rfl)) rfl (Run.nil (pj_then (J_cond1 rfl (J_seq (J_reg (st (s_loadB 3 rfl rfl rfl) rfl (a_storeB 4 rfl rfl rfl rfl rfl (leN rfl) rfl (Run.nil (pj_then ?_)))))))))
        refine J_ret (pr_block ?_)
        exact pj_rret (sv21, cap21, m ++ [x.val], slV sv21 (m.length + 1) cap21) ⟨rfl, hend, by simp, by rw [hpr]; exact he, hnx⟩
          (.keep lst_snoc (.keep (Own.le_refl _) (.keep (hpr ▸ Own.le_refl _) (.keep (box_snoc (by simp)) (.keep (Own.le_refl _) .nil)))))
      · have hcc : ¬ 0 < cmpI ((prodL m : Int) * (x.val : Int)) (b + b) := fun h => he (hgt.1 h)
        generalize cmpI ((prodL m : Int) * (x.val : Int)) (b + b) = cc at *
        refine J_block (J_seq (J_reg (st (s_loadB 3 rfl rfl rfl) rfl (st (s_move rfl) rfl (stS1 rfl rfl rfl rfl ?_)))))
        (refine a_append 0 rfl rfl rfl (leN rfl) ?_ ?_ rfl (ltN rfl) (fun sv21 cap21 => ?_); omega; omega)
        refine a_storeB 3 rfl rfl rfl rfl rfl (leN rfl) rfl (Run.nil (pj_then (J_seq (J_regd 4 mixed (by kernel_rfl) (by decide) (st (s_loadB 2 rfl rfl rfl) rfl (st (s_move rfl) rfl ?_))))))
        refine st (s_callk (hw ) rfl ⟨VT.le_refl _, trivial⟩) rfl ?_
        refine st (s_callk (hmu ) rfl ⟨VT.le_refl _, VT.le_refl _, trivial⟩) rfl ?_
        refine Run.nil (a_storeB 2 rfl rfl rfl rfl rfl (leN rfl) rfl (Run.nil (pj_then (J_seq (J_reg (st (s_loadB 2 rfl rfl rfl) rfl (st (s_loadB 1 rfl rfl rfl) rfl ?_)))))))
        refine st (s_callk (hcm ) rfl ⟨VT.le_refl _, VT.le_refl _, trivial⟩) rfl ?_
        refine st (sF (by assumption) (s_gt rfl rfl)) rfl (Run.nil (pj_then (J_cond0 rfl (J_skip (pn_block ?_)))))
        exact pj_rnext (sv21, cap21, m ++ [x.val], .slice none 0 0) ⟨hend, rfl, fun i hi => by
            by_cases e : i = (m ++ [x.val]).length
            · rw [e, List.take_length, hpr]; exact he
            · exact hnx i (Nat.lt_of_le_of_ne hi e)⟩
          (.keep lst_snoc (.keep (Own.le_refl _) (.keep (hpr ▸ Own.le_refl _) (.keep (box_snoc (by simp)) (.keep (Own.le_refl _) .nil)))))
    · obtain ⟨sv, cap, m, v⟩ := s
      obtain ⟨hm, hv, hl⟩ := hs
      obtain ⟨j, hj, hz, hnz⟩ := hxs
      dsimp only at hm hv hl ⊢
      subst hv
      have hm' : m = (List.range j).map (pk primeB n) := by rw [hm, hj, blL_val]
      have hml : m.length = j := by rw [hm']; simp
      have hR0 : R = none := by
        have hd := pk_dec (p := primeB) (n := n) j hnz
        have hle := befN_le primeB (min n 2147483648)
        have hle : bf primeB n ≤ min n 2147483648 - 1 := hle
        obtain ⟨f, hf⟩ : ∃ f, min n 2147483648 + 2 = j + (f + 1) := ⟨min n 2147483648 + 1 - j, by omega⟩
        have hst : ∀ i, i ≤ j → ¬ b + b < (prodL ((List.range i).map (pk primeB n)) : Int) := fun i hi => by
          have := hl i (by omega)
          rwa [hm', map_take hi] at this
        rw [← hR, hf, ndL_pk j (f + 1) hnz (fun i hi => hst i (by omega)), ndL, if_neg (hst j (Nat.le_refl _)), bf_pkB, if_pos hz]
        rfl
      subst hR0
      refine pn_block (pj_then (J_seq (J_reg (a_storeB 5 rfl rfl rfl rfl rfl (leN rfl) rfl (Run.nil (pj_then (J_ret (pj_mark ?_))))))))
      refine retc1 Try.results33 (.cellB 4 rfl rfl rfl (nil_u64))
    · obtain ⟨sv, cap, m, v⟩ := s
      obtain ⟨_, hm, hv, hgt, hl⟩ := hs
      obtain ⟨j, hj, hnz⟩ := hpre
      dsimp only at hm hv hl hgt ⊢
      subst hv
      have hm' : m = (List.range (j + 1)).map (pk primeB n) := by rw [hm, hj, blL_val]
      have hml : m.length = j + 1 := by rw [hm']; simp
      have hR0 : R = some m := by
        have hd := pk_dec (p := primeB) (n := n) j (fun i hi => hnz i (by omega))
        have hle := befN_le primeB (min n 2147483648)
        have hle : bf primeB n ≤ min n 2147483648 - 1 := hle
        obtain ⟨f, hf⟩ : ∃ f, min n 2147483648 + 2 = j + 1 + (f + 1) := ⟨min n 2147483648 - j, by omega⟩
        have hst : ∀ i, i < j + 1 → ¬ b + b < (prodL ((List.range i).map (pk primeB n)) : Int) := fun i hi => by
          have := hl i (by omega)
          rwa [hm', map_take (by omega)] at this
        rw [← hR, hf, ndL_pk (j + 1) (f + 1) hnz hst, ndL, if_pos (by rw [← hm']; exact hgt), ← hm']
        simp
      have hres : m = R.getD [] := by rw [hR0]; rfl
      refine pr_block (pr_then (pj_mark ?_))
      refine PJ_open [sliO sv 59 .one cap m.length (fun q => one (.int .u64 (m.getD q 0 : Nat)))] (List.Perm.refl _) (.keep (EntO.refl _) (.keep (EntO.refl _) (.keep (EntO.refl _) (.keep (EntO.box (EntC.cons List.mem_cons_self (Ent.sl List.mem_cons_self) .nil)) .nil)))) (EntG.refl _) ?_
      refine retc1 Try.results33 (.cellB 3 rfl rfl rfl (u64T_eq hres))
end Tor
end
section
namespace Tor
open Go Go.RowKit Go.Proofs
def srtN (r c : Nat) (F : Nat → Nat → Int) (t : Nat) : Nat := (sortN r (fun i => (lenN c (F i) : Int)) t).toNat
theorem srtN_mem {r c : Nat} {F : Nat → Nat → Int} {t : Nat} (ht : t < r) : ∃ i, i < r ∧ sortN r (fun i => (lenN c (F i) : Int)) t = (lenN c (F i) : Int) := by
  have h1 : sortN r (fun i => (lenN c (F i) : Int)) t ∈ lst r (sortN r (fun i => (lenN c (F i) : Int))) := by
    unfold lst; exact List.mem_map.2 ⟨t, List.mem_range.2 ht, rfl⟩
  have h2 := (sortN_perm (fun i => (lenN c (F i) : Int)) (Nat.le_refl r)).mem_iff.1 h1
  unfold lst at h2
  obtain ⟨i, hi, e⟩ := List.mem_map.1 h2
  exact ⟨i, List.mem_range.1 hi, e.symm⟩
theorem srtN_cast {r c : Nat} {F : Nat → Nat → Int} {t : Nat} (ht : t < r) : ((srtN r c F t : Nat) : Int) = sortN r (fun i => (lenN c (F i) : Int)) t := by
  obtain ⟨i, hi, e⟩ := srtN_mem (c := c) (F := F) ht
  unfold srtN; rw [e]; exact Int.toNat_of_nonneg (Int.natCast_nonneg _)
theorem srtN_le {r c B : Nat} {F : Nat → Nat → Int} (hl : ∀ i, i < r → lenN c (F i) ≤ B) {t : Nat} (ht : t < r) : srtN r c F t ≤ B := by
  obtain ⟨i, hi, e⟩ := srtN_mem (c := c) (F := F) ht
  have := hl i hi
  unfold srtN; rw [e]; omega
attribute [local irreducible] Tor.J Tor.PJ Tor.StepO Tor.one Tor.slT Tor.ptrT Tor.aggT Tor.tupT Tor.exT Tor.andT Tor.eP Tor.boxO Tor.sliO Tor.slV Tor.VT.le Tor.Ret Tor.anyT
attribute [local irreducible] bigT
end Tor
end
section
namespace Tor
open Go Go.RowKit Go.Proofs
theorem swpF_upd {sv : Option Nat} {T : TypeId} {cap n j : Nat} {g : Nat → Int} : Own.le (sliO sv T (.agg 2) cap n (upd (upd (fun q => bigT (g q)) (j + 1) (bigT (g j))) j (bigT (g (j + 1))))) (sliO sv T (.agg 2) cap n (fun q => bigT (swpF j g q))) := sliO_eq fun q _ => by
  unfold upd swpF
  by_cases h : q = j
  · rw [if_pos h, if_pos h]
  · rw [if_neg h, if_neg h]
    by_cases h2 : q = j + 1
    · rw [if_pos h2, if_pos h2]
    · rw [if_neg h2, if_neg h2]
def InL (n : Nat) (g h : Nat → Int) : Prop := ∀ q, q < n → ∃ i, i < n ∧ h q = g i
theorem InL.sort {n i : Nat} {g : Nat → Int} (hi : i ≤ n) : InL n g (sortN i g) := fun q hq => by
  have h1 : sortN i g q ∈ lst n (sortN i g) := by unfold lst; exact List.mem_map.2 ⟨q, List.mem_range.2 hq, rfl⟩
  have h2 := (sortN_perm g hi).mem_iff.1 h1
  unfold lst at h2
  obtain ⟨k, hk, e⟩ := List.mem_map.1 h2
  exact ⟨k, List.mem_range.1 hk, e.symm⟩
theorem InL.swp {n j : Nat} {g h : Nat → Int} (H : InL n g h) (hj : j + 1 < n) : InL n g (swpF j h) := fun q hq => by
  unfold swpF
  split
  · exact H _ hj
  · split
    · exact H _ (by omega)
    · exact H q hq
attribute [local irreducible] Tor.J Tor.PJ Tor.StepO Tor.one Tor.slT Tor.ptrT Tor.aggT Tor.tupT Tor.exT Tor.andT Tor.eP Tor.boxO Tor.sliO Tor.slV Tor.VT.le Tor.Ret Tor.anyT
attribute [local irreducible] bigT
set_option maxHeartbeats 4000000 in
theorem insertion_ok (sv : Option Nat) (cap n : Nat) (g : Nat → Int) (cl : VT) (hn : n ≤ 1048576) (hC : ∀ x y, (∃ i, i < n ∧ x = g i) → (∃ i, i < n ∧ y = g i) → Callable Try.prog cl [bigT x, bigT y] (one (.int .i64 (cmpI y x)))) :
    OkI Try.prog 84 [one (slV sv n cap), one (.int .i64 0), one (.int .i64 (n : Nat)), cl] [sliO sv 32 (.agg 2) cap n (fun q => bigT (g q))]
      (fun _ : Unit => tupT []) (fun _ => [sliO sv 32 (.agg 2) cap n (fun q => bigT (sortN n g q))]) := by
  refine OkI.enter Try.func84 rfl Try.ntmps84 rfl (fun w O => ?_)
  refine J_factM (i := 0) (F := sv = none → n = 0) rfl (fun g h hp he => sliO_none hp he) (fun hsv => ?_)
  refine J_seq (J_reg (st (s_move rfl) rfl (st (s_add rfl rfl (wrap_i64 (by omega) (by omega))) rfl (st (s_assign rfl) rfl (Run.nil (pj_then (J_block (J_sub (Γ' := [(0, _), (1, _), (2, _), (3, _), (8, _)]) (SubG.cons rfl (VT.le_refl _) (SubG.cons rfl (VT.le_refl _) (SubG.cons rfl (VT.le_refl _) (SubG.cons rfl (VT.le_refl _) (SubG.cons rfl (VT.le_refl _) (SubG.nil)))))) (SubM.refl _) ?_))))))))
  refine J_loopA (σ := Nat) (Γk := [(0, _), (1, _), (2, _), (3, _)]) (SubG.cons rfl (VT.le_refl _) (SubG.cons rfl (VT.le_refl _) (SubG.cons rfl (VT.le_refl _) (SubG.cons rfl (VT.le_refl _) (SubG.nil))))) (fun t => [(8, one (.int .i64 ((t + 1 : Nat) : Int)))]) (fun t M0 => (M0.set 0 (sliO sv 32 (.agg 2) cap n (fun q => bigT (sortN (t + 1) g q))))) (fun t => t + 1 ≤ n ∨ t = 0) (fun t => n - t) (0) (.inr rfl) (by repeat (first | exact SubG.refl _ | exact SubG.nil | refine SubG.cons rfl (VT.le_refl _) ?_ | (refine SubG.cons rfl (one_le ?_) ?_; (congr 1; first | omega | (simp; omega) | simp)))) (.keep (Own.le_refl _) (.nil)) (fun t ht => ?_)
  refine J_norm (Γ' := [(8, _), (0, _), (1, _), (2, _), (3, _)]) (M' := [_]) rfl rfl ?_
  by_cases hlt : t + 1 < n
  · obtain ⟨bs, rfl⟩ := sv_some hsv (by omega)
    refine J_seq (J_seq (J_reg (st (s_move rfl) rfl (st (s_move rfl) rfl (st (sT (by omega) (s_lt rfl rfl)) rfl (Run.nil (pj_then (J_cond1 rfl (J_skip ?_)))))))))
    refine pj_then (J_seq (J_block (J_seq (J_reg (st (s_move rfl) rfl (st (s_assign rfl) rfl (Run.nil (pj_then (J_block ?_)))))))))
    refine J_sub (Γ' := [(0, _), (1, _), (2, _), (3, _), (8, _), (9, _)]) (SubG.cons rfl (VT.le_refl _) (SubG.cons rfl (VT.le_refl _) (SubG.cons rfl (VT.le_refl _) (SubG.cons rfl (VT.le_refl _) (SubG.cons rfl (VT.le_refl _) (SubG.cons rfl (VT.le_refl _) (SubG.nil))))))) (SubM.refl _) ?_
    refine J_loopA (σ := Nat × (Nat → Int)) (Γk := [(0, _), (1, _), (2, _), (3, _), (8, _)]) (SubG.cons rfl (VT.le_refl _) (SubG.cons rfl (VT.le_refl _) (SubG.cons rfl (VT.le_refl _) (SubG.cons rfl (VT.le_refl _) (SubG.cons rfl (VT.le_refl _) (SubG.nil)))))) (fun s => [(9, one (.int .i64 (s.1 : Nat)))]) (fun s M0 => (M0.set 0 (sliO (some bs) 32 (.agg 2) cap n (fun q => bigT (s.2 q))))) (fun s => s.1 ≤ t + 1 ∧ InL n g s.2 ∧ insJ s.1 s.2 = sortN (t + 2) g) (fun s => s.1) ((t + 1, sortN (t + 1) g)) (⟨Nat.le_refl _, InL.sort (by omega), rfl⟩) (by repeat (first | exact SubG.refl _ | exact SubG.nil | refine SubG.cons rfl (VT.le_refl _) ?_ | (refine SubG.cons rfl (one_le ?_) ?_; (congr 1; first | omega | (simp; omega) | simp)))) (.keep (Own.le_refl _) (.nil)) (fun s hs => ?_)
    refine J_norm (Γ' := [(9, _), (0, _), (1, _), (2, _), (3, _), (8, _)]) (M' := [_]) rfl rfl ?_
    obtain ⟨j, h⟩ := s
    obtain ⟨hj, hin, hI⟩ := hs
    dsimp only at hj hin hI ⊢
    cases j with
    | zero =>
      have hI : h = sortN (t + 2) g := hI
      subst hI
      refine J_seq (J_seq (J_regd 17 mixed (by kernel_rfl) (by decide) (st (s_move rfl) rfl (st (s_move rfl) rfl (st (sF (by omega) (s_gt rfl rfl)) rfl (st (s_move rfl) rfl (sn0 rfl rfl rfl rfl rfl (sn0 rfl rfl rfl rfl rfl (sn0 rfl rfl rfl rfl rfl ?_)))))))))
      refine sn0 rfl rfl rfl rfl rfl (sn0 rfl rfl rfl rfl rfl (sn0 rfl rfl rfl rfl rfl (sn0 rfl rfl rfl rfl rfl (sn0 rfl rfl rfl rfl rfl (sn0 rfl rfl rfl rfl rfl (sn0 rfl rfl rfl rfl rfl (sn0 rfl rfl rfl rfl rfl (sn0 rfl rfl rfl rfl rfl (st (s_pickF rfl rfl) rfl ?_)))))))))
      refine Run.nil (Run.nil (pj_then (J_cond0 rfl (J_exit (px_then (px_then (px_block (pn_block (pj_then ?_)))))))))
      refine J_reg (st (s_move rfl) rfl (st (s_addN _ 1 rfl rfl (by omega)) rfl (st (s_assign rfl) rfl (Run.nil ?_))))
      refine pj_roundM (t + 1) (by omega) (by omega) (by repeat (first | exact SubG.refl _ | exact SubG.nil | refine SubG.cons rfl (VT.le_refl _) ?_ | (refine SubG.cons rfl (one_le ?_) ?_; (congr 1; first | omega | (simp; omega) | simp)))) (.keep (Own.le_refl _) (.nil))
    | succ j =>
      have hx := hin (j + 1) (by omega)
      have hy := hin j (by omega)
      have hcl := hC (h (j + 1)) (h j) hx hy
      have hI : (if h j < h (j + 1) then insJ j (swpF j h) else h) = sortN (t + 2) g := hI
      by_cases hlt2 : h j < h (j + 1)
      · rw [if_pos hlt2] at hI
        have hcc : cmpI (h j) (h (j + 1)) < 0 := by unfold cmpI; split <;> (try split) <;> omega
        generalize cmpI (h j) (h (j + 1)) = cc at *
        refine J_seq (J_seq (J_regd 17 mixed (by kernel_rfl) (by decide) (st (s_move rfl) rfl (st (s_move rfl) rfl (st (sT (by omega) (s_gt rfl rfl)) rfl (st (s_move rfl) rfl (sg1 rfl rfl (s_move rfl) rfl (sg1 rfl rfl (s_move rfl) rfl (sg1 rfl rfl (s_move rfl) rfl ?_)))))))))
        refine sg1 rfl rfl (s_indexON rfl rfl (by omega)) rfl (sg1 rfl rfl (s_loadE 0 rfl rfl (by omega)) rfl (sg1 rfl rfl (s_move rfl) rfl (sg1 rfl rfl (s_move rfl) rfl (sg1 rfl rfl (s_subN _ 1 rfl rfl (by omega) (by omega)) rfl (sg1 rfl rfl (s_indexON rfl rfl (by omega)) rfl (sg1 rfl rfl (s_loadE 0 rfl rfl (by omega)) rfl ?_))))))
        refine sg1 rfl rfl (s_callF hcl rfl rfl ⟨VT.le_refl _, VT.le_refl _, trivial⟩) rfl ?_
        refine sg1 rfl rfl (sT (by assumption) (s_lt rfl rfl)) rfl (st (s_pickT rfl rfl) rfl (Run.nil (Run.nil (pj_then (J_cond1 rfl (J_skip (pj_then (J_seq (J_block ?_)))))))))
        apply J_regG (Γ1 := [(9, _), (0, _), (1, _), (2, _), (3, _), (8, _)]) (M1 := [_]) 15 6 [2, 3, 4] [] mixed (by kernel_rfl) (by decide)
        · refine st (s_move rfl) rfl (st (s_move rfl) rfl (st (s_move rfl) rfl (st (s_move rfl) rfl (st (s_subN _ 1 rfl rfl (by omega) (by omega)) rfl (st (s_move rfl) rfl (st (s_move rfl) rfl (st (s_subN _ 1 rfl rfl (by omega) (by omega)) rfl (st (s_indexON rfl rfl (by omega)) rfl (st (s_loadE 0 rfl rfl (by omega)) rfl ?_)))))))))
          refine st (s_move rfl) rfl (st (s_move rfl) rfl (st (s_indexON rfl rfl (by omega)) rfl (st (s_loadE 0 rfl rfl (by omega)) rfl (st (s_indexON rfl rfl (by omega)) rfl (Run.nil ?_)))))
          refine entry3 (Γa := [(9, _), (0, _), (1, _), (2, _), (3, _), (8, _), (51, _), (46, _), (50, _)]) (Γb := [(9, _), (0, _), (1, _), (2, _), (3, _), (8, _), (51, _), (46, _), (50, _), (41, _)]) (Γc := [(9, _), (0, _), (1, _), (2, _), (3, _), (8, _), (51, _), (46, _), (50, _), (40, _)]) (Γd := [(9, _), (0, _), (1, _), (2, _), (3, _), (8, _), (51, _), (46, _), (50, _), (40, _), (41, _)]) (Γe := [(9, _), (0, _), (1, _), (2, _), (3, _), (8, _), (51, _), (46, _), (50, _), (39, _)]) (Γf := [(9, _), (0, _), (1, _), (2, _), (3, _), (8, _), (51, _), (46, _), (50, _), (39, _), (41, _)]) (Γg := [(9, _), (0, _), (1, _), (2, _), (3, _), (8, _), (51, _), (46, _), (50, _), (39, _), (40, _)]) (Γh := [(9, _), (0, _), (1, _), (2, _), (3, _), (8, _), (51, _), (46, _), (50, _), (39, _), (40, _), (41, _)]) (rem := [15, 16, 17]) rfl (by repeat (first | exact SubG.nil | refine SubG.cons rfl (VT.le_refl _) ?_)) rfl (by repeat (first | exact SubG.nil | refine SubG.cons rfl (VT.le_refl _) ?_)) rfl (by repeat (first | exact SubG.nil | refine SubG.cons rfl (VT.le_refl _) ?_)) rfl (by repeat (first | exact SubG.nil | refine SubG.cons rfl (VT.le_refl _) ?_)) rfl (by repeat (first | exact SubG.nil | refine SubG.cons rfl (VT.le_refl _) ?_)) rfl (by repeat (first | exact SubG.nil | refine SubG.cons rfl (VT.le_refl _) ?_)) rfl (by repeat (first | exact SubG.nil | refine SubG.cons rfl (VT.le_refl _) ?_)) rfl (by repeat (first | exact SubG.nil | refine SubG.cons rfl (VT.le_refl _) ?_)) rfl ?_ ?_ ?_ ?_ ?_ ?_ ?_ ?_
          · refine game_three (r1 := [3, 4, 15, 16, 17]) (r2 := [2, 4, 15, 16, 17]) (r3 := [2, 3, 4, 16, 17]) (i := 2) (j := 3) (k := 15) (by kernel_rfl) rfl rfl rfl rfl rfl rfl ?_ ?_ ?_ DeadOk.nil
            refine st (s_move rfl) rfl (Run.nil ?_)
            refine ⟨rfl, ?_⟩
            refine game_two (rem' := [4, 15, 16, 17]) (rem'' := [3, 4, 16, 17]) (i := 3) (j := 15) (by kernel_rfl) rfl rfl rfl rfl ?_ ?_ DeadOk.nil
            refine st (s_move rfl) rfl (Run.nil ?_)
            refine ⟨rfl, ?_⟩
            refine game_two (rem' := [15, 16, 17]) (rem'' := [4, 16, 17]) (i := 4) (j := 15) (by kernel_rfl) rfl rfl rfl rfl ?_ ?_ DeadOk.nil
            refine st (s_subN _ 1 rfl rfl (by omega) (by omega)) rfl (Run.nil ?_)
            refine ⟨rfl, ?_⟩
            refine game_one (rem' := [16, 17]) (i := 15) (by kernel_rfl) rfl rfl ?_ DeadOk.nil
            (refine a_storeE 0 rfl rfl rfl ?_ rfl ?_; omega)
            refine Run.nil ?_
            refine ⟨rfl, ?_⟩
            refine game_one (rem' := [17]) (i := 16) (by kernel_rfl) rfl rfl ?_ DeadOk.nil
            refine st (s_indexON rfl rfl (by omega)) rfl (Run.nil ?_)
            refine ⟨rfl, ?_⟩
            refine game_one (rem' := []) (i := 17) (by kernel_rfl) rfl rfl ?_ DeadOk.nil
            (refine a_storeE 0 rfl rfl rfl ?_ rfl ?_; omega)
            refine Run.nil ?_
            refine ⟨rfl, ?_⟩
            refine game_end (by repeat (first | exact SubG.nil | refine SubG.cons rfl (VT.le_refl _) ?_)) (SubM.refl _) DeadOk.nil
            (refine a_storeE 0 rfl rfl rfl ?_ rfl ?_; omega)
            refine Run.nil ?_
            refine ⟨rfl, ?_⟩
            refine game_one (rem' := [16, 17]) (i := 4) (by kernel_rfl) rfl rfl ?_ DeadOk.nil
            refine st (s_subN _ 1 rfl rfl (by omega) (by omega)) rfl (Run.nil ?_)
            refine ⟨rfl, ?_⟩
            refine game_one (rem' := [17]) (i := 16) (by kernel_rfl) rfl rfl ?_ DeadOk.nil
            refine st (s_indexON rfl rfl (by omega)) rfl (Run.nil ?_)
            refine ⟨rfl, ?_⟩
            refine game_one (rem' := []) (i := 17) (by kernel_rfl) rfl rfl ?_ DeadOk.nil
            (refine a_storeE 0 rfl rfl rfl ?_ rfl ?_; omega)
            refine Run.nil ?_
            refine ⟨rfl, ?_⟩
            refine game_end (by repeat (first | exact SubG.nil | refine SubG.cons rfl (VT.le_refl _) ?_)) (SubM.refl _) DeadOk.nil
            (refine a_storeE 0 rfl rfl rfl ?_ rfl ?_; omega)
            refine Run.nil ?_
            refine ⟨rfl, ?_⟩
            refine game_one (rem' := [4, 16, 17]) (i := 3) (by kernel_rfl) rfl rfl ?_ DeadOk.nil
            refine st (s_move rfl) rfl (Run.nil ?_)
            refine ⟨rfl, ?_⟩
            refine game_one (rem' := [16, 17]) (i := 4) (by kernel_rfl) rfl rfl ?_ DeadOk.nil
            refine st (s_subN _ 1 rfl rfl (by omega) (by omega)) rfl (Run.nil ?_)
            refine ⟨rfl, ?_⟩
            refine game_one (rem' := [17]) (i := 16) (by kernel_rfl) rfl rfl ?_ DeadOk.nil
            refine st (s_indexON rfl rfl (by omega)) rfl (Run.nil ?_)
            refine ⟨rfl, ?_⟩
            refine game_one (rem' := []) (i := 17) (by kernel_rfl) rfl rfl ?_ DeadOk.nil
            (refine a_storeE 0 rfl rfl rfl ?_ rfl ?_; omega)
            refine Run.nil ?_
            refine ⟨rfl, ?_⟩
            refine game_end (by repeat (first | exact SubG.nil | refine SubG.cons rfl (VT.le_refl _) ?_)) (SubM.refl _) DeadOk.nil
            refine st (s_move rfl) rfl (Run.nil ?_)
            refine ⟨rfl, ?_⟩
            refine game_three (r1 := [4, 15, 16, 17]) (r2 := [2, 15, 16, 17]) (r3 := [2, 4, 16, 17]) (i := 2) (j := 4) (k := 15) (by kernel_rfl) rfl rfl rfl rfl rfl rfl ?_ ?_ ?_ DeadOk.nil
            refine st (s_move rfl) rfl (Run.nil ?_)
            refine ⟨rfl, ?_⟩
            refine game_two (rem' := [15, 16, 17]) (rem'' := [4, 16, 17]) (i := 4) (j := 15) (by kernel_rfl) rfl rfl rfl rfl ?_ ?_ DeadOk.nil
            refine st (s_subN _ 1 rfl rfl (by omega) (by omega)) rfl (Run.nil ?_)
            refine ⟨rfl, ?_⟩
            refine game_one (rem' := [16, 17]) (i := 15) (by kernel_rfl) rfl rfl ?_ DeadOk.nil
            (refine a_storeE 0 rfl rfl rfl ?_ rfl ?_; omega)
            refine Run.nil ?_
            refine ⟨rfl, ?_⟩
            refine game_one (rem' := [17]) (i := 16) (by kernel_rfl) rfl rfl ?_ DeadOk.nil
            refine st (s_indexON rfl rfl (by omega)) rfl (Run.nil ?_)
            refine ⟨rfl, ?_⟩
            refine game_one (rem' := []) (i := 17) (by kernel_rfl) rfl rfl ?_ DeadOk.nil
            (refine a_storeE 0 rfl rfl rfl ?_ rfl ?_; omega)
            refine Run.nil ?_
            refine ⟨rfl, ?_⟩
            refine game_end (by repeat (first | exact SubG.nil | refine SubG.cons rfl (VT.le_refl _) ?_)) (SubM.refl _) DeadOk.nil
            (refine a_storeE 0 rfl rfl rfl ?_ rfl ?_; omega)
            refine Run.nil ?_
            refine ⟨rfl, ?_⟩
            refine game_one (rem' := [16, 17]) (i := 4) (by kernel_rfl) rfl rfl ?_ DeadOk.nil
            refine st (s_subN _ 1 rfl rfl (by omega) (by omega)) rfl (Run.nil ?_)
            refine ⟨rfl, ?_⟩
            refine game_one (rem' := [17]) (i := 16) (by kernel_rfl) rfl rfl ?_ DeadOk.nil
            refine st (s_indexON rfl rfl (by omega)) rfl (Run.nil ?_)
            refine ⟨rfl, ?_⟩
            refine game_one (rem' := []) (i := 17) (by kernel_rfl) rfl rfl ?_ DeadOk.nil
            (refine a_storeE 0 rfl rfl rfl ?_ rfl ?_; omega)
            refine Run.nil ?_
            refine ⟨rfl, ?_⟩
            refine game_end (by repeat (first | exact SubG.nil | refine SubG.cons rfl (VT.le_refl _) ?_)) (SubM.refl _) DeadOk.nil
            refine st (s_subN _ 1 rfl rfl (by omega) (by omega)) rfl (Run.nil ?_)
            refine ⟨rfl, ?_⟩
            refine game_two (rem' := [15, 16, 17]) (rem'' := [2, 16, 17]) (i := 2) (j := 15) (by kernel_rfl) rfl rfl rfl rfl ?_ ?_ DeadOk.nil
            refine st (s_move rfl) rfl (Run.nil ?_)
            refine ⟨rfl, ?_⟩
            refine game_one (rem' := [16, 17]) (i := 15) (by kernel_rfl) rfl rfl ?_ DeadOk.nil
            (refine a_storeE 0 rfl rfl rfl ?_ rfl ?_; omega)
            refine Run.nil ?_
            refine ⟨rfl, ?_⟩
            refine game_one (rem' := [17]) (i := 16) (by kernel_rfl) rfl rfl ?_ DeadOk.nil
            refine st (s_indexON rfl rfl (by omega)) rfl (Run.nil ?_)
            refine ⟨rfl, ?_⟩
            refine game_one (rem' := []) (i := 17) (by kernel_rfl) rfl rfl ?_ DeadOk.nil
            (refine a_storeE 0 rfl rfl rfl ?_ rfl ?_; omega)
            refine Run.nil ?_
            refine ⟨rfl, ?_⟩
            refine game_end (by repeat (first | exact SubG.nil | refine SubG.cons rfl (VT.le_refl _) ?_)) (SubM.refl _) DeadOk.nil
            (refine a_storeE 0 rfl rfl rfl ?_ rfl ?_; omega)
            refine Run.nil ?_
            refine ⟨rfl, ?_⟩
            refine game_one (rem' := [16, 17]) (i := 2) (by kernel_rfl) rfl rfl ?_ DeadOk.nil
            refine st (s_move rfl) rfl (Run.nil ?_)
            refine ⟨rfl, ?_⟩
            refine game_one (rem' := [17]) (i := 16) (by kernel_rfl) rfl rfl ?_ DeadOk.nil
            refine st (s_indexON rfl rfl (by omega)) rfl (Run.nil ?_)
            refine ⟨rfl, ?_⟩
            refine game_one (rem' := []) (i := 17) (by kernel_rfl) rfl rfl ?_ DeadOk.nil
            (refine a_storeE 0 rfl rfl rfl ?_ rfl ?_; omega)
            refine Run.nil ?_
            refine ⟨rfl, ?_⟩
            refine game_end (by repeat (first | exact SubG.nil | refine SubG.cons rfl (VT.le_refl _) ?_)) (SubM.refl _) DeadOk.nil
            (refine a_storeE 0 rfl rfl rfl ?_ rfl ?_; omega)
            refine Run.nil ?_
            refine ⟨rfl, ?_⟩
            refine game_two (rem' := [4, 16, 17]) (rem'' := [2, 16, 17]) (i := 2) (j := 4) (by kernel_rfl) rfl rfl rfl rfl ?_ ?_ DeadOk.nil
            refine st (s_move rfl) rfl (Run.nil ?_)
            refine ⟨rfl, ?_⟩
            refine game_one (rem' := [16, 17]) (i := 4) (by kernel_rfl) rfl rfl ?_ DeadOk.nil
            refine st (s_subN _ 1 rfl rfl (by omega) (by omega)) rfl (Run.nil ?_)
            refine ⟨rfl, ?_⟩
            refine game_one (rem' := [17]) (i := 16) (by kernel_rfl) rfl rfl ?_ DeadOk.nil
            refine st (s_indexON rfl rfl (by omega)) rfl (Run.nil ?_)
            refine ⟨rfl, ?_⟩
            refine game_one (rem' := []) (i := 17) (by kernel_rfl) rfl rfl ?_ DeadOk.nil
            (refine a_storeE 0 rfl rfl rfl ?_ rfl ?_; omega)
            refine Run.nil ?_
            refine ⟨rfl, ?_⟩
            refine game_end (by repeat (first | exact SubG.nil | refine SubG.cons rfl (VT.le_refl _) ?_)) (SubM.refl _) DeadOk.nil
            refine st (s_subN _ 1 rfl rfl (by omega) (by omega)) rfl (Run.nil ?_)
            refine ⟨rfl, ?_⟩
            refine game_one (rem' := [16, 17]) (i := 2) (by kernel_rfl) rfl rfl ?_ DeadOk.nil
            refine st (s_move rfl) rfl (Run.nil ?_)
            refine ⟨rfl, ?_⟩
            refine game_one (rem' := [17]) (i := 16) (by kernel_rfl) rfl rfl ?_ DeadOk.nil
            refine st (s_indexON rfl rfl (by omega)) rfl (Run.nil ?_)
            refine ⟨rfl, ?_⟩
            refine game_one (rem' := []) (i := 17) (by kernel_rfl) rfl rfl ?_ DeadOk.nil
            (refine a_storeE 0 rfl rfl rfl ?_ rfl ?_; omega)
            refine Run.nil ?_
            refine ⟨rfl, ?_⟩
            refine game_end (by repeat (first | exact SubG.nil | refine SubG.cons rfl (VT.le_refl _) ?_)) (SubM.refl _) DeadOk.nil
            (refine a_storeE 0 rfl rfl rfl ?_ rfl ?_; omega)
            refine Run.nil ?_
            refine ⟨rfl, ?_⟩
            refine game_two (rem' := [3, 4, 16, 17]) (rem'' := [2, 4, 16, 17]) (i := 2) (j := 3) (by kernel_rfl) rfl rfl rfl rfl ?_ ?_ DeadOk.nil
            refine st (s_move rfl) rfl (Run.nil ?_)
            refine ⟨rfl, ?_⟩
            refine game_one (rem' := [4, 16, 17]) (i := 3) (by kernel_rfl) rfl rfl ?_ DeadOk.nil
            refine st (s_move rfl) rfl (Run.nil ?_)
            refine ⟨rfl, ?_⟩
            refine game_one (rem' := [16, 17]) (i := 4) (by kernel_rfl) rfl rfl ?_ DeadOk.nil
            refine st (s_subN _ 1 rfl rfl (by omega) (by omega)) rfl (Run.nil ?_)
            refine ⟨rfl, ?_⟩
            refine game_one (rem' := [17]) (i := 16) (by kernel_rfl) rfl rfl ?_ DeadOk.nil
            refine st (s_indexON rfl rfl (by omega)) rfl (Run.nil ?_)
            refine ⟨rfl, ?_⟩
            refine game_one (rem' := []) (i := 17) (by kernel_rfl) rfl rfl ?_ DeadOk.nil
            (refine a_storeE 0 rfl rfl rfl ?_ rfl ?_; omega)
            refine Run.nil ?_
            refine ⟨rfl, ?_⟩
            refine game_end (by repeat (first | exact SubG.nil | refine SubG.cons rfl (VT.le_refl _) ?_)) (SubM.refl _) DeadOk.nil
            refine st (s_move rfl) rfl (Run.nil ?_)
            refine ⟨rfl, ?_⟩
            refine game_two (rem' := [4, 16, 17]) (rem'' := [2, 16, 17]) (i := 2) (j := 4) (by kernel_rfl) rfl rfl rfl rfl ?_ ?_ DeadOk.nil
            refine st (s_move rfl) rfl (Run.nil ?_)
            refine ⟨rfl, ?_⟩
            refine game_one (rem' := [16, 17]) (i := 4) (by kernel_rfl) rfl rfl ?_ DeadOk.nil
            refine st (s_subN _ 1 rfl rfl (by omega) (by omega)) rfl (Run.nil ?_)
            refine ⟨rfl, ?_⟩
            refine game_one (rem' := [17]) (i := 16) (by kernel_rfl) rfl rfl ?_ DeadOk.nil
            refine st (s_indexON rfl rfl (by omega)) rfl (Run.nil ?_)
            refine ⟨rfl, ?_⟩
            refine game_one (rem' := []) (i := 17) (by kernel_rfl) rfl rfl ?_ DeadOk.nil
            (refine a_storeE 0 rfl rfl rfl ?_ rfl ?_; omega)
            refine Run.nil ?_
            refine ⟨rfl, ?_⟩
            refine game_end (by repeat (first | exact SubG.nil | refine SubG.cons rfl (VT.le_refl _) ?_)) (SubM.refl _) DeadOk.nil
            refine st (s_subN _ 1 rfl rfl (by omega) (by omega)) rfl (Run.nil ?_)
            refine ⟨rfl, ?_⟩
            refine game_one (rem' := [16, 17]) (i := 2) (by kernel_rfl) rfl rfl ?_ DeadOk.nil
            refine st (s_move rfl) rfl (Run.nil ?_)
            refine ⟨rfl, ?_⟩
            refine game_one (rem' := [17]) (i := 16) (by kernel_rfl) rfl rfl ?_ DeadOk.nil
            refine st (s_indexON rfl rfl (by omega)) rfl (Run.nil ?_)
            refine ⟨rfl, ?_⟩
            refine game_one (rem' := []) (i := 17) (by kernel_rfl) rfl rfl ?_ DeadOk.nil
            (refine a_storeE 0 rfl rfl rfl ?_ rfl ?_; omega)
            refine Run.nil ?_
            refine ⟨rfl, ?_⟩
            refine game_end (by repeat (first | exact SubG.nil | refine SubG.cons rfl (VT.le_refl _) ?_)) (SubM.refl _) DeadOk.nil
          · refine game_three (r1 := [3, 15, 16, 17]) (r2 := [2, 15, 16, 17]) (r3 := [2, 3, 16, 17]) (i := 2) (j := 3) (k := 15) (by kernel_rfl) rfl rfl rfl rfl rfl rfl ?_ ?_ ?_ DeadOk.nil
            refine st (s_move rfl) rfl (Run.nil ?_)
            refine ⟨rfl, ?_⟩
            refine game_two (rem' := [15, 16, 17]) (rem'' := [3, 16, 17]) (i := 3) (j := 15) (by kernel_rfl) rfl rfl rfl rfl ?_ ?_ DeadOk.nil
            refine st (s_move rfl) rfl (Run.nil ?_)
            refine ⟨rfl, ?_⟩
            refine game_one (rem' := [16, 17]) (i := 15) (by kernel_rfl) rfl rfl ?_ DeadOk.nil
            (refine a_storeE 0 rfl rfl rfl ?_ rfl ?_; omega)
            refine Run.nil ?_
            refine ⟨rfl, ?_⟩
            refine game_one (rem' := [17]) (i := 16) (by kernel_rfl) rfl rfl ?_ DeadOk.nil
            refine st (s_indexON rfl rfl (by omega)) rfl (Run.nil ?_)
            refine ⟨rfl, ?_⟩
            refine game_one (rem' := []) (i := 17) (by kernel_rfl) rfl rfl ?_ DeadOk.nil
            (refine a_storeE 0 rfl rfl rfl ?_ rfl ?_; omega)
            refine Run.nil ?_
            refine ⟨rfl, ?_⟩
            refine game_end (by repeat (first | exact SubG.nil | refine SubG.cons rfl (VT.le_refl _) ?_)) (SubM.refl _) DeadOk.nil
            (refine a_storeE 0 rfl rfl rfl ?_ rfl ?_; omega)
            refine Run.nil ?_
            refine ⟨rfl, ?_⟩
            refine game_one (rem' := [16, 17]) (i := 3) (by kernel_rfl) rfl rfl ?_ DeadOk.nil
            refine st (s_move rfl) rfl (Run.nil ?_)
            refine ⟨rfl, ?_⟩
            refine game_one (rem' := [17]) (i := 16) (by kernel_rfl) rfl rfl ?_ DeadOk.nil
            refine st (s_indexON rfl rfl (by omega)) rfl (Run.nil ?_)
            refine ⟨rfl, ?_⟩
            refine game_one (rem' := []) (i := 17) (by kernel_rfl) rfl rfl ?_ DeadOk.nil
            (refine a_storeE 0 rfl rfl rfl ?_ rfl ?_; omega)
            refine Run.nil ?_
            refine ⟨rfl, ?_⟩
            refine game_end (by repeat (first | exact SubG.nil | refine SubG.cons rfl (VT.le_refl _) ?_)) (SubM.refl _) DeadOk.nil
            refine st (s_move rfl) rfl (Run.nil ?_)
            refine ⟨rfl, ?_⟩
            refine game_two (rem' := [15, 16, 17]) (rem'' := [2, 16, 17]) (i := 2) (j := 15) (by kernel_rfl) rfl rfl rfl rfl ?_ ?_ DeadOk.nil
            refine st (s_move rfl) rfl (Run.nil ?_)
            refine ⟨rfl, ?_⟩
            refine game_one (rem' := [16, 17]) (i := 15) (by kernel_rfl) rfl rfl ?_ DeadOk.nil
            (refine a_storeE 0 rfl rfl rfl ?_ rfl ?_; omega)
            refine Run.nil ?_
            refine ⟨rfl, ?_⟩
            refine game_one (rem' := [17]) (i := 16) (by kernel_rfl) rfl rfl ?_ DeadOk.nil
            refine st (s_indexON rfl rfl (by omega)) rfl (Run.nil ?_)
            refine ⟨rfl, ?_⟩
            refine game_one (rem' := []) (i := 17) (by kernel_rfl) rfl rfl ?_ DeadOk.nil
            (refine a_storeE 0 rfl rfl rfl ?_ rfl ?_; omega)
            refine Run.nil ?_
            refine ⟨rfl, ?_⟩
            refine game_end (by repeat (first | exact SubG.nil | refine SubG.cons rfl (VT.le_refl _) ?_)) (SubM.refl _) DeadOk.nil
            (refine a_storeE 0 rfl rfl rfl ?_ rfl ?_; omega)
            refine Run.nil ?_
            refine ⟨rfl, ?_⟩
            refine game_one (rem' := [16, 17]) (i := 2) (by kernel_rfl) rfl rfl ?_ DeadOk.nil
            refine st (s_move rfl) rfl (Run.nil ?_)
            refine ⟨rfl, ?_⟩
            refine game_one (rem' := [17]) (i := 16) (by kernel_rfl) rfl rfl ?_ DeadOk.nil
            refine st (s_indexON rfl rfl (by omega)) rfl (Run.nil ?_)
            refine ⟨rfl, ?_⟩
            refine game_one (rem' := []) (i := 17) (by kernel_rfl) rfl rfl ?_ DeadOk.nil
            (refine a_storeE 0 rfl rfl rfl ?_ rfl ?_; omega)
            refine Run.nil ?_
            refine ⟨rfl, ?_⟩
            refine game_end (by repeat (first | exact SubG.nil | refine SubG.cons rfl (VT.le_refl _) ?_)) (SubM.refl _) DeadOk.nil
            (refine a_storeE 0 rfl rfl rfl ?_ rfl ?_; omega)
            refine Run.nil ?_
            refine ⟨rfl, ?_⟩
            refine game_two (rem' := [3, 16, 17]) (rem'' := [2, 16, 17]) (i := 2) (j := 3) (by kernel_rfl) rfl rfl rfl rfl ?_ ?_ DeadOk.nil
            refine st (s_move rfl) rfl (Run.nil ?_)
            refine ⟨rfl, ?_⟩
            refine game_one (rem' := [16, 17]) (i := 3) (by kernel_rfl) rfl rfl ?_ DeadOk.nil
            refine st (s_move rfl) rfl (Run.nil ?_)
            refine ⟨rfl, ?_⟩
            refine game_one (rem' := [17]) (i := 16) (by kernel_rfl) rfl rfl ?_ DeadOk.nil
            refine st (s_indexON rfl rfl (by omega)) rfl (Run.nil ?_)
            refine ⟨rfl, ?_⟩
            refine game_one (rem' := []) (i := 17) (by kernel_rfl) rfl rfl ?_ DeadOk.nil
            (refine a_storeE 0 rfl rfl rfl ?_ rfl ?_; omega)
            refine Run.nil ?_
            refine ⟨rfl, ?_⟩
            refine game_end (by repeat (first | exact SubG.nil | refine SubG.cons rfl (VT.le_refl _) ?_)) (SubM.refl _) DeadOk.nil
            refine st (s_move rfl) rfl (Run.nil ?_)
            refine ⟨rfl, ?_⟩
            refine game_one (rem' := [16, 17]) (i := 2) (by kernel_rfl) rfl rfl ?_ DeadOk.nil
            refine st (s_move rfl) rfl (Run.nil ?_)
            refine ⟨rfl, ?_⟩
            refine game_one (rem' := [17]) (i := 16) (by kernel_rfl) rfl rfl ?_ DeadOk.nil
            refine st (s_indexON rfl rfl (by omega)) rfl (Run.nil ?_)
            refine ⟨rfl, ?_⟩
            refine game_one (rem' := []) (i := 17) (by kernel_rfl) rfl rfl ?_ DeadOk.nil
            (refine a_storeE 0 rfl rfl rfl ?_ rfl ?_; omega)
            refine Run.nil ?_
            refine ⟨rfl, ?_⟩
            refine game_end (by repeat (first | exact SubG.nil | refine SubG.cons rfl (VT.le_refl _) ?_)) (SubM.refl _) DeadOk.nil
          · refine game_three (r1 := [4, 15, 16, 17]) (r2 := [2, 15, 16, 17]) (r3 := [2, 4, 16, 17]) (i := 2) (j := 4) (k := 15) (by kernel_rfl) rfl rfl rfl rfl rfl rfl ?_ ?_ ?_ DeadOk.nil
            refine st (s_move rfl) rfl (Run.nil ?_)
            refine ⟨rfl, ?_⟩
            refine game_two (rem' := [15, 16, 17]) (rem'' := [4, 16, 17]) (i := 4) (j := 15) (by kernel_rfl) rfl rfl rfl rfl ?_ ?_ DeadOk.nil
            refine st (s_subN _ 1 rfl rfl (by omega) (by omega)) rfl (Run.nil ?_)
            refine ⟨rfl, ?_⟩
            refine game_one (rem' := [16, 17]) (i := 15) (by kernel_rfl) rfl rfl ?_ DeadOk.nil
            (refine a_storeE 0 rfl rfl rfl ?_ rfl ?_; omega)
            refine Run.nil ?_
            refine ⟨rfl, ?_⟩
            refine game_one (rem' := [17]) (i := 16) (by kernel_rfl) rfl rfl ?_ DeadOk.nil
            refine st (s_indexON rfl rfl (by omega)) rfl (Run.nil ?_)
            refine ⟨rfl, ?_⟩
            refine game_one (rem' := []) (i := 17) (by kernel_rfl) rfl rfl ?_ DeadOk.nil
            (refine a_storeE 0 rfl rfl rfl ?_ rfl ?_; omega)
            refine Run.nil ?_
            refine ⟨rfl, ?_⟩
            refine game_end (by repeat (first | exact SubG.nil | refine SubG.cons rfl (VT.le_refl _) ?_)) (SubM.refl _) DeadOk.nil
            (refine a_storeE 0 rfl rfl rfl ?_ rfl ?_; omega)
            refine Run.nil ?_
            refine ⟨rfl, ?_⟩
            refine game_one (rem' := [16, 17]) (i := 4) (by kernel_rfl) rfl rfl ?_ DeadOk.nil
            refine st (s_subN _ 1 rfl rfl (by omega) (by omega)) rfl (Run.nil ?_)
            refine ⟨rfl, ?_⟩
            refine game_one (rem' := [17]) (i := 16) (by kernel_rfl) rfl rfl ?_ DeadOk.nil
            refine st (s_indexON rfl rfl (by omega)) rfl (Run.nil ?_)
            refine ⟨rfl, ?_⟩
            refine game_one (rem' := []) (i := 17) (by kernel_rfl) rfl rfl ?_ DeadOk.nil
            (refine a_storeE 0 rfl rfl rfl ?_ rfl ?_; omega)
            refine Run.nil ?_
            refine ⟨rfl, ?_⟩
            refine game_end (by repeat (first | exact SubG.nil | refine SubG.cons rfl (VT.le_refl _) ?_)) (SubM.refl _) DeadOk.nil
            refine st (s_subN _ 1 rfl rfl (by omega) (by omega)) rfl (Run.nil ?_)
            refine ⟨rfl, ?_⟩
            refine game_two (rem' := [15, 16, 17]) (rem'' := [2, 16, 17]) (i := 2) (j := 15) (by kernel_rfl) rfl rfl rfl rfl ?_ ?_ DeadOk.nil
            refine st (s_move rfl) rfl (Run.nil ?_)
            refine ⟨rfl, ?_⟩
            refine game_one (rem' := [16, 17]) (i := 15) (by kernel_rfl) rfl rfl ?_ DeadOk.nil
            (refine a_storeE 0 rfl rfl rfl ?_ rfl ?_; omega)
            refine Run.nil ?_
            refine ⟨rfl, ?_⟩
            refine game_one (rem' := [17]) (i := 16) (by kernel_rfl) rfl rfl ?_ DeadOk.nil
            refine st (s_indexON rfl rfl (by omega)) rfl (Run.nil ?_)
            refine ⟨rfl, ?_⟩
            refine game_one (rem' := []) (i := 17) (by kernel_rfl) rfl rfl ?_ DeadOk.nil
            (refine a_storeE 0 rfl rfl rfl ?_ rfl ?_; omega)
            refine Run.nil ?_
            refine ⟨rfl, ?_⟩
            refine game_end (by repeat (first | exact SubG.nil | refine SubG.cons rfl (VT.le_refl _) ?_)) (SubM.refl _) DeadOk.nil
            (refine a_storeE 0 rfl rfl rfl ?_ rfl ?_; omega)
            refine Run.nil ?_
            refine ⟨rfl, ?_⟩
            refine game_one (rem' := [16, 17]) (i := 2) (by kernel_rfl) rfl rfl ?_ DeadOk.nil
            refine st (s_move rfl) rfl (Run.nil ?_)
            refine ⟨rfl, ?_⟩
            refine game_one (rem' := [17]) (i := 16) (by kernel_rfl) rfl rfl ?_ DeadOk.nil
            refine st (s_indexON rfl rfl (by omega)) rfl (Run.nil ?_)
            refine ⟨rfl, ?_⟩
            refine game_one (rem' := []) (i := 17) (by kernel_rfl) rfl rfl ?_ DeadOk.nil
            (refine a_storeE 0 rfl rfl rfl ?_ rfl ?_; omega)
            refine Run.nil ?_
            refine ⟨rfl, ?_⟩
            refine game_end (by repeat (first | exact SubG.nil | refine SubG.cons rfl (VT.le_refl _) ?_)) (SubM.refl _) DeadOk.nil
            (refine a_storeE 0 rfl rfl rfl ?_ rfl ?_; omega)
            refine Run.nil ?_
            refine ⟨rfl, ?_⟩
            refine game_two (rem' := [4, 16, 17]) (rem'' := [2, 16, 17]) (i := 2) (j := 4) (by kernel_rfl) rfl rfl rfl rfl ?_ ?_ DeadOk.nil
            refine st (s_move rfl) rfl (Run.nil ?_)
            refine ⟨rfl, ?_⟩
            refine game_one (rem' := [16, 17]) (i := 4) (by kernel_rfl) rfl rfl ?_ DeadOk.nil
            refine st (s_subN _ 1 rfl rfl (by omega) (by omega)) rfl (Run.nil ?_)
            refine ⟨rfl, ?_⟩
            refine game_one (rem' := [17]) (i := 16) (by kernel_rfl) rfl rfl ?_ DeadOk.nil
            refine st (s_indexON rfl rfl (by omega)) rfl (Run.nil ?_)
            refine ⟨rfl, ?_⟩
            refine game_one (rem' := []) (i := 17) (by kernel_rfl) rfl rfl ?_ DeadOk.nil
            (refine a_storeE 0 rfl rfl rfl ?_ rfl ?_; omega)
            refine Run.nil ?_
            refine ⟨rfl, ?_⟩
            refine game_end (by repeat (first | exact SubG.nil | refine SubG.cons rfl (VT.le_refl _) ?_)) (SubM.refl _) DeadOk.nil
            refine st (s_subN _ 1 rfl rfl (by omega) (by omega)) rfl (Run.nil ?_)
            refine ⟨rfl, ?_⟩
            refine game_one (rem' := [16, 17]) (i := 2) (by kernel_rfl) rfl rfl ?_ DeadOk.nil
            refine st (s_move rfl) rfl (Run.nil ?_)
            refine ⟨rfl, ?_⟩
            refine game_one (rem' := [17]) (i := 16) (by kernel_rfl) rfl rfl ?_ DeadOk.nil
            refine st (s_indexON rfl rfl (by omega)) rfl (Run.nil ?_)
            refine ⟨rfl, ?_⟩
            refine game_one (rem' := []) (i := 17) (by kernel_rfl) rfl rfl ?_ DeadOk.nil
            (refine a_storeE 0 rfl rfl rfl ?_ rfl ?_; omega)
            refine Run.nil ?_
            refine ⟨rfl, ?_⟩
            refine game_end (by repeat (first | exact SubG.nil | refine SubG.cons rfl (VT.le_refl _) ?_)) (SubM.refl _) DeadOk.nil
          · refine game_two (rem' := [15, 16, 17]) (rem'' := [2, 16, 17]) (i := 2) (j := 15) (by kernel_rfl) rfl rfl rfl rfl ?_ ?_ DeadOk.nil
            refine st (s_move rfl) rfl (Run.nil ?_)
            refine ⟨rfl, ?_⟩
            refine game_one (rem' := [16, 17]) (i := 15) (by kernel_rfl) rfl rfl ?_ DeadOk.nil
            (refine a_storeE 0 rfl rfl rfl ?_ rfl ?_; omega)
            refine Run.nil ?_
            refine ⟨rfl, ?_⟩
            refine game_one (rem' := [17]) (i := 16) (by kernel_rfl) rfl rfl ?_ DeadOk.nil
            refine st (s_indexON rfl rfl (by omega)) rfl (Run.nil ?_)
            refine ⟨rfl, ?_⟩
            refine game_one (rem' := []) (i := 17) (by kernel_rfl) rfl rfl ?_ DeadOk.nil
            (refine a_storeE 0 rfl rfl rfl ?_ rfl ?_; omega)
            refine Run.nil ?_
            refine ⟨rfl, ?_⟩
            refine game_end (by repeat (first | exact SubG.nil | refine SubG.cons rfl (VT.le_refl _) ?_)) (SubM.refl _) DeadOk.nil
            (refine a_storeE 0 rfl rfl rfl ?_ rfl ?_; omega)
            refine Run.nil ?_
            refine ⟨rfl, ?_⟩
            refine game_one (rem' := [16, 17]) (i := 2) (by kernel_rfl) rfl rfl ?_ DeadOk.nil
            refine st (s_move rfl) rfl (Run.nil ?_)
            refine ⟨rfl, ?_⟩
            refine game_one (rem' := [17]) (i := 16) (by kernel_rfl) rfl rfl ?_ DeadOk.nil
            refine st (s_indexON rfl rfl (by omega)) rfl (Run.nil ?_)
            refine ⟨rfl, ?_⟩
            refine game_one (rem' := []) (i := 17) (by kernel_rfl) rfl rfl ?_ DeadOk.nil
            (refine a_storeE 0 rfl rfl rfl ?_ rfl ?_; omega)
            refine Run.nil ?_
            refine ⟨rfl, ?_⟩
            refine game_end (by repeat (first | exact SubG.nil | refine SubG.cons rfl (VT.le_refl _) ?_)) (SubM.refl _) DeadOk.nil
          · refine game_two (rem' := [4, 15, 16, 17]) (rem'' := [3, 4, 16, 17]) (i := 3) (j := 15) (by kernel_rfl) rfl rfl rfl rfl ?_ ?_ DeadOk.nil
            refine st (s_move rfl) rfl (Run.nil ?_)
            refine ⟨rfl, ?_⟩
            refine game_two (rem' := [15, 16, 17]) (rem'' := [4, 16, 17]) (i := 4) (j := 15) (by kernel_rfl) rfl rfl rfl rfl ?_ ?_ DeadOk.nil
            refine st (s_subN _ 1 rfl rfl (by omega) (by omega)) rfl (Run.nil ?_)
            refine ⟨rfl, ?_⟩
            refine game_one (rem' := [16, 17]) (i := 15) (by kernel_rfl) rfl rfl ?_ DeadOk.nil
            (refine a_storeE 0 rfl rfl rfl ?_ rfl ?_; omega)
            refine Run.nil ?_
            refine ⟨rfl, ?_⟩
            refine game_one (rem' := [17]) (i := 16) (by kernel_rfl) rfl rfl ?_ DeadOk.nil
            refine st (s_indexON rfl rfl (by omega)) rfl (Run.nil ?_)
            refine ⟨rfl, ?_⟩
            refine game_one (rem' := []) (i := 17) (by kernel_rfl) rfl rfl ?_ DeadOk.nil
            (refine a_storeE 0 rfl rfl rfl ?_ rfl ?_; omega)
            refine Run.nil ?_
            refine ⟨rfl, ?_⟩
            refine game_end (by repeat (first | exact SubG.nil | refine SubG.cons rfl (VT.le_refl _) ?_)) (SubM.refl _) DeadOk.nil
            (refine a_storeE 0 rfl rfl rfl ?_ rfl ?_; omega)
            refine Run.nil ?_
            refine ⟨rfl, ?_⟩
            refine game_one (rem' := [16, 17]) (i := 4) (by kernel_rfl) rfl rfl ?_ DeadOk.nil
            refine st (s_subN _ 1 rfl rfl (by omega) (by omega)) rfl (Run.nil ?_)
            refine ⟨rfl, ?_⟩
            refine game_one (rem' := [17]) (i := 16) (by kernel_rfl) rfl rfl ?_ DeadOk.nil
            refine st (s_indexON rfl rfl (by omega)) rfl (Run.nil ?_)
            refine ⟨rfl, ?_⟩
            refine game_one (rem' := []) (i := 17) (by kernel_rfl) rfl rfl ?_ DeadOk.nil
            (refine a_storeE 0 rfl rfl rfl ?_ rfl ?_; omega)
            refine Run.nil ?_
            refine ⟨rfl, ?_⟩
            refine game_end (by repeat (first | exact SubG.nil | refine SubG.cons rfl (VT.le_refl _) ?_)) (SubM.refl _) DeadOk.nil
            (refine a_storeE 0 rfl rfl rfl ?_ rfl ?_; omega)
            refine Run.nil ?_
            refine ⟨rfl, ?_⟩
            refine game_one (rem' := [4, 16, 17]) (i := 3) (by kernel_rfl) rfl rfl ?_ DeadOk.nil
            refine st (s_move rfl) rfl (Run.nil ?_)
            refine ⟨rfl, ?_⟩
            refine game_one (rem' := [16, 17]) (i := 4) (by kernel_rfl) rfl rfl ?_ DeadOk.nil
            refine st (s_subN _ 1 rfl rfl (by omega) (by omega)) rfl (Run.nil ?_)
            refine ⟨rfl, ?_⟩
            refine game_one (rem' := [17]) (i := 16) (by kernel_rfl) rfl rfl ?_ DeadOk.nil
            refine st (s_indexON rfl rfl (by omega)) rfl (Run.nil ?_)
            refine ⟨rfl, ?_⟩
            refine game_one (rem' := []) (i := 17) (by kernel_rfl) rfl rfl ?_ DeadOk.nil
            (refine a_storeE 0 rfl rfl rfl ?_ rfl ?_; omega)
            refine Run.nil ?_
            refine ⟨rfl, ?_⟩
            refine game_end (by repeat (first | exact SubG.nil | refine SubG.cons rfl (VT.le_refl _) ?_)) (SubM.refl _) DeadOk.nil
          · refine game_two (rem' := [15, 16, 17]) (rem'' := [3, 16, 17]) (i := 3) (j := 15) (by kernel_rfl) rfl rfl rfl rfl ?_ ?_ DeadOk.nil
            refine st (s_move rfl) rfl (Run.nil ?_)
            refine ⟨rfl, ?_⟩
            refine game_one (rem' := [16, 17]) (i := 15) (by kernel_rfl) rfl rfl ?_ DeadOk.nil
            (refine a_storeE 0 rfl rfl rfl ?_ rfl ?_; omega)
            refine Run.nil ?_
            refine ⟨rfl, ?_⟩
            refine game_one (rem' := [17]) (i := 16) (by kernel_rfl) rfl rfl ?_ DeadOk.nil
            refine st (s_indexON rfl rfl (by omega)) rfl (Run.nil ?_)
            refine ⟨rfl, ?_⟩
            refine game_one (rem' := []) (i := 17) (by kernel_rfl) rfl rfl ?_ DeadOk.nil
            (refine a_storeE 0 rfl rfl rfl ?_ rfl ?_; omega)
            refine Run.nil ?_
            refine ⟨rfl, ?_⟩
            refine game_end (by repeat (first | exact SubG.nil | refine SubG.cons rfl (VT.le_refl _) ?_)) (SubM.refl _) DeadOk.nil
            (refine a_storeE 0 rfl rfl rfl ?_ rfl ?_; omega)
            refine Run.nil ?_
            refine ⟨rfl, ?_⟩
            refine game_one (rem' := [16, 17]) (i := 3) (by kernel_rfl) rfl rfl ?_ DeadOk.nil
            refine st (s_move rfl) rfl (Run.nil ?_)
            refine ⟨rfl, ?_⟩
            refine game_one (rem' := [17]) (i := 16) (by kernel_rfl) rfl rfl ?_ DeadOk.nil
            refine st (s_indexON rfl rfl (by omega)) rfl (Run.nil ?_)
            refine ⟨rfl, ?_⟩
            refine game_one (rem' := []) (i := 17) (by kernel_rfl) rfl rfl ?_ DeadOk.nil
            (refine a_storeE 0 rfl rfl rfl ?_ rfl ?_; omega)
            refine Run.nil ?_
            refine ⟨rfl, ?_⟩
            refine game_end (by repeat (first | exact SubG.nil | refine SubG.cons rfl (VT.le_refl _) ?_)) (SubM.refl _) DeadOk.nil
          · refine game_two (rem' := [15, 16, 17]) (rem'' := [4, 16, 17]) (i := 4) (j := 15) (by kernel_rfl) rfl rfl rfl rfl ?_ ?_ DeadOk.nil
            refine st (s_subN _ 1 rfl rfl (by omega) (by omega)) rfl (Run.nil ?_)
            refine ⟨rfl, ?_⟩
            refine game_one (rem' := [16, 17]) (i := 15) (by kernel_rfl) rfl rfl ?_ DeadOk.nil
            (refine a_storeE 0 rfl rfl rfl ?_ rfl ?_; omega)
            refine Run.nil ?_
            refine ⟨rfl, ?_⟩
            refine game_one (rem' := [17]) (i := 16) (by kernel_rfl) rfl rfl ?_ DeadOk.nil
            refine st (s_indexON rfl rfl (by omega)) rfl (Run.nil ?_)
            refine ⟨rfl, ?_⟩
            refine game_one (rem' := []) (i := 17) (by kernel_rfl) rfl rfl ?_ DeadOk.nil
            (refine a_storeE 0 rfl rfl rfl ?_ rfl ?_; omega)
            refine Run.nil ?_
            refine ⟨rfl, ?_⟩
            refine game_end (by repeat (first | exact SubG.nil | refine SubG.cons rfl (VT.le_refl _) ?_)) (SubM.refl _) DeadOk.nil
            (refine a_storeE 0 rfl rfl rfl ?_ rfl ?_; omega)
            refine Run.nil ?_
            refine ⟨rfl, ?_⟩
            refine game_one (rem' := [16, 17]) (i := 4) (by kernel_rfl) rfl rfl ?_ DeadOk.nil
            refine st (s_subN _ 1 rfl rfl (by omega) (by omega)) rfl (Run.nil ?_)
            refine ⟨rfl, ?_⟩
            refine game_one (rem' := [17]) (i := 16) (by kernel_rfl) rfl rfl ?_ DeadOk.nil
            refine st (s_indexON rfl rfl (by omega)) rfl (Run.nil ?_)
            refine ⟨rfl, ?_⟩
            refine game_one (rem' := []) (i := 17) (by kernel_rfl) rfl rfl ?_ DeadOk.nil
            (refine a_storeE 0 rfl rfl rfl ?_ rfl ?_; omega)
            refine Run.nil ?_
            refine ⟨rfl, ?_⟩
            refine game_end (by repeat (first | exact SubG.nil | refine SubG.cons rfl (VT.le_refl _) ?_)) (SubM.refl _) DeadOk.nil
          · refine game_one (rem' := [16, 17]) (i := 15) (by kernel_rfl) rfl rfl ?_ DeadOk.nil
            (refine a_storeE 0 rfl rfl rfl ?_ rfl ?_; omega)
            refine Run.nil ?_
            refine ⟨rfl, ?_⟩
            refine game_one (rem' := [17]) (i := 16) (by kernel_rfl) rfl rfl ?_ DeadOk.nil
            refine st (s_indexON rfl rfl (by omega)) rfl (Run.nil ?_)
            refine ⟨rfl, ?_⟩
            refine game_one (rem' := []) (i := 17) (by kernel_rfl) rfl rfl ?_ DeadOk.nil
            (refine a_storeE 0 rfl rfl rfl ?_ rfl ?_; omega)
            refine Run.nil ?_
            refine ⟨rfl, ?_⟩
            refine game_end (by repeat (first | exact SubG.nil | refine SubG.cons rfl (VT.le_refl _) ?_)) (SubM.refl _) DeadOk.nil
        · refine pn_block (pj_then (J_reg (st (s_move rfl) rfl (st (s_subN _ 1 rfl rfl (by omega) (by omega)) rfl (st (s_assign rfl) rfl (Run.nil ?_))))))
          refine pj_roundM ((j, swpF j h)) (⟨by omega, hin.swp (by omega), hI⟩) (by omega) (by repeat (first | exact SubG.refl _ | exact SubG.nil | refine SubG.cons rfl (VT.le_refl _) ?_ | (refine SubG.cons rfl (one_le ?_) ?_; (congr 1; first | omega | (simp; omega) | simp)))) (.keep (swpF_upd) (.nil))
      · rw [if_neg hlt2] at hI
        have hcc : ¬ cmpI (h j) (h (j + 1)) < 0 := by unfold cmpI; split <;> (try split) <;> omega
        generalize cmpI (h j) (h (j + 1)) = cc at *
        subst hI
        refine J_seq (J_seq (J_regd 17 mixed (by kernel_rfl) (by decide) (st (s_move rfl) rfl (st (s_move rfl) rfl (st (sT (by omega) (s_gt rfl rfl)) rfl (st (s_move rfl) rfl (sg1 rfl rfl (s_move rfl) rfl (sg1 rfl rfl (s_move rfl) rfl (sg1 rfl rfl (s_move rfl) rfl ?_)))))))))
        refine sg1 rfl rfl (s_indexON rfl rfl (by omega)) rfl (sg1 rfl rfl (s_loadE 0 rfl rfl (by omega)) rfl (sg1 rfl rfl (s_move rfl) rfl (sg1 rfl rfl (s_move rfl) rfl (sg1 rfl rfl (s_subN _ 1 rfl rfl (by omega) (by omega)) rfl (sg1 rfl rfl (s_indexON rfl rfl (by omega)) rfl (sg1 rfl rfl (s_loadE 0 rfl rfl (by omega)) rfl ?_))))))
        refine sg1 rfl rfl (s_callF hcl rfl rfl ⟨VT.le_refl _, VT.le_refl _, trivial⟩) rfl ?_
        refine sg1 rfl rfl (sF (by assumption) (s_lt rfl rfl)) rfl (st (s_pickT rfl rfl) rfl (Run.nil (Run.nil (pj_then (J_cond0 rfl (J_exit (px_then (px_then (px_block ?_)))))))))
        refine pn_block (pj_then (J_reg (st (s_move rfl) rfl (st (s_addN _ 1 rfl rfl (by omega)) rfl (st (s_assign rfl) rfl (Run.nil ?_))))))
        refine pj_roundM (t + 1) (by omega) (by omega) (by repeat (first | exact SubG.refl _ | exact SubG.nil | refine SubG.cons rfl (VT.le_refl _) ?_ | (refine SubG.cons rfl (one_le ?_) ?_; (congr 1; first | omega | (simp; omega) | simp)))) (.keep (Own.le_refl _) (.nil))
  · refine J_seq (J_seq (J_reg (st (s_move rfl) rfl (st (s_move rfl) rfl (st (sF (by omega) (s_lt rfl rfl)) rfl (Run.nil (pj_then (J_cond0 rfl (J_exit ?_)))))))))
    refine px_then (px_then (px_block (pj_fall ?_)))
    exact retI0 (σ := Unit) (ψ := fun _ => tupT []) () Try.results84 (VT.le_refl _) (.keep (sliO_eq fun q hq => by rw [show t + 1 = n by omega]) .nil)
end Tor
end
