/-
  package matrix: times.
-/
import Derived.Test.YtmpnikllhpagcaaX4
set_option linter.unusedVariables false
set_option linter.unusedSimpArgs false
namespace Tor
open Go Go.RowKit Go.Proofs
/-- The sum of the first n values. -/
def sumF : Nat → (Nat → Int) → Int
  | 0, _ => 0
  | n + 1, f => sumF n f + f n
theorem sumF_congr {n : Nat} {f g : Nat → Int} (h : ∀ i, i < n → f i = g i) : sumF n f = sumF n g := by
  induction n with
  | zero => rfl
  | succ n ih => rw [sumF, sumF, ih (fun i hi => h i (by omega)), h n (by omega)]
theorem sumF_bound {n B : Nat} {f : Nat → Int} (h : ∀ i, (f i).natAbs ≤ B) : (sumF n f).natAbs ≤ n * B := by
  induction n with
  | zero => simp [sumF]
  | succ n ih =>
    rw [sumF, Nat.succ_mul]
    have := h n
    omega
/-- A number of modest size. -/
def mod4 (x : Int) : Prop := x.natAbs ≤ 2 ^ 400
theorem mod4_mul {x y : Int} (hx : mod4 x) (hy : mod4 y) : (x * y).natAbs ≤ 2 ^ 800 := by
  rw [Int.natAbs_mul]
  exact Nat.le_trans (Nat.mul_le_mul hx hy) (by decide +kernel)
theorem small_le {x : Int} {n : Nat} (h : x.natAbs ≤ n) (hn : n < 2 ^ 2048) : small x := small_lt (Nat.lt_of_le_of_lt h hn)
theorem mod4_small {x : Int} (hx : mod4 x) : small x := small_le hx (by decide +kernel)
theorem sum_small {n : Nat} {f : Nat → Int} (hn : n ≤ 1048576) (h : ∀ i, (f i).natAbs ≤ 2 ^ 800) : small (sumF n f) :=
  small_le (sumF_bound h) (Nat.lt_of_le_of_lt (Nat.mul_le_mul_right _ hn) (by decide +kernel))
/-- A product of matrices. -/
def mulF (n : Nat) (F G : Nat → Nat → Int) : Nat → Nat → Int := fun i j => sumF n (fun k => F i k * G k j)
theorem sumF_step {n : Nat} {f : Nat → Int} : sumF (n + 1) f = sumF n f + f n := rfl
attribute [local irreducible] Tor.J Tor.PJ Tor.StepO Tor.one Tor.slT Tor.ptrT Tor.aggT Tor.tupT Tor.exT Tor.andT Tor.gT Tor.eP Tor.boxO Tor.sliO Tor.slV Tor.VT.le Tor.Ret Tor.anyT
attribute [local irreducible] bigT
set_option maxHeartbeats 4000000 in
theorem mtimes_ok (r c : Nat) (v : Nat → Int) (G : Nat → Nat → Int) (hr : r ≤ 1048576) (hc0 : c ≤ 1048576) (hv : ∀ i, mod4 (v i)) (hG : ∀ i j, mod4 (G i j)) :
    Ok Try.prog 60 [rowF r v, matF r c G] (rowF c (fun j => sumF r (fun k => v k * G k j))) := by
  unfold rowF matF
  refine Ok.enter Try.func60 rfl Try.ntmps60 rfl (fun w O => ?_)
  refine J_seq ?_
  refine J_reg ?_
  refine a_boxS rfl rfl (ltN rfl) (fun b => ?_)
  refine st (s_assign rfl) rfl ?_
  refine Run.nil ?_
  refine pj_then ?_
  refine J_seq ?_
  refine J_reg ?_
  refine st (s_fieldAddr rfl) rfl ?_
  refine st (s_loadB 0 rfl rfl rfl) rfl ?_
  refine a_makeSlice c c rfl rfl rfl rfl (Nat.le_refl _) rfl rfl (by omega) rfl rfl (fun bz => ?_)
  refine st (s_assign rfl) rfl ?_
  refine Run.nil ?_
  refine pj_then ?_
  refine J_seq ?_
  refine J_seq ?_
  refine J_reg ?_
  refine st (s_move rfl) rfl ?_
  refine st (s_len rfl) rfl ?_
  refine st (s_move rfl) rfl ?_
  refine Run.nil ?_
  refine pj_then ?_
  refine J_block ?_
  refine J_loop (σ := Nat) (fun i => [(3, one (.pointer (some ⟨b, 0, none⟩))), (5, one (slV (some bz) c c)), (13, slT (.agg 2) r (fun j => bigT (v j))), (14, one (.int .i64 r)), (15, one (.int .i64 (i : Nat)))])
    (fun i => [sliO (some bz) 29 (.agg 2) c c (fun q => bigT (sumF i (fun k => v k * G k q))), boxO b 33 3 [(0, .one, one (.int .i64 r)), (1, .one, one (.int .i64 c)), (2, .one, slT .one r (fun i => rowF c (G i)))]])
    (fun i => i ≤ r) (fun i => r - i) 0 (Nat.zero_le _) (by repeat (first | exact SubG.nil | refine SubG.cons rfl (VT.le_refl _) ?_ | (refine SubG.cons rfl (one_le ?_) ?_; (congr 1; first | omega | (simp; omega) | simp)))) (.keep (sliO_le fun q hq => zero_big) (SubM.refl _)) (fun i hi => ?_)
  unfold rowF
  refine J_seq ?_
  refine J_reg ?_
  refine st (s_lt rfl rfl) rfl ?_
  refine Run.nil ?_
  refine pj_then ?_
  refine J_seq ?_
  refine J_cond rfl (fun hc => ?_) (fun hc => ?_) <;> simp only [decide_eq_true_eq, decide_eq_false_iff_not, ne_eq, Decidable.not_not] at hc
  · refine J_skip ?_
    refine pj_then ?_
    refine J_seq ?_
    refine J_block ?_
    refine J_seq ?_
    refine J_reg ?_
    refine st (s_move rfl) rfl ?_
    (refine st (s_indexIN rfl rfl ?_) rfl ?_; omega)
    refine st (s_load rfl) rfl ?_
    refine a_alloc (T := 29) rfl (ltN rfl) (fun b => ?_)
    refine st (s_assign rfl) rfl ?_
    refine a_storeB 0 rfl rfl rfl rfl rfl (leN rfl) rfl ?_
    refine Run.nil ?_
    refine pj_then ?_
    refine J_seq ?_
    refine J_seq ?_
    refine J_reg ?_
    refine st (s_loadB 0 rfl rfl rfl) rfl ?_
    rename_i ba
    refine st (s_callk (SignI_ok (v i)) rfl ⟨VT.le_refl _, trivial⟩) rfl ?_
    refine st (s_eq rfl rfl) rfl ?_
    refine Run.nil ?_
    refine pj_then ?_
    refine J_cond rfl (fun hc2 => ?_) (fun hc2 => ?_) <;> simp only [decide_eq_true_eq, decide_eq_false_iff_not, sgnI_zero] at hc2
    · refine J_exit ?_
      refine px_then ?_
      refine px_block ?_
      refine pj_then ?_
      refine J_reg ?_
      (refine st (s_add rfl rfl (wrap_i64 ?_ ?_)) rfl ?_; omega; omega)
      refine st (s_move rfl) rfl ?_
      refine Run.nil ?_
      refine pj_round (s := i) (i + 1) (show _ from by omega) (by show r - (i + 1) < r - i; omega) (by repeat (first | exact SubG.nil | refine SubG.cons rfl (VT.le_refl _) ?_ | (refine SubG.cons rfl (one_le ?_) ?_; (congr 1; first | omega | (simp; omega) | simp)))) (.drop (.keep (sliO_eq fun q hq => ?_) (SubM.refl _)))
      rw [sumF_step, hc2]; simp
    · refine J_skip ?_
      refine pj_then ?_
      refine J_seq ?_
      refine J_reg ?_
      refine st (s_fieldAddr rfl) rfl ?_
      refine st (s_loadB 2 rfl rfl rfl) rfl ?_
      refine st (s_move rfl) rfl ?_
      (refine st (s_indexIN rfl rfl ?_) rfl ?_; omega)
      refine st (s_load rfl) rfl ?_
      refine st (s_len rfl) rfl ?_
      refine st (s_move rfl) rfl ?_
      refine Run.nil ?_
      refine pj_then ?_
      refine J_block ?_
      refine J_loop (σ := Nat) (fun j => [(3, one (.pointer (some ⟨ba, 0, none⟩))), (5, one (slV (some bz) c c)), (6, one (.int .i64 (i : Nat))), (7, one (.pointer (some ⟨b, 0, none⟩))), (13, slT (.agg 2) r (fun j => bigT (v j))), (14, one (.int .i64 r)), (15, one (.int .i64 (i : Nat))), (27, slT (.agg 2) c (fun j => bigT (G i j))), (28, one (.int .i64 c)), (29, one (.int .i64 (j : Nat)))])
        (fun j => [boxO b 29 2 [(0, .agg 2, bigT (v i))], sliO (some bz) 29 (.agg 2) c c (fun q => bigT (if q < j then sumF (i + 1) (fun k => v k * G k q) else sumF i (fun k => v k * G k q))), boxO ba 33 3 [(0, .one, one (.int .i64 r)), (1, .one, one (.int .i64 c)), (2, .one, slT .one r (fun i => slT (.agg 2) c (fun j => bigT (G i j))))]])
        (fun j => j ≤ c) (fun j => c - j) 0 (Nat.zero_le _) (by repeat (first | exact SubG.nil | refine SubG.cons rfl (VT.le_refl _) ?_ | (refine SubG.cons rfl (one_le ?_) ?_; (congr 1; first | omega | (simp; omega) | simp)))) (.keep (Own.le_refl _) (.keep (sliO_eq fun q hq => by rw [if_neg (by omega)]) (SubM.refl _))) (fun j hj => ?_)
      refine J_seq ?_
      refine J_reg ?_
      refine st (s_lt rfl rfl) rfl ?_
      refine Run.nil ?_
      refine pj_then ?_
      refine J_seq ?_
      refine J_cond rfl (fun hc3 => ?_) (fun hc3 => ?_) <;> simp only [decide_eq_true_eq, decide_eq_false_iff_not, Int.ofNat_lt] at hc3
      · refine J_skip ?_
        refine pj_then ?_
        refine J_seq ?_
        refine J_block ?_
        refine J_seq ?_
        refine J_reg ?_
        refine st (s_move rfl) rfl ?_
        (refine st (s_indexIN rfl rfl ?_) rfl ?_; omega)
        refine st (s_load rfl) rfl ?_
        refine a_alloc (T := 29) rfl (ltN rfl) (fun b => ?_)
        refine st (s_assign rfl) rfl ?_
        refine a_storeB 0 rfl rfl rfl rfl rfl (leN rfl) rfl ?_
        refine Run.nil ?_
        refine pj_then ?_
        refine J_seq ?_
        refine J_reg ?_
        refine st (s_loadB 0 rfl rfl rfl) rfl ?_
        refine st (s_callk (SignI_ok (G i j)) rfl ⟨VT.le_refl _, trivial⟩) rfl ?_
        refine st (s_ne rfl rfl) rfl ?_
        refine Run.nil ?_
        refine pj_then ?_
        refine J_cond rfl (fun hc4 => ?_) (fun hc4 => ?_) <;> simp only [decide_eq_true_eq, decide_eq_false_iff_not, ne_eq, Decidable.not_not, sgnI_zero] at hc4
        · skip
          refine J_regd 11 mixed (by kernel_rfl) (by decide) ?_
          refine st (s_move rfl) rfl ?_
          refine st (s_move rfl) rfl ?_
          refine st (s_move rfl) rfl ?_
          refine st (s_move rfl) rfl ?_
          (refine st (s_indexON rfl rfl ?_) rfl ?_; omega)
          (refine st (s_loadE 2 rfl rfl ?_) rfl ?_; omega)
          refine st (s_loadB 1 rfl rfl rfl) rfl ?_
          refine st (s_loadB 0 rfl rfl rfl) rfl ?_
          refine st (s_callk (MulI_ok (v i) (G i j) (mod4_small (hv i)) (mod4_small (hG i j))) rfl ⟨VT.le_refl _, VT.le_refl _, trivial⟩) rfl ?_
          rw [if_neg (Nat.lt_irrefl j)]
          refine st (s_callk (AddI_ok (sumF i (fun k => v k * G k j)) (v i * G i j) (sum_small (by omega) (fun k => mod4_mul (hv k) (hG k j))) (small_le (mod4_mul (hv i) (hG i j)) (by decide +kernel))) rfl ⟨VT.le_refl _, VT.le_refl _, trivial⟩) rfl ?_
          (refine st (s_indexON rfl rfl ?_) rfl ?_; omega)
          refine Run.nil ?_
          (refine a_storeE 2 rfl rfl rfl ?_ rfl ?_; omega)
          refine Run.nil ?_
          refine pn_block ?_
          refine pj_then ?_
          refine J_reg ?_
          (refine st (s_add rfl rfl (wrap_i64 ?_ ?_)) rfl ?_; omega; omega)
          refine st (s_move rfl) rfl ?_
          refine Run.nil ?_
          refine pj_round (s := j) (j + 1) (show _ from by omega) (by show c - (j + 1) < c - j; omega) (by repeat (first | exact SubG.nil | refine SubG.cons rfl (VT.le_refl _) ?_ | (refine SubG.cons rfl (one_le ?_) ?_; (congr 1; first | omega | (simp; omega) | simp)))) (.drop (.keep (Own.le_refl _) (.keep (sliO_eq fun q hq => ?_) (SubM.refl _))))
          unfold upd
          by_cases h : q = j
          · subst h; rw [if_pos rfl, if_pos (by omega)]; rfl
          · rw [if_neg h]
            have e : q < j + 1 ↔ q < j := by omega
            simp only [e]
        · refine J_skip ?_
          refine pn_block ?_
          refine pj_then ?_
          refine J_reg ?_
          (refine st (s_add rfl rfl (wrap_i64 ?_ ?_)) rfl ?_; omega; omega)
          refine st (s_move rfl) rfl ?_
          refine Run.nil ?_
          refine pj_round (s := j) (j + 1) (show _ from by omega) (by show c - (j + 1) < c - j; omega) (by repeat (first | exact SubG.nil | refine SubG.cons rfl (VT.le_refl _) ?_ | (refine SubG.cons rfl (one_le ?_) ?_; (congr 1; first | omega | (simp; omega) | simp)))) (.drop (.keep (Own.le_refl _) (.keep (sliO_eq fun q hq => ?_) (SubM.refl _))))
          by_cases h : q = j
          · subst h; rw [if_neg (Nat.lt_irrefl _), if_pos (by omega), sumF_step, hc4]; simp
          · have e : q < j + 1 ↔ q < j := by omega
            simp only [e]
      · refine J_exit ?_
        refine px_then ?_
        refine px_then ?_
        refine px_block ?_
        refine pn_block ?_
        refine pj_then ?_
        refine J_reg ?_
        (refine st (s_add rfl rfl (wrap_i64 ?_ ?_)) rfl ?_; omega; omega)
        refine st (s_move rfl) rfl ?_
        refine Run.nil ?_
        refine pj_round (s := i) (i + 1) (show _ from by omega) (by show r - (i + 1) < r - i; omega) (by repeat (first | exact SubG.nil | refine SubG.cons rfl (VT.le_refl _) ?_ | (refine SubG.cons rfl (one_le ?_) ?_; (congr 1; first | omega | (simp; omega) | simp)))) (.drop (.keep (sliO_eq fun q hq => ?_) (SubM.refl _)))
        rw [if_pos (by omega)]
  · have hk : i = r := by omega
    subst hk
    refine J_exit ?_
    refine px_then ?_
    refine px_then ?_
    refine px_block ?_
    refine pj_then ?_
    refine J_seq ?_
    refine J_reg ?_
    refine st (s_move rfl) rfl ?_
    refine st (s_assign rfl) rfl ?_
    refine Run.nil ?_
    refine pj_then ?_
    refine J_ret ?_
    refine PJ_freeze (t := 4) (i := 0) rfl rfl ?_
    exact retc1 Try.results60 (.tmp rfl (VT.le_refl _))
end Tor
