/-
  Theorems that the proofs of laws of this seat rest on.
  No condition.
-/
import Derived.Test.YthkgpdljbajieaaU4
section
set_option linter.unusedVariables false
set_option linter.unusedSimpArgs false
namespace Tor
open Go Go.RowKit Go.Proofs
/-- The twos of a number are taken out. -/
def stripF : Nat → Nat → Nat → Nat × Nat
  | 0, o, t => (o, t)
  | f + 1, o, t => if o % 2 = 0 then stripF f (o / 2) (t + 1) else (o, t)
/-- Does a square meet n - 1? -/
def sqrF (n : Nat) : Nat → Nat → Bool
  | 0, _ => false
  | c + 1, x => if x * x % n = n - 1 then true else sqrF n c (x * x % n)
def strongB (n : Nat) (O T b : Nat) : Bool := decide (b ^ O % n = 1) || decide (b ^ O % n = n - 1) || sqrF n (T - 1) (b ^ O % n)
def baseN (j : Nat) : Nat := [2, 3, 5, 7].getD j 0
/-- The tests from base j on. -/
def testF (n O T : Nat) : Nat → Nat → Bool
  | 0, _ => true
  | c + 1, j => if n = baseN j then true else strongB n O T (baseN j) && testF n O T c (j + 1)
/-- What modular.Prime answers. -/
def primeB (n : Nat) : Bool := if n < 2 ∨ 2147483648 ≤ n then false else if n % 2 = 0 then decide (n = 2) else
  testF n (stripF 32 (n - 1) 0).1 (stripF 32 (n - 1) 0).2 4 0
theorem stripF_odd : ∀ (f o t : Nat), 0 < o → o < 2 ^ f → (stripF f o t).1 % 2 = 1 ∧ 0 < (stripF f o t).1 ∧ (stripF f o t).1 ≤ o ∧ (stripF f o t).2 ≤ t + f
  | 0, o, t, h1, h2 => by simp at h2; omega
  | f + 1, o, t, h1, h2 => by
    rw [stripF]
    split
    · have := stripF_odd f (o / 2) (t + 1) (by omega) (by rw [Nat.pow_succ] at h2; omega)
      omega
    · simp only; omega
theorem baseN_le (j : Nat) : baseN j ≤ 7 ∧ (j < 4 → 2 ≤ baseN j) := by
  unfold baseN
  match j with
  | 0 => decide
  | 1 => decide
  | 2 => decide
  | 3 => decide
  | j + 4 => simp
/-- The relation of the loop over the bases. -/
structure BasR (n : Nat) (O T i : Nat) : Prop where
  le : i ≤ 4
  ne : ∀ j, j < i → n ≠ baseN j
  eq : testF n O T 4 0 = testF n O T (4 - i) i
theorem BasR.next {n O T i : Nat} (h : BasR n O T i) (hi : i < 4) (hn : n ≠ baseN i) (hs : strongB n O T (baseN i) = true) : BasR n O T (i + 1) := by
  refine ⟨hi, fun j hj => ?_, ?_⟩
  · rcases Nat.lt_or_eq_of_le (Nat.lt_succ_iff.1 hj) with h' | h'
    · exact h.ne j h'
    · rw [h']; exact hn
  · rw [h.eq, show 4 - i = (4 - (i + 1)) + 1 by omega, testF, if_neg hn, hs]; rfl
theorem BasR.hit {n O T i : Nat} (h : BasR n O T i) (hi : i < 4) (hn : n = baseN i) : testF n O T 4 0 = true := by
  rw [h.eq, show 4 - i = (4 - (i + 1)) + 1 by omega, testF, if_pos hn]
theorem BasR.miss {n O T i : Nat} (h : BasR n O T i) (hi : i < 4) (hn : n ≠ baseN i) (hs : strongB n O T (baseN i) = false) : testF n O T 4 0 = false := by
  rw [h.eq, show 4 - i = (4 - (i + 1)) + 1 by omega, testF, if_neg hn, hs]; rfl
theorem BasR.end {n O T : Nat} (h : BasR n O T 4) : testF n O T 4 0 = true := by rw [h.eq]; rfl
theorem BasR.lt {n O T i : Nat} (h : BasR n O T i) (hi : i < 4) (hn : n ≠ baseN i) (h2 : 2 < n) (ho : n % 2 = 1) : baseN i < n := by
  have h0 := h.ne
  match i, hi with
  | 0, _ => show 2 < n; omega
  | 1, _ => have : n ≠ 3 := hn; show 3 < n; omega
  | 2, _ => have : n ≠ 5 := hn; have : n ≠ 3 := h0 1 (by omega); show 5 < n; omega
  | 3, _ => have : n ≠ 7 := hn; have : n ≠ 3 := h0 1 (by omega); have : n ≠ 5 := h0 2 (by omega); show 7 < n; omega
attribute [local irreducible] Tor.J Tor.PJ Tor.StepO Tor.one Tor.slT Tor.ptrT Tor.aggT Tor.tupT Tor.exT Tor.andT Tor.gT Tor.eP Tor.boxO Tor.sliO Tor.slV Tor.VT.le Tor.Ret Tor.anyT
set_option maxHeartbeats 4000000 in
set_option maxRecDepth 20000 in
theorem mPrime_ok (n : Nat) (hn64 : n < 18446744073709551616) : Ok Try.prog 72 [one (.int .u64 n)] (one (.bool (primeB n))) := by
  refine Ok.enter Try.func72 rfl Try.ntmps72 rfl (fun w O => ?_)
  unfold primeB
  by_cases h1 : n < 2
  · rw [if_pos (.inl h1)]
    refine J_seq ?_
    refine J_reg ?_
    refine st (s_assign rfl) rfl ?_
    refine Run.nil ?_
    refine pj_then ?_
    refine J_scope ?_
    refine J_seq ?_
    refine J_seq ?_
    refine J_reg ?_
    refine st (s_move rfl) rfl ?_
    refine st (sT (by omega) (s_lt rfl rfl)) rfl ?_
    refine st (s_move rfl) rfl ?_
    refine sg0 rfl rfl rfl rfl ?_
    refine sg0 rfl rfl rfl rfl ?_
    refine st (s_pickT rfl rfl) rfl ?_
    refine Run.nil ?_
    refine pj_then ?_
    refine J_cond1 rfl ?_
    refine J_seq ?_
    refine J_reg ?_
    refine st (s_assign rfl) rfl ?_
    refine Run.nil ?_
    refine pj_then ?_
    refine J_ret ?_
    refine pr_then ?_
    refine pr_scope ?_
    refine retc1 Try.results72 (.tmp rfl (VT.le_refl _))
  · by_cases h2 : 2147483648 ≤ n
    · rw [if_pos (.inr h2)]
      refine J_seq ?_
      refine J_reg ?_
      refine st (s_assign rfl) rfl ?_
      refine Run.nil ?_
      refine pj_then ?_
      refine J_scope ?_
      refine J_seq ?_
      refine J_seq ?_
      refine J_reg ?_
      refine st (s_move rfl) rfl ?_
      refine st (sF (by omega) (s_lt rfl rfl)) rfl ?_
      refine st (s_move rfl) rfl ?_
      refine sg1 rfl rfl (s_move rfl) rfl ?_
      refine sg1 rfl rfl (sT (by omega) (s_ge rfl rfl)) rfl ?_
      refine st (s_pickF rfl rfl) rfl ?_
      refine Run.nil ?_
      refine pj_then ?_
      refine J_cond1 rfl ?_
      refine J_seq ?_
      refine J_reg ?_
      refine st (s_assign rfl) rfl ?_
      refine Run.nil ?_
      refine pj_then ?_
      refine J_ret ?_
      refine pr_then ?_
      refine pr_scope ?_
      refine retc1 Try.results72 (.tmp rfl (VT.le_refl _))
    · rw [if_neg (by omega)]
      by_cases h3 : n % 2 = 0
      · rw [if_pos h3]
        refine J_seq ?_
        refine J_reg ?_
        refine st (s_assign rfl) rfl ?_
        refine Run.nil ?_
        refine pj_then ?_
        refine J_scope ?_
        refine J_seq ?_
        refine J_seq ?_
        refine J_reg ?_
        refine st (s_move rfl) rfl ?_
        refine st (sF (by omega) (s_lt rfl rfl)) rfl ?_
        refine st (s_move rfl) rfl ?_
        refine sg1 rfl rfl (s_move rfl) rfl ?_
        refine sg1 rfl rfl (sF (by omega) (s_ge rfl rfl)) rfl ?_
        refine st (s_pickF rfl rfl) rfl ?_
        refine Run.nil ?_
        refine pj_then ?_
        refine J_cond0 rfl ?_
        refine J_skip ?_
        refine pj_then ?_
        refine J_seq ?_
        refine J_seq ?_
        refine J_reg ?_
        refine st (s_move rfl) rfl ?_
        refine st (s_remN 2 rfl rfl rfl (by decide)) rfl ?_
        refine st (sT (by omega) (s_eq rfl rfl)) rfl ?_
        refine Run.nil ?_
        refine pj_then ?_
        refine J_cond1 rfl ?_
        refine J_seq ?_
        refine J_reg ?_
        refine st (s_move rfl) rfl ?_
        refine st (s_eq rfl rfl) rfl ?_
        refine st (s_assign rfl) rfl ?_
        refine Run.nil ?_
        refine pj_then ?_
        refine J_ret ?_
        refine pr_then ?_
        refine pr_scope ?_
        refine retc1 Try.results72 (.tmp rfl (one_le (by congr 1; rw [decide_eq_decide]; omega)))
      · rw [if_neg h3]
        obtain ⟨s1, s2, s3, s4⟩ := stripF_odd 32 (n - 1) 0 (by omega) (by omega)
        have hST : stripF 32 (n - 1) 0 = ((stripF 32 (n - 1) 0).1, (stripF 32 (n - 1) 0).2) := rfl
        generalize (stripF 32 (n - 1) 0).1 = OO at *
        generalize (stripF 32 (n - 1) 0).2 = TT at *
        have hn1 : 1 ≤ n := by omega
        refine J_seq ?_
        refine J_reg ?_
        refine st (s_assign rfl) rfl ?_
        refine Run.nil ?_
        refine pj_then ?_
        refine J_scope ?_
        refine J_seq ?_
        refine J_seq ?_
        refine J_reg ?_
        refine st (s_move rfl) rfl ?_
        refine st (sF (by omega) (s_lt rfl rfl)) rfl ?_
        refine st (s_move rfl) rfl ?_
        refine sg1 rfl rfl (s_move rfl) rfl ?_
        refine sg1 rfl rfl (sF (by omega) (s_ge rfl rfl)) rfl ?_
        refine st (s_pickF rfl rfl) rfl ?_
        refine Run.nil ?_
        refine pj_then ?_
        refine J_cond0 rfl ?_
        refine J_skip ?_
        refine pj_then ?_
        refine J_seq ?_
        refine J_seq ?_
        refine J_reg ?_
        refine st (s_move rfl) rfl ?_
        refine st (s_remN 2 rfl rfl rfl (by decide)) rfl ?_
        refine st (sF (by omega) (s_eq rfl rfl)) rfl ?_
        refine Run.nil ?_
        refine pj_then ?_
        refine J_cond0 rfl ?_
        refine J_skip ?_
        refine pj_then ?_
        refine J_seq ?_
        refine J_reg ?_
        refine st (s_move rfl) rfl ?_
        refine st (s_subC 1 rfl rfl (by omega) (by omega)) rfl ?_
        refine st (s_assign rfl) rfl ?_
        refine st (s_assign rfl) rfl ?_
        refine Run.nil ?_
        refine pj_then ?_
        refine J_seq ?_
        refine J_block ?_
        refine J_sub (Γ' := [(0, _), (2, _), (3, _), (4, _)]) (SubG.cons rfl (VT.le_refl _) (SubG.cons rfl (VT.le_refl _) (SubG.cons rfl (VT.le_refl _) (SubG.cons rfl (VT.le_refl _) (SubG.nil))))) (SubM.refl _) ?_
        refine J_loopA (σ := Nat × Nat × Nat) (Γk := [(0, _), (2, _)]) (SubG.cons rfl (VT.le_refl _) (SubG.cons rfl (VT.le_refl _) (SubG.nil))) (fun p => [(3, one (.int .u64 (p.1 : Nat))), (4, one (.int .i64 (p.2.1 : Nat)))]) (fun p M0 => M0) (fun p => stripF p.2.2 p.1 p.2.1 = (OO, TT) ∧ 0 < p.1 ∧ p.1 < 2 ^ p.2.2 ∧ p.2.1 + p.2.2 = 32) (fun p => p.1) ((n - 1, 0, 32)) (⟨hST, (by omega : 0 < n - 1), (by omega : n - 1 < 2 ^ 32), rfl⟩) (by repeat (first | exact SubG.refl _ | exact SubG.nil | refine SubG.cons rfl (VT.le_refl _) ?_ | (refine SubG.cons rfl (one_le ?_) ?_; (congr 1; first | omega | (simp; omega) | simp)))) (.nil) (fun p hp => ?_)
        refine J_norm (Γ' := [(3, _), (4, _), (0, _), (2, _)]) (M' := []) rfl rfl ?_
        obtain ⟨o, t, f⟩ := p
        dsimp only at hp ⊢
        obtain ⟨p1, p2, p3, p4⟩ := hp
        have ho31 : o < 4294967296 := Nat.lt_of_lt_of_le p3 (Nat.pow_le_pow_right (n := 2) (by decide) (show f ≤ 32 by omega))
        by_cases ho : o % 2 = 0
        · have hf0 : f ≠ 0 := fun h => by rw [h] at p3; simp at p3; omega
          obtain ⟨g, rfl⟩ : ∃ g, f = g + 1 := ⟨f - 1, by omega⟩
          rw [stripF, if_pos ho] at p1
          have p5 : o / 2 < 2 ^ g := by rw [Nat.pow_succ] at p3; omega
          refine J_seq ?_
          refine J_seq ?_
          refine J_reg ?_
          refine st (s_move rfl) rfl ?_
          refine st (s_remN 2 rfl rfl rfl (by decide)) rfl ?_
          refine st (sT (by omega) (s_eq rfl rfl)) rfl ?_
          refine Run.nil ?_
          refine pj_then ?_
          refine J_cond1 rfl ?_
          refine J_skip ?_
          refine pj_then ?_
          refine J_block ?_
          refine J_seq ?_
          refine J_reg ?_
          refine st (s_move rfl) rfl ?_
          refine st (s_quoU rfl rfl (by omega) (by decide)) rfl ?_
          refine st (s_assign rfl) rfl ?_
          refine Run.nil ?_
          refine pj_then ?_
          refine J_reg ?_
          refine st (s_move rfl) rfl ?_
          refine st (s_addN _ 1 rfl rfl (by omega)) rfl ?_
          refine st (s_assign rfl) rfl ?_
          refine Run.nil ?_
          refine pn_block ?_
          refine pj_roundM ((o / 2, t + 1, g)) (⟨p1, (by omega : 0 < o / 2), p5, (by omega : t + 1 + g = 32)⟩) (by omega) (by repeat (first | exact SubG.refl _ | exact SubG.nil | refine SubG.cons rfl (VT.le_refl _) ?_ | (refine SubG.cons rfl (one_le ?_) ?_; (congr 1; first | omega | (simp; omega) | simp)))) (.nil)
        · have e2 : stripF f o t = (o, t) := by cases f <;> simp [stripF, ho]
          rw [e2] at p1
          obtain ⟨rfl, rfl⟩ := Prod.mk.inj p1
          refine J_seq ?_
          refine J_seq ?_
          refine J_reg ?_
          refine st (s_move rfl) rfl ?_
          refine st (s_remN 2 rfl rfl rfl (by decide)) rfl ?_
          refine st (sF (by omega) (s_eq rfl rfl)) rfl ?_
          refine Run.nil ?_
          refine pj_then ?_
          refine J_cond0 rfl ?_
          refine J_exit ?_
          refine px_then ?_
          refine px_then ?_
          refine px_block ?_
          refine pj_then ?_
          refine J_seq ?_
          refine J_label ?_
          refine pj_then ?_
          refine J_seq ?_
          refine J_seq ?_
          refine J_reg ?_
          refine stB rfl rfl rfl ?_
          refine BuildK.cons rfl rfl rfl ?_
          refine BuildK.cons rfl rfl rfl ?_
          refine BuildK.cons rfl rfl rfl ?_
          refine BuildK.cons rfl rfl rfl ?_
          refine BuildK.nil ?_
          refine st (s_move rfl) rfl ?_
          refine Run.nil ?_
          refine pj_then ?_
          refine J_block ?_
          refine J_sub (Γ' := [(0, _), (2, _), (3, _), (4, _), (28, _), (29, _)]) (SubG.cons rfl (VT.le_refl _) (SubG.cons rfl (VT.le_refl _) (SubG.cons rfl (VT.le_refl _) (SubG.cons rfl (VT.le_refl _) (SubG.cons rfl (VT.le_refl _) (SubG.cons rfl (VT.le_refl _) (SubG.nil))))))) (SubM.refl _) ?_
          refine J_loopA (σ := Nat) (Γk := [(0, _), (3, _), (4, _), (28, _)]) (SubG.cons rfl (VT.le_refl _) (SubG.cons rfl (VT.le_refl _) (SubG.cons rfl (VT.le_refl _) (SubG.cons rfl (VT.le_refl _) (SubG.nil))))) (fun i => [(29, one (.int .i64 (i : Nat)))]) (fun i M0 => M0) (fun i => BasR n o t i) (fun i => 4 - i) (0) (⟨by decide, fun j hj => absurd hj (Nat.not_lt_zero j), rfl⟩) (by repeat (first | exact SubG.refl _ | exact SubG.nil | refine SubG.cons rfl (VT.le_refl _) ?_ | (refine SubG.cons rfl (one_le ?_) ?_; (congr 1; first | omega | (simp; omega) | simp)))) (.nil) (fun i hi => ?_)
          refine J_norm (Γ' := [(29, _), (0, _), (3, _), (4, _), (28, _)]) (M' := []) rfl rfl ?_
          have hile := hi.le
          refine J_seq ?_
          refine J_reg ?_
          refine st (s_lt rfl rfl) rfl ?_
          refine Run.nil ?_
          refine pj_then ?_
          refine J_seq ?_
          refine J_if rfl (fun hc => ?_) (fun hc => ?_)
          · have hi4 : i < 4 := by omega
            have hbl := baseN_le i
            refine J_skip ?_
            refine pj_then ?_
            refine J_seq ?_
            refine J_block ?_
            refine J_seq ?_
            refine J_reg ?_
            refine st (s_indexAF (fun j => one (.int .u64 (baseN j : Nat))) rfl rfl hi4 (fun j hj => by rcases (show j = 0 ∨ j = 1 ∨ j = 2 ∨ j = 3 by omega) with rfl | rfl | rfl | rfl <;> rfl)) rfl ?_
            refine st (s_assign rfl) rfl ?_
            refine Run.nil ?_
            refine pj_then ?_
            refine J_seq ?_
            refine J_seq ?_
            refine J_reg ?_
            refine st (s_move rfl) rfl ?_
            refine st (s_move rfl) rfl ?_
            refine st (s_eq rfl rfl) rfl ?_
            refine Run.nil ?_
            refine pj_then ?_
            refine J_if rfl (fun hnb => ?_) (fun hnb => ?_)
            · rw [hi.hit hi4 (by omega)]
              refine J_seq ?_
              refine J_reg ?_
              refine st (s_assign rfl) rfl ?_
              refine Run.nil ?_
              refine pj_then ?_
              refine J_ret ?_
              refine pr_then ?_
              refine pr_block ?_
              refine pr_then ?_
              refine pr_then ?_
              refine pr_block ?_
              refine pr_then ?_
              refine pr_scope ?_
              refine retc1 Try.results72 (.tmp rfl (VT.le_refl _))
            · have hnb' : n ≠ baseN i := by omega
              have hlt := hi.lt hi4 hnb' (by omega) (by omega)
              have hpw := mPow_ok n (baseN i) o (by omega) hlt (by omega)
              have hxl : baseN i ^ o % n < n := Nat.mod_lt _ (by omega)
              have hss : strongB n o t (baseN i) = (decide (baseN i ^ o % n = 1) || decide (baseN i ^ o % n = n - 1) || sqrF n (t - 1) (baseN i ^ o % n)) := rfl
              generalize baseN i ^ o % n = x0 at *
              clear p3 p4 ho31 s3 e2 p1 hST
              by_cases c1 : x0 = 1
              · have hst := hi.next hi4 hnb' (by rw [hss, decide_eq_true c1]; rfl)
                refine J_skip ?_
                refine pj_then ?_
                refine J_seq ?_
                refine J_reg ?_
                refine st (s_move rfl) rfl ?_
                refine st (s_move rfl) rfl ?_
                refine st (s_move rfl) rfl ?_
                refine st (s_callk (hpw ) rfl ⟨VT.le_refl _, VT.le_refl _, VT.le_refl _, trivial⟩) rfl ?_
                refine st (s_assign rfl) rfl ?_
                refine Run.nil ?_
                refine pj_then ?_
                refine J_seq ?_
                refine J_seq ?_
                refine J_reg ?_
                refine st (s_move rfl) rfl ?_
                refine st (sT (by omega) (s_eq rfl rfl)) rfl ?_
                refine st (s_move rfl) rfl ?_
                refine sg0 rfl rfl rfl rfl ?_
                refine sg0 rfl rfl rfl rfl ?_
                refine sg0 rfl rfl rfl rfl ?_
                refine sg0 rfl rfl rfl rfl ?_
                refine st (s_pickT rfl rfl) rfl ?_
                refine Run.nil ?_
                refine pj_then ?_
                refine J_cond1 rfl ?_
                refine J_exit ?_
                refine px_then ?_
                refine px_block ?_
                refine pj_then ?_
                refine J_reg ?_
                refine st (s_addN _ 1 rfl rfl (by omega)) rfl ?_
                refine st (s_move rfl) rfl ?_
                refine Run.nil ?_
                refine pj_roundM (i + 1) (hst) (by omega) (by repeat (first | exact SubG.refl _ | exact SubG.nil | refine SubG.cons rfl (VT.le_refl _) ?_ | (refine SubG.cons rfl (one_le ?_) ?_; (congr 1; first | omega | (simp; omega) | simp)))) (.nil)
              · by_cases c2 : x0 = n - 1
                · have hst := hi.next hi4 hnb' (by rw [hss, decide_eq_true c2, Bool.or_true]; rfl)
                  refine J_skip ?_
                  refine pj_then ?_
                  refine J_seq ?_
                  refine J_reg ?_
                  refine st (s_move rfl) rfl ?_
                  refine st (s_move rfl) rfl ?_
                  refine st (s_move rfl) rfl ?_
                  refine st (s_callk (hpw ) rfl ⟨VT.le_refl _, VT.le_refl _, VT.le_refl _, trivial⟩) rfl ?_
                  refine st (s_assign rfl) rfl ?_
                  refine Run.nil ?_
                  refine pj_then ?_
                  refine J_seq ?_
                  refine J_seq ?_
                  refine J_reg ?_
                  refine st (s_move rfl) rfl ?_
                  refine st (sF (by omega) (s_eq rfl rfl)) rfl ?_
                  refine st (s_move rfl) rfl ?_
                  refine sg1 rfl rfl (s_move rfl) rfl ?_
                  refine sg1 rfl rfl (s_move rfl) rfl ?_
                  refine sg1 rfl rfl (s_subC 1 rfl rfl (by omega) (by omega)) rfl ?_
                  refine sg1 rfl rfl (sT (by omega) (s_eq rfl rfl)) rfl ?_
                  refine st (s_pickF rfl rfl) rfl ?_
                  refine Run.nil ?_
                  refine pj_then ?_
                  refine J_cond1 rfl ?_
                  refine J_exit ?_
                  refine px_then ?_
                  refine px_block ?_
                  refine pj_then ?_
                  refine J_reg ?_
                  refine st (s_addN _ 1 rfl rfl (by omega)) rfl ?_
                  refine st (s_move rfl) rfl ?_
                  refine Run.nil ?_

                  refine pj_roundM (i + 1) (hst) (by omega) (by repeat (first | exact SubG.refl _ | exact SubG.nil | refine SubG.cons rfl (VT.le_refl _) ?_ | (refine SubG.cons rfl (one_le ?_) ?_; (congr 1; first | omega | (simp; omega) | simp)))) (.nil)
                · rw [decide_eq_false c1, decide_eq_false c2] at hss
                  simp only [Bool.false_or] at hss
                  refine J_skip ?_
                  refine pj_then ?_
                  refine J_seq ?_
                  refine J_reg ?_
                  refine st (s_move rfl) rfl ?_
                  refine st (s_move rfl) rfl ?_
                  refine st (s_move rfl) rfl ?_
                  refine st (s_callk (hpw ) rfl ⟨VT.le_refl _, VT.le_refl _, VT.le_refl _, trivial⟩) rfl ?_
                  refine st (s_assign rfl) rfl ?_
                  refine Run.nil ?_
                  refine pj_then ?_
                  refine J_seq ?_
                  refine J_seq ?_
                  refine J_reg ?_
                  refine st (s_move rfl) rfl ?_
                  refine st (sF (by omega) (s_eq rfl rfl)) rfl ?_
                  refine st (s_move rfl) rfl ?_
                  refine sg1 rfl rfl (s_move rfl) rfl ?_
                  refine sg1 rfl rfl (s_move rfl) rfl ?_
                  refine sg1 rfl rfl (s_subC 1 rfl rfl (by omega) (by omega)) rfl ?_
                  refine sg1 rfl rfl (sF (by omega) (s_eq rfl rfl)) rfl ?_
                  refine st (s_pickF rfl rfl) rfl ?_
                  refine Run.nil ?_
                  refine pj_then ?_
                  refine J_cond0 rfl ?_
                  refine J_skip ?_
                  refine pj_then ?_
                  refine J_seq ?_
                  refine J_seq ?_
                  refine J_reg ?_
                  refine st (s_move rfl) rfl ?_
                  refine st (s_sub rfl rfl (wrap_i64 (by omega) (by omega))) rfl ?_
                  refine st (s_move rfl) rfl ?_
                  refine Run.nil ?_
                  refine pj_then ?_
                  refine J_block ?_

                  refine J_sub (Γ' := [(0, _), (3, _), (4, _), (7, _), (28, _), (29, _), (48, _), (49, _)]) (SubG.cons rfl (VT.le_refl _) (SubG.cons rfl (VT.le_refl _) (SubG.cons rfl (VT.le_refl _) (SubG.cons rfl (VT.le_refl _) (SubG.cons rfl (VT.le_refl _) (SubG.cons rfl (VT.le_refl _) (SubG.cons rfl (VT.le_refl _) (SubG.cons rfl (VT.le_refl _) (SubG.nil))))))))) (SubM.refl _) ?_
                  refine J_loopA (σ := Nat × Nat) (Γk := [(0, _), (3, _), (4, _), (28, _), (29, _), (48, _)]) (SubG.cons rfl (VT.le_refl _) (SubG.cons rfl (VT.le_refl _) (SubG.cons rfl (VT.le_refl _) (SubG.cons rfl (VT.le_refl _) (SubG.cons rfl (VT.le_refl _) (SubG.cons rfl (VT.le_refl _) (SubG.nil))))))) (fun q => [(49, one (.int .i64 (q.1 : Nat))), (7, one (.int .u64 (q.2 : Nat)))]) (fun q M0 => M0) (fun q => q.2 < n ∧ sqrF n (t - 1) x0 = sqrF n (t - 1 - q.1) q.2) (fun q => t - 1 - q.1) ((0, x0)) (⟨hxl, rfl⟩) (by repeat (first | exact SubG.refl _ | exact SubG.nil | refine SubG.cons rfl (VT.le_refl _) ?_ | (refine SubG.cons rfl (one_le ?_) ?_; (congr 1; first | omega | (simp; omega) | simp)))) (.nil) (fun q hq => ?_)
                  refine J_norm (Γ' := [(49, _), (7, _), (0, _), (3, _), (4, _), (28, _), (29, _), (48, _)]) (M' := []) rfl rfl ?_
                  obtain ⟨j, x⟩ := q
                  dsimp only at hq ⊢
                  obtain ⟨q1, q2⟩ := hq
                  by_cases hj : j < t - 1
                  · rw [show t - 1 - j = (t - 1 - (j + 1)) + 1 by omega, sqrF] at q2
                    have hxx : x * x % n < n := Nat.mod_lt _ (by omega)
                    by_cases c3 : x * x % n = n - 1
                    · rw [if_pos c3] at q2
                      have hst := hi.next hi4 hnb' (hss.trans q2)
                      have e3 : ((x * x % n : Nat) : Int) = ((n - 1 : Nat) : Int) := by rw [c3]
                      refine J_seq ?_
                      refine J_reg ?_
                      refine st (sT (by omega) (s_lt rfl rfl)) rfl ?_
                      refine Run.nil ?_
                      refine pj_then ?_
                      refine J_seq ?_
                      refine J_cond1 rfl ?_
                      refine J_skip ?_
                      refine pj_then ?_
                      refine J_seq ?_
                      refine J_block ?_
                      refine J_seq ?_
                      refine J_reg ?_
                      refine st (s_move rfl) rfl ?_
                      refine st (s_move rfl) rfl ?_
                      refine st (s_move rfl) rfl ?_
                      refine st (s_callk (mMul_ok _ _ _ (by assumption) (by omega) (by omega) (by omega)) rfl ⟨VT.le_refl _, VT.le_refl _, VT.le_refl _, trivial⟩) rfl ?_
                      refine st (s_assign rfl) rfl ?_
                      refine Run.nil ?_
                      refine pj_then ?_
                      refine J_seq ?_
                      refine J_reg ?_
                      refine st (s_move rfl) rfl ?_
                      refine st (s_move rfl) rfl ?_
                      refine st (s_subC 1 rfl rfl (by omega) (by omega)) rfl ?_
                      refine st (sT (by assumption) (s_eq rfl rfl)) rfl ?_
                      refine Run.nil ?_
                      refine pj_then ?_
                      refine J_cond1 rfl ?_
                      refine J_exit ?_
                      refine px_block_ne rfl ?_
                      refine px_then ?_
                      refine px_then ?_
                      refine px_block_ne rfl ?_
                      refine px_then ?_
                      refine px_block ?_
                      refine pj_then ?_
                      refine J_reg ?_
                      refine st (s_addN _ 1 rfl rfl (by omega)) rfl ?_
                      refine st (s_move rfl) rfl ?_
                      refine Run.nil ?_

                      refine pj_roundM (i + 1) (hst) (by omega) (by repeat (first | exact SubG.refl _ | exact SubG.nil | refine SubG.cons rfl (VT.le_refl _) ?_ | (refine SubG.cons rfl (one_le ?_) ?_; (congr 1; first | omega | (simp; omega) | simp)))) (.nil)
                    · rw [if_neg c3] at q2
                      refine J_seq ?_
                      refine J_reg ?_
                      refine st (sT (by omega) (s_lt rfl rfl)) rfl ?_
                      refine Run.nil ?_
                      refine pj_then ?_
                      refine J_seq ?_
                      refine J_cond1 rfl ?_
                      refine J_skip ?_
                      refine pj_then ?_
                      refine J_seq ?_
                      refine J_block ?_
                      refine J_seq ?_
                      refine J_reg ?_
                      refine st (s_move rfl) rfl ?_
                      refine st (s_move rfl) rfl ?_
                      refine st (s_move rfl) rfl ?_
                      refine st (s_callk (mMul_ok _ _ _ (by assumption) (by omega) (by omega) (by omega)) rfl ⟨VT.le_refl _, VT.le_refl _, VT.le_refl _, trivial⟩) rfl ?_
                      refine st (s_assign rfl) rfl ?_
                      refine Run.nil ?_
                      refine pj_then ?_
                      refine J_seq ?_
                      refine J_reg ?_
                      refine st (s_move rfl) rfl ?_
                      refine st (s_move rfl) rfl ?_
                      refine st (s_subC 1 rfl rfl (by omega) (by omega)) rfl ?_
                      refine st (sF (by omega) (s_eq rfl rfl)) rfl ?_
                      refine Run.nil ?_
                      refine pj_then ?_
                      refine J_cond0 rfl ?_
                      refine J_skip ?_
                      refine pn_block ?_
                      refine pj_then ?_
                      refine J_reg ?_
                      refine st (s_addN _ 1 rfl rfl (by omega)) rfl ?_
                      refine st (s_move rfl) rfl ?_
                      refine Run.nil ?_
                      refine pj_roundM ((j + 1, x * x % n)) (⟨hxx, q2⟩) (by omega) (by repeat (first | exact SubG.refl _ | exact SubG.nil | refine SubG.cons rfl (VT.le_refl _) ?_ | (refine SubG.cons rfl (one_le ?_) ?_; (congr 1; first | omega | (simp; omega) | simp)))) (.nil)
                  · have hf : strongB n o t (baseN i) = false := by rw [hss, q2, show t - 1 - j = 0 by omega]; rfl
                    rw [hi.miss hi4 hnb' hf]
                    refine J_seq ?_
                    refine J_reg ?_
                    refine st (sF (by omega) (s_lt rfl rfl)) rfl ?_
                    refine Run.nil ?_
                    refine pj_then ?_
                    refine J_seq ?_
                    refine J_cond0 rfl ?_
                    refine J_exit ?_
                    refine px_then ?_
                    refine px_then ?_
                    refine px_block ?_
                    refine pj_then ?_
                    refine J_seq ?_
                    refine J_reg ?_
                    refine st (s_assign rfl) rfl ?_
                    refine Run.nil ?_
                    refine pj_then ?_
                    refine J_ret ?_
                    refine pr_block ?_
                    refine pr_then ?_
                    refine pr_then ?_
                    refine pr_block ?_
                    refine pr_then ?_
                    refine pr_scope ?_
                    refine retc1 Try.results72 (.tmp rfl (VT.le_refl _))
          · have : i = 4 := by omega
            subst this
            rw [hi.end]
            refine J_exit ?_
            refine px_then ?_
            refine px_then ?_
            refine px_block ?_
            refine pj_then ?_
            refine J_seq ?_
            refine J_reg ?_
            refine st (s_assign rfl) rfl ?_
            refine Run.nil ?_
            refine pj_then ?_
            refine J_ret ?_
            refine pr_scope ?_
            refine retc1 Try.results72 (.tmp rfl (VT.le_refl _))
end Tor
end

section
set_option linter.unusedVariables false
set_option linter.unusedSimpArgs false
namespace Tor
/-- Powers, step by step. -/
def powF : Nat → Nat → Nat → Nat → Nat → Nat
  | 0, _, r, _, _ => r
  | f + 1, p, r, a, e => if e = 0 then r else powF f p (if e % 2 = 1 then r * a % p else r) (a * a % p) (e / 2)
theorem powF_eq : ∀ (f : Nat) {p v r a e : Nat}, e < 2 ^ f → PowR p v (r, a, e) → powF f p r a e = v
  | 0, p, v, r, a, e, h, hR => by
    have : e = 0 := by simpa using h
    subst this; exact hR.done
  | f + 1, p, v, r, a, e, h, hR => by
    rw [powF]
    by_cases h0 : e = 0
    · subst h0; rw [if_pos rfl]; exact hR.done
    · rw [if_neg h0]
      have h2 : e / 2 < 2 ^ f := by rw [Nat.pow_succ] at h; omega
      by_cases h1 : e % 2 = 1
      · rw [if_pos h1]; exact powF_eq f h2 (hR.odd h1)
      · rw [if_neg h1]; exact powF_eq f h2 (hR.even h1)
def strongF (n O T b : Nat) : Bool := decide (powF 64 n (1 % n) b O = 1) || decide (powF 64 n (1 % n) b O = n - 1) || sqrF n (T - 1) (powF 64 n (1 % n) b O)
theorem strong_eq {n O T b : Nat} (hb : b < n) (hO : O < 18446744073709551616) : strongB n O T b = strongF n O T b := by
  have := powF_eq 64 (e := O) hO (PowR.start (p := n) (by omega) hb hO)
  unfold strongB strongF
  rw [this]
def testG (n O T : Nat) : Nat → Nat → Bool
  | 0, _ => true
  | c + 1, j => if n = baseN j then true else strongF n O T (baseN j) && testG n O T c (j + 1)
theorem test_eq {n O T : Nat} (h7 : 7 < n) (hO : O < 18446744073709551616) : ∀ c j, testF n O T c j = testG n O T c j
  | 0, _ => rfl
  | c + 1, j => by
    have hb := (baseN_le j).1
    rw [testF, testG, strong_eq (by omega) hO, test_eq h7 hO c (j + 1)]
def primeF (n : Nat) : Bool := if n < 2 ∨ 2147483648 ≤ n then false else if n % 2 = 0 then decide (n = 2) else
  testG n (stripF 32 (n - 1) 0).1 (stripF 32 (n - 1) 0).2 4 0
theorem prime_eq {n : Nat} (h7 : 7 < n) : primeB n = primeF n := by
  unfold primeB primeF
  by_cases h1 : n < 2 ∨ 2147483648 ≤ n
  · rw [if_pos h1, if_pos h1]
  · rw [if_neg h1, if_neg h1]
    by_cases h2 : n % 2 = 0
    · rw [if_pos h2, if_pos h2]
    · rw [if_neg h2, if_neg h2]
      have := stripF_odd 32 (n - 1) 0 (by omega) (by omega)
      exact test_eq h7 (by omega) 4 0
theorem prime_2147483647 : primeB 2147483647 = true := by rw [prime_eq (by decide)]; decide +kernel
theorem prime_2147483629 : primeB 2147483629 = true := by rw [prime_eq (by decide)]; decide +kernel
theorem prime_65537 : primeB 65537 = true := by rw [prime_eq (by decide)]; decide +kernel
theorem prime_small : ∀ p ∈ [11, 13, 17, 19, 23, 29, 31, 37, 41, 43, 47], primeB p = true := fun p hp => by
  simp only [List.mem_cons, List.not_mem_nil, or_false] at hp
  rcases hp with rfl | rfl | rfl | rfl | rfl | rfl | rfl | rfl | rfl | rfl | rfl <;> (rw [prime_eq (by decide)]; decide +kernel)
theorem prime_first : ∀ p ∈ [2, 3, 5, 7], primeB p = true := by decide +kernel
end Tor
end

section
set_option linter.unusedVariables false
set_option linter.unusedSimpArgs false
namespace Tor
open Go Go.RowKit Go.Proofs
theorem digs0 : digs ((0 : Int).natAbs) = [] := rfl
/-- How many bits an integer has. -/
def bitsN (v : Nat) : Nat := if v = 0 then 0 else 32 * ((digs v).length - 1) + blen ((digs v).getD ((digs v).length - 1) 0)
attribute [local irreducible] Tor.J Tor.PJ Tor.StepO Tor.one Tor.slT Tor.ptrT Tor.aggT Tor.tupT Tor.exT Tor.andT Tor.gT Tor.eP Tor.boxO Tor.sliO Tor.slV Tor.VT.le Tor.Ret Tor.anyT
set_option maxHeartbeats 4000000 in
theorem DivMod0_ok (a : Int) : Ok Try.prog 63 [bigT a, bigT 0] (tupT [bigT 0, bigT 0, one (.int .i64 3)]) := by
  have hz := bigT_zero
  unfold bigT at *
  refine Ok.enter Try.func63 rfl Try.ntmps63 rfl (fun w O => ?_)
  have hl : (digs (Int.natAbs 0)).length = 0 := rfl
  refine J_seq ?_
  refine J_reg ?_
  refine a_boxS rfl rfl (ltN rfl) (fun b2 => ?_)
  refine a_boxS rfl rfl (ltN rfl) (fun b3 => ?_)
  refine a_alloc (T := 29) rfl (ltN rfl) (fun b4 => ?_)
  refine a_alloc (T := 29) rfl (ltN rfl) (fun b5 => ?_)
  refine st (s_assign rfl) rfl ?_
  refine Run.nil ?_
  refine pj_then ?_
  refine J_seq ?_
  refine J_regd 7 mixed (by kernel_rfl) (by decide) ?_
  refine st (s_fieldAddr rfl) rfl ?_
  refine st (s_loadB 3 rfl rfl rfl) rfl ?_
  refine st (s_callk (trim_ok _) rfl ⟨(natT_digs _), trivial⟩) rfl ?_
  refine st (s_fieldAddr rfl) rfl ?_
  refine st (s_loadB 2 rfl rfl rfl) rfl ?_
  refine st (s_callk (trim_ok _) rfl ⟨(natT_digs _), trivial⟩) rfl ?_
  refine st (s_assign rfl) rfl ?_
  refine Run.nil ?_
  refine st (s_assign rfl) rfl ?_
  refine Run.nil ?_
  refine pj_then ?_
  refine J_seq ?_
  refine J_seq ?_
  refine J_reg ?_
  refine st (s_move rfl) rfl ?_
  refine st (s_len rfl) rfl ?_
  refine st (sT (by omega) (s_eq rfl rfl)) rfl ?_
  refine Run.nil ?_
  refine pj_then ?_
  refine J_cond1 rfl ?_
  refine J_seq ?_
  refine J_reg ?_
  refine stB rfl rfl rfl ?_
  refine BuildK.nil ?_
  refine stB rfl rfl rfl ?_
  refine BuildK.nil ?_
  refine a_storeB 1 rfl rfl rfl rfl rfl (leN rfl) rfl ?_
  refine a_storeB 0 rfl rfl rfl rfl rfl (leN rfl) rfl ?_
  refine st (s_assign rfl) rfl ?_
  refine Run.nil ?_
  refine pj_then ?_
  refine J_ret ?_
  refine pr_then ?_
  refine retc3 Try.results63 (.cellB 1 rfl rfl rfl (hz)) (.cellB 0 rfl rfl rfl (hz)) (.tmp rfl (VT.le_refl _))
end Tor
end

section
set_option linter.unusedVariables false
set_option linter.unusedSimpArgs false
namespace Tor
open Go Go.RowKit Go.Proofs
attribute [local irreducible] Tor.J Tor.PJ Tor.StepO Tor.one Tor.slT Tor.ptrT Tor.aggT Tor.tupT Tor.exT Tor.andT Tor.gT Tor.eP Tor.boxO Tor.sliO Tor.slV Tor.VT.le Tor.Ret Tor.anyT
set_option maxHeartbeats 4000000 in
theorem Gcd_ok (a b : Int) (ha : small a) (hb : small b) : Ok Try.prog 68 [bigT a, bigT b] (bigT (Nat.gcd a.natAbs b.natAbs)) := by
  have ha' : (digs a.natAbs).length ≤ 1099511627776 := ha
  have hb' : (digs b.natAbs).length ≤ 1099511627776 := hb
  unfold bigT
  refine Ok.enter Try.func68 rfl Try.ntmps68 rfl (fun w O => ?_)
  refine J_seq ?_
  refine J_reg ?_
  refine a_boxS rfl rfl (ltN rfl) (fun b2 => ?_)
  refine a_boxS rfl rfl (ltN rfl) (fun b3 => ?_)
  refine a_alloc (T := 29) rfl (ltN rfl) (fun b4 => ?_)
  refine Run.nil ?_
  refine pj_then ?_
  refine J_seq ?_
  refine J_regd 7 mixed (by kernel_rfl) (by decide) ?_
  refine st (s_fieldAddr rfl) rfl ?_
  refine st (s_loadB 2 rfl rfl rfl) rfl ?_
  refine st (s_callk (trim_ok _) rfl ⟨(natT_digs _), trivial⟩) rfl ?_
  refine st (s_fieldAddr rfl) rfl ?_
  refine st (s_loadB 1 rfl rfl rfl) rfl ?_
  refine st (s_callk (trim_ok _) rfl ⟨(natT_digs _), trivial⟩) rfl ?_
  refine st (s_assign rfl) rfl ?_
  refine Run.nil ?_
  refine st (s_assign rfl) rfl ?_
  refine Run.nil ?_
  refine pj_then ?_
  refine J_seq ?_
  refine J_block ?_
  refine J_sub (Γ' := [(4, _), (5, _), (6, _)]) (SubG.cons rfl (VT.le_refl _) (SubG.cons rfl (VT.le_refl _) (SubG.cons rfl (VT.le_refl _) (SubG.nil)))) (SubM.refl _) ?_
  refine J_loopA (σ := Nat × Nat) (Γk := [(4, _)]) (SubG.cons rfl (VT.le_refl _) (SubG.nil)) (fun p => [(5, limT (digs p.1)), (6, limT (digs p.2))]) (fun p M0 => M0) (fun p => Nat.gcd p.1 p.2 = Nat.gcd a.natAbs b.natAbs ∧ (digs p.1).length ≤ 1099511627776 ∧ (digs p.2).length ≤ 1099511627776) (fun p => p.2) ((a.natAbs, b.natAbs)) (⟨rfl, ha', hb'⟩) (by repeat (first | exact SubG.refl _ | exact SubG.nil | refine SubG.cons rfl (VT.le_refl _) ?_ | (refine SubG.cons rfl (one_le ?_) ?_; (congr 1; first | omega | (simp; omega) | simp)))) (.keep (Own.le_refl _) (.keep (Own.le_refl _) (.keep (Own.le_refl _) (.nil)))) (fun p hp => ?_)
  refine J_norm (Γ' := [(5, _), (6, _), (4, _)]) (M' := [_, _, _]) rfl rfl ?_
  obtain ⟨x, y⟩ := p
  dsimp only at hp ⊢
  obtain ⟨p1, p2, p3⟩ := hp
  by_cases hy : y = 0
  · subst hy
    have hl : (digs 0).length = 0 := rfl
    have hcl := Clone_ok (digs x) p2
    have hv := value_ok false x
    rw [Nat.gcd_zero_right] at p1
    rw [← p1]
    unfold bigT at hv
    refine J_seq ?_
    refine J_seq ?_
    refine J_reg ?_
    refine st (s_move rfl) rfl ?_
    refine st (s_len rfl) rfl ?_
    refine st (sF (by omega) (s_gt rfl rfl)) rfl ?_
    refine st (s_move rfl) rfl ?_
    refine sg0 rfl rfl rfl rfl ?_
    refine sg0 rfl rfl rfl rfl ?_
    refine sg0 rfl rfl rfl rfl ?_
    refine sg0 rfl rfl rfl rfl ?_
    refine sg0 rfl rfl rfl rfl ?_
    refine sg0 rfl rfl rfl rfl ?_
    refine st (s_pickF rfl rfl) rfl ?_
    refine Run.nil ?_
    refine pj_then ?_
    refine J_cond0 rfl ?_
    refine J_exit ?_
    refine px_then ?_
    refine px_then ?_
    refine px_block ?_
    refine pj_then ?_
    refine J_seq ?_
    refine J_seq ?_
    refine J_reg ?_
    refine st (s_move rfl) rfl ?_
    refine st (s_len rfl) rfl ?_
    refine st (sT (by omega) (s_eq rfl rfl)) rfl ?_
    refine Run.nil ?_
    refine pj_then ?_
    refine J_cond1 rfl ?_
    refine J_seq ?_
    refine J_reg ?_
    refine st (s_move rfl) rfl ?_
    refine st (s_callk (hcl ) rfl ⟨VT.le_refl _, trivial⟩) rfl ?_
    refine st (s_callk (hv ) rfl ⟨VT.le_refl _, (natT_digs _), trivial⟩) rfl ?_
    refine a_storeB 0 rfl rfl rfl rfl rfl (leN rfl) rfl ?_
    refine Run.nil ?_
    refine pj_then ?_
    refine J_ret ?_
    refine pr_then ?_
    refine retc1 Try.results68 (.cellB 0 rfl rfl rfl (VT.le_refl _))
  · have hl : (digs y).length ≠ 0 := fun h => hy (digs_nil h)
    have hd := divide_ok x y hy p2
    have hm := Nat.mod_lt x (Nat.pos_of_ne_zero hy)
    have hg : Nat.gcd y (x % y) = Nat.gcd a.natAbs b.natAbs := by rw [← p1, Nat.gcd_comm y, ← Nat.gcd_rec, Nat.gcd_comm]
    have hml := digs_len_le' (Nat.le_of_lt hm)
    refine J_seq ?_
    refine J_seq ?_
    refine J_reg ?_
    refine st (s_move rfl) rfl ?_
    refine st (s_len rfl) rfl ?_
    refine st (sT (by omega) (s_gt rfl rfl)) rfl ?_
    refine st (s_move rfl) rfl ?_
    refine sg1 rfl rfl (s_move rfl) rfl ?_
    refine sg1 rfl rfl (s_len rfl) rfl ?_
    refine sg1 rfl rfl (s_move rfl) rfl ?_
    refine sg1 rfl rfl (s_len rfl) rfl ?_
    refine sg1 rfl rfl (s_max rfl rfl) rfl ?_
    refine sg1 rfl rfl (s_gt rfl rfl) rfl ?_
    refine st (s_pickT rfl rfl) rfl ?_
    refine Run.nil ?_
    refine pj_then ?_
    refine J_if rfl (fun hc => ?_) (fun hc => ?_)
    · refine J_skip ?_
      refine pj_then ?_
      refine J_block ?_
      refine J_seq ?_
      refine J_reg ?_
      refine st (s_move rfl) rfl ?_
      refine st (s_move rfl) rfl ?_
      refine st (s_callk (hd ) rfl ⟨VT.le_refl _, VT.le_refl _, trivial⟩) rfl ?_
      refine st (s_move rfl) rfl ?_
      refine st (s_extract rfl rfl) rfl ?_
      refine st (s_extract rfl rfl) rfl ?_
      refine st (s_assign rfl) rfl ?_
      refine st (s_assign rfl) rfl ?_
      refine Run.nil ?_
      refine pj_then ?_
      refine J_reg ?_
      refine st (s_move rfl) rfl ?_
      refine st (s_move rfl) rfl ?_
      refine st (s_callk (trim_ok _) rfl ⟨VT.le_refl _, trivial⟩) rfl ?_
      refine st (s_assign rfl) rfl ?_
      refine st (s_assign rfl) rfl ?_
      refine Run.nil ?_
      refine pn_block ?_
      refine pj_roundM ((y, x % y)) (⟨hg, p3, by dsimp only; omega⟩) (by assumption) (by repeat (first | exact SubG.refl _ | exact SubG.nil | refine SubG.cons rfl (VT.le_refl _) ?_ | (refine SubG.cons rfl (one_le ?_) ?_; (congr 1; first | omega | (simp; omega) | simp)))) (.keep (Own.le_refl _) (.keep (Own.le_refl _) (.keep (Own.le_refl _) (.nil))))
    · have hx2 : (digs x).length ≤ 2 := by omega
      have hy2 : (digs y).length ≤ 2 := by omega
      have hw1 := word_ok (digs x) (limbs_digs x) hx2
      have hw2 := word_ok (digs y) (limbs_digs y) hy2
      rw [lv_digs] at hw1 hw2
      have x64 : x < 18446744073709551616 := Nat.lt_of_lt_of_le (lt_of_digs_len x) (Nat.pow_le_pow_right (n := 4294967296) (by decide) hx2)
      have y64 : y < 18446744073709551616 := Nat.lt_of_lt_of_le (lt_of_digs_len y) (Nat.pow_le_pow_right (n := 4294967296) (by decide) hy2)
      refine J_exit ?_
      refine px_then ?_
      refine px_then ?_
      refine px_block ?_
      refine pj_then ?_
      refine J_seq ?_
      refine J_seq ?_
      refine J_reg ?_
      refine st (s_move rfl) rfl ?_
      refine st (s_len rfl) rfl ?_
      refine st (sF (by omega) (s_eq rfl rfl)) rfl ?_
      refine Run.nil ?_
      refine pj_then ?_
      refine J_cond0 rfl ?_
      refine J_skip ?_
      refine pj_then ?_
      refine J_seq ?_
      refine J_reg ?_
      refine st (s_move rfl) rfl ?_
      refine st (s_callk (hw1 ) rfl ⟨VT.le_refl _, trivial⟩) rfl ?_
      refine st (s_move rfl) rfl ?_
      refine st (s_callk (hw2 ) rfl ⟨VT.le_refl _, trivial⟩) rfl ?_
      refine st (s_assign rfl) rfl ?_
      refine st (s_assign rfl) rfl ?_
      refine Run.nil ?_
      refine pj_then ?_
      refine J_seq ?_
      refine J_block ?_
      refine J_sub (Γ' := [(4, _), (9, _), (10, _)]) (SubG.cons rfl (VT.le_refl _) (SubG.cons rfl (VT.le_refl _) (SubG.cons rfl (VT.le_refl _) (SubG.nil)))) (SubM.refl _) ?_
      refine J_loopA (σ := Nat × Nat) (Γk := [(4, _)]) (SubG.cons rfl (VT.le_refl _) (SubG.nil)) (fun q => [(9, one (.int .u64 (q.1 : Nat))), (10, one (.int .u64 (q.2 : Nat)))]) (fun q M0 => M0) (fun q => Nat.gcd q.1 q.2 = Nat.gcd a.natAbs b.natAbs ∧ q.1 < 18446744073709551616 ∧ q.2 < 18446744073709551616) (fun q => q.2) ((x, y)) (⟨p1, x64, y64⟩) (by repeat (first | exact SubG.refl _ | exact SubG.nil | refine SubG.cons rfl (VT.le_refl _) ?_ | (refine SubG.cons rfl (one_le ?_) ?_; (congr 1; first | omega | (simp; omega) | simp)))) (.keep (Own.le_refl _) (.keep (Own.le_refl _) (.keep (Own.le_refl _) (.nil)))) (fun q hq => ?_)
      refine J_norm (Γ' := [(9, _), (10, _), (4, _)]) (M' := [_, _, _]) rfl rfl ?_
      obtain ⟨u, v⟩ := q
      dsimp only at hq ⊢
      obtain ⟨q1, q2, q3⟩ := hq
      by_cases hv0 : v = 0
      · subst hv0
        rw [Nat.gcd_zero_right] at q1
        have hlu := limbs_ok u q2
        have hv := value_ok false u
        rw [← q1]
        unfold bigT at hv
        refine J_seq ?_
        refine J_seq ?_
        refine J_reg ?_
        refine st (s_move rfl) rfl ?_
        refine st (sF (by omega) (s_gt rfl rfl)) rfl ?_
        refine Run.nil ?_
        refine pj_then ?_
        refine J_cond0 rfl ?_
        refine J_exit ?_
        refine px_then ?_
        refine px_then ?_
        refine px_block ?_
        refine pj_then ?_
        refine J_seq ?_
        refine J_reg ?_
        refine st (s_move rfl) rfl ?_
        refine st (s_callk (hlu ) rfl ⟨VT.le_refl _, trivial⟩) rfl ?_
        refine st (s_callk (hv ) rfl ⟨VT.le_refl _, VT.le_refl _, trivial⟩) rfl ?_
        refine a_storeB 0 rfl rfl rfl rfl rfl (leN rfl) rfl ?_
        refine Run.nil ?_
        refine pj_then ?_
        refine J_ret ?_
        refine retc1 Try.results68 (.cellB 0 rfl rfl rfl (VT.le_refl _))
      · have hvm := Nat.mod_lt u (Nat.pos_of_ne_zero hv0)
        have hvg : Nat.gcd v (u % v) = Nat.gcd a.natAbs b.natAbs := by rw [← q1, Nat.gcd_comm v, ← Nat.gcd_rec, Nat.gcd_comm]
        refine J_seq ?_
        refine J_seq ?_
        refine J_reg ?_
        refine st (s_move rfl) rfl ?_
        refine st (sT (by omega) (s_gt rfl rfl)) rfl ?_
        refine Run.nil ?_
        refine pj_then ?_
        refine J_cond1 rfl ?_
        refine J_skip ?_
        refine pj_then ?_
        refine J_block ?_
        refine J_regd 5 mixed (by kernel_rfl) (by decide) ?_
        refine st (s_move rfl) rfl ?_
        refine st (s_move rfl) rfl ?_
        refine st (s_move rfl) rfl ?_
        refine st (s_remN _ rfl rfl rfl (by omega)) rfl ?_
        refine st (s_assign rfl) rfl ?_
        refine Run.nil ?_
        refine st (s_assign rfl) rfl ?_
        refine Run.nil ?_
        refine pn_block ?_
        refine pj_roundM ((v, u % v)) (⟨hvg, q3, by dsimp only; omega⟩) (by assumption) (by repeat (first | exact SubG.refl _ | exact SubG.nil | refine SubG.cons rfl (VT.le_refl _) ?_ | (refine SubG.cons rfl (one_le ?_) ?_; (congr 1; first | omega | (simp; omega) | simp)))) (.keep (Own.le_refl _) (.keep (Own.le_refl _) (.keep (Own.le_refl _) (.nil))))
end Tor
end

section
set_option linter.unusedVariables false
set_option linter.unusedSimpArgs false
namespace Tor
open Go Go.RowKit Go.Proofs
attribute [local irreducible] Tor.J Tor.PJ Tor.StepO Tor.one Tor.slT Tor.ptrT Tor.aggT Tor.tupT Tor.exT Tor.andT Tor.gT Tor.eP Tor.boxO Tor.sliO Tor.slV Tor.VT.le Tor.Ret Tor.anyT
set_option maxHeartbeats 4000000 in
theorem Bits_ok (a : Int) (ha : small a) : Ok Try.prog 86 [bigT a] (one (.int .i64 (bitsN a.natAbs : Nat))) := by
  have ha' : (digs a.natAbs).length ≤ 1099511627776 := ha
  have hx := getD_lt (limbs_digs a.natAbs) ((digs a.natAbs).length - 1)
  have hbl := blen_le (n := 32) (x := (digs a.natAbs).getD ((digs a.natAbs).length - 1) 0) (by omega) (by decide)
  have hL := Len32_ok _ hx
  unfold bigT bitsN
  refine Ok.enter Try.func86 rfl Try.ntmps86 rfl (fun w O => ?_)
  by_cases h0 : a.natAbs = 0
  · have hl : (digs a.natAbs).length = 0 := by rw [h0]; rfl
    rw [if_pos h0]
    refine J_seq ?_
    refine J_reg ?_
    refine a_boxS rfl rfl (ltN rfl) (fun b1 => ?_)
    refine st (s_assign rfl) rfl ?_
    refine Run.nil ?_
    refine pj_then ?_
    refine J_seq ?_
    refine J_reg ?_
    refine st (s_fieldAddr rfl) rfl ?_
    refine st (s_loadB 0 rfl rfl rfl) rfl ?_
    refine st (s_callk (trim_ok _) rfl ⟨(natT_digs _), trivial⟩) rfl ?_
    refine st (s_assign rfl) rfl ?_
    refine Run.nil ?_
    refine pj_then ?_
    refine J_seq ?_
    refine J_seq ?_
    refine J_reg ?_
    refine st (s_move rfl) rfl ?_
    refine st (s_len rfl) rfl ?_
    refine st (sT (by omega) (s_eq rfl rfl)) rfl ?_
    refine Run.nil ?_
    refine pj_then ?_
    refine J_cond1 rfl ?_
    refine J_seq ?_
    refine J_reg ?_
    refine st (s_assign rfl) rfl ?_
    refine Run.nil ?_
    refine pj_then ?_
    refine J_ret ?_
    refine pr_then ?_
    refine retc1 Try.results86 (.tmp rfl (VT.le_refl _))
  · have hl : (digs a.natAbs).length ≠ 0 := fun h => h0 (digs_nil h)
    rw [if_neg h0]
    refine J_seq ?_
    refine J_reg ?_
    refine a_boxS rfl rfl (ltN rfl) (fun b1 => ?_)
    refine st (s_assign rfl) rfl ?_
    refine Run.nil ?_
    refine pj_then ?_
    refine J_seq ?_
    refine J_reg ?_
    refine st (s_fieldAddr rfl) rfl ?_
    refine st (s_loadB 0 rfl rfl rfl) rfl ?_
    refine st (s_callk (trim_ok _) rfl ⟨(natT_digs _), trivial⟩) rfl ?_
    refine st (s_assign rfl) rfl ?_
    refine Run.nil ?_
    refine pj_then ?_
    refine J_seq ?_
    refine J_seq ?_
    refine J_reg ?_
    refine st (s_move rfl) rfl ?_
    refine st (s_len rfl) rfl ?_
    refine st (sF (by omega) (s_eq rfl rfl)) rfl ?_
    refine Run.nil ?_
    refine pj_then ?_
    refine J_cond0 rfl ?_
    refine J_skip ?_
    refine pj_then ?_
    refine J_seq ?_
    refine J_reg ?_
    refine st (s_move rfl) rfl ?_
    refine st (s_len rfl) rfl ?_
    refine st (s_subN _ 1 rfl rfl (by omega) (by omega)) rfl ?_
    refine st (s_mulN 32 _ rfl rfl (by omega)) rfl ?_
    refine st (s_move rfl) rfl ?_
    refine st (s_move rfl) rfl ?_
    refine st (s_len rfl) rfl ?_
    refine st (s_subN _ 1 rfl rfl (by omega) (by omega)) rfl ?_
    refine st (s_indexIN rfl rfl (by omega)) rfl ?_
    refine st (s_load rfl) rfl ?_
    refine st (s_callk (hL ) rfl ⟨VT.le_refl _, trivial⟩) rfl ?_
    refine st (s_addN _ _ rfl rfl (by omega)) rfl ?_
    refine st (s_assign rfl) rfl ?_
    refine Run.nil ?_
    refine pj_then ?_
    refine J_ret ?_
    refine retc1 Try.results86 (.tmp rfl (VT.le_refl _))
end Tor
end

section
set_option linter.unusedVariables false
set_option linter.unusedSimpArgs false
namespace Tor
theorem amgm (s x : Nat) : (2 * s - x) * x ≤ s * s := by
  rcases Nat.le_total x s with h | h
  · obtain ⟨d, rfl⟩ : ∃ d, s = x + d := ⟨s - x, by omega⟩
    rw [show 2 * (x + d) - x = x + 2 * d by omega, Nat.add_mul, Nat.add_mul, Nat.mul_add, Nat.mul_add, Nat.mul_assoc, Nat.mul_comm d x]
    have := Nat.zero_le (d * d)
    omega
  · rcases Nat.le_total x (2 * s) with h2 | h2
    · obtain ⟨d, rfl⟩ : ∃ d, x = s + d := ⟨x - s, by omega⟩
      obtain ⟨e, rfl⟩ : ∃ e, s = d + e := ⟨s - d, by omega⟩
      rw [show 2 * (d + e) - (d + e + d) = e by omega]
      simp only [Nat.add_mul, Nat.mul_add]
      have := Nat.mul_comm d e
      have := Nat.zero_le (d * d)
      omega
    · rw [show 2 * s - x = 0 by omega, Nat.zero_mul]; exact Nat.zero_le _
theorem newton_ge {a s x : Nat} (h : s * s ≤ a) (hx : 0 < x) : s ≤ (x + a / x) / 2 := by
  rcases Nat.lt_or_ge ((x + a / x) / 2) s with h1 | h1
  · exfalso
    have h2 := Nat.lt_mul_div_succ a hx
    generalize a / x = q at *
    have h3 : q + 1 ≤ 2 * s - x := by omega
    have h4 := amgm s x
    have h5 : x * (q + 1) ≤ (2 * s - x) * x := by rw [Nat.mul_comm]; exact Nat.mul_le_mul_right _ h3
    omega
  · exact h1
theorem newton_le {a x : Nat} (hx : 0 < x) (h : x ≤ (x + a / x) / 2) : x * x ≤ a := by
  have h1 : x ≤ a / x := by
    generalize a / x = q at *; omega
  exact (Nat.le_div_iff_mul_le hx).1 h1
theorem root_uniq {a s x : Nat} (h1 : x * x ≤ a) (h2 : a < (s + 1) * (s + 1)) (h3 : s ≤ x) : x = s := by
  rcases Nat.lt_or_ge s x with h | h
  · have h4 : (s + 1) * (s + 1) ≤ x * x := Nat.mul_le_mul h h
    omega
  · omega
end Tor
end

section
set_option linter.unusedVariables false
set_option linter.unusedSimpArgs false
namespace Tor
open Go Go.RowKit Go.Proofs
theorem bits_lt (v : Nat) : v < 2 ^ bitsN v := by
  unfold bitsN
  by_cases h0 : v = 0
  · rw [if_pos h0]; subst h0; decide
  · rw [if_neg h0]
    have hl : (digs v).length ≠ 0 := fun h => h0 (digs_nil h)
    obtain ⟨k, hk⟩ : ∃ k, (digs v).length = k + 1 := ⟨(digs v).length - 1, by omega⟩
    rw [hk, Nat.add_sub_cancel]
    have hL := limbs_digs v
    have h1 := lv_take_succ (l := digs v) (k := k) (by omega)
    rw [List.take_of_length_le (by omega), lv_digs] at h1
    have h2 := lv_take_lt hL k
    have h3 := blen_lt (x := (digs v).getD k 0) (by have := getD_lt hL k; omega)
    generalize blen ((digs v).getD k 0) = n at *
    generalize (digs v).getD k 0 = d at *
    rw [pow32] at h1
    generalize lv ((digs v).take k) = y at *
    rw [Nat.pow_add]
    have h4 : 2 ^ (32 * k) * (d + 1) ≤ 2 ^ (32 * k) * 2 ^ n := Nat.mul_le_mul_left _ h3
    rw [Nat.mul_add, Nat.mul_one] at h4
    omega
theorem start_val (n : Nat) : Limbs ((List.replicate (n / 32 + 1) 0).set (n / 32) (2 ^ (n % 32))) ∧ lv ((List.replicate (n / 32 + 1) 0).set (n / 32) (2 ^ (n % 32))) = 2 ^ n := by
  have h1 : 2 ^ (n % 32) < 4294967296 := Nat.lt_of_le_of_lt (Nat.pow_le_pow_right (n := 2) (by decide) (show n % 32 ≤ 31 by omega)) (by decide)
  refine ⟨(Limbs.replicate _).set h1, ?_⟩
  have hs := lv_set (l := List.replicate (n / 32 + 1) 0) (k := n / 32) (v := 2 ^ (n % 32)) (by simp)
  rw [getD_replicate0, Nat.mul_zero, Nat.add_zero, lv_replicate, Nat.zero_add] at hs
  rw [hs, pow32, ← Nat.pow_add, Nat.div_add_mod]
theorem bits_le {v m : Nat} (h : (digs v).length ≤ m) : bitsN v ≤ 32 * m := by
  unfold bitsN
  by_cases h0 : v = 0
  · rw [if_pos h0]; exact Nat.zero_le _
  · rw [if_neg h0]
    have hl : (digs v).length ≠ 0 := fun h => h0 (digs_nil h)
    have h1 := getD_lt (limbs_digs v) ((digs v).length - 1)
    have h2 := blen_le (n := 32) (x := (digs v).getD ((digs v).length - 1) 0) (by omega) (by decide)
    omega
end Tor
end

section
set_option linter.unusedVariables false
set_option linter.unusedSimpArgs false
namespace Tor
open Go Go.RowKit Go.Proofs
theorem s_shl1 {P : Program} {E : Env} {Γ : Ctx} {M : Mem} {d : Option Tmp} {ty : TypeId} {pos : String} {af : Array Edge} {gd : Option (Nat × Bool)} {T T' : TypeId} {x y : Operand} {k' : IntKind} {s : Nat} (hx : evalT Γ x = some (one (.int .u32 1))) (hy : evalT Γ y = some (one (.int k' (s : Int)))) (hs : s < 32) :
    StepO P E Γ M ⟨d, .binOp .shl T x y T', ty, pos, af, gd⟩ (one (.int .u32 ((2 ^ s : Nat) : Int))) :=
  s_shl hx hy (by omega) (by
    have e : min ((s : Int)).toNat IntKind.u32.bits = s := by show min _ 32 = s; omega
    rw [e, wrap_u32]
    have h1 : 2 ^ s < 4294967296 := Nat.lt_of_le_of_lt (Nat.pow_le_pow_right (n := 2) (by decide) (show s ≤ 31 by omega)) (by decide)
    have : ((1 : Int) * 2 ^ s) = ((2 ^ s : Nat) : Int) := by simp
    rw [this]
    generalize 2 ^ s = x at h1 ⊢
    omega)
theorem pw_mono (i j : Nat) (h : i ≤ j) : 2 ^ i ≤ 2 ^ j := Nat.pow_le_pow_right (by decide) h
theorem pw_two (n k : Nat) (h : k = n + 1) : 2 ^ k = 2 ^ n + 2 ^ n := by rw [h, Nat.pow_succ]; omega
theorem pw_add (n k : Nat) (h : k = n + n) : 2 ^ k = 2 ^ n * 2 ^ n := by rw [h, Nat.pow_add]
theorem start_le (n : Nat) : VT.le (slT .one (n / 32 + 1) (upd (fun _ => one (.int .u32 0)) (n / 32) (one (.int .u32 ((2 ^ (n % 32) : Nat) : Int))))) (natT (2 ^ n)) :=
  VT.le_trans (slT_le' (m := ((List.replicate (n / 32 + 1) 0).set (n / 32) (2 ^ (n % 32))).length) (ψ := limF ((List.replicate (n / 32 + 1) 0).set (n / 32) (2 ^ (n % 32)))) (by simp) (fun q hq => by
    unfold upd limF
    by_cases h : q = n / 32
    · subst h; rw [if_pos rfl]; simp [List.getD]
    · rw [if_neg h]
      simp only [List.getD, List.getElem?_set, if_neg (Ne.symm h), List.getElem?_replicate, if_pos hq]; rfl)) (natT_of (start_val n).1 (start_val n).2)
attribute [local irreducible] Tor.J Tor.PJ Tor.StepO Tor.one Tor.slT Tor.ptrT Tor.aggT Tor.tupT Tor.exT Tor.andT Tor.gT Tor.eP Tor.boxO Tor.sliO Tor.slV Tor.VT.le Tor.Ret Tor.anyT
set_option maxHeartbeats 4000000 in
theorem Root_ok (a s : Nat) (ha : a < 2 ^ 800) (h0 : a ≠ 0) (h1 : s * s ≤ a) (h2 : a < (s + 1) * (s + 1)) : Ok Try.prog 64 [bigT (a : Int)] (tupT [bigT (s : Int), one (.int .i64 0)]) := by
  have hsm : small (a : Int) := small_lt (Nat.lt_trans ha (by decide +kernel))
  have hbi := Bits_ok (a : Int) hsm
  rw [Int.natAbs_natCast] at hbi
  have hbl := bits_lt a
  have hsg : sgnI (a : Int) = 1 := by unfold sgnI; rw [if_neg (by omega), if_neg (by omega)]
  have hsi := SignI_ok (a : Int)
  rw [hsg] at hsi
  have hb8 : bitsN a ≤ 832 := bits_le (v := a) (m := 26) (digs_len_le (Nat.lt_trans ha (by decide +kernel)))
  generalize bitsN a = bn at *
  refine Ok.enter Try.func64 rfl Try.ntmps64 rfl (fun w O => ?_)
  obtain ⟨n, hn⟩ : ∃ n, n = (bn + 1) / 2 := ⟨_, rfl⟩
  have hn2 : a < 2 ^ n * 2 ^ n := by
    rw [← Nat.pow_add]
    exact Nat.lt_of_lt_of_le hbl (Nat.pow_le_pow_right (by decide) (by omega))
  obtain ⟨e5, he5⟩ : ∃ e, e = 500 := ⟨_, rfl⟩
  have hn5 : 2 ^ n < 2 ^ e5 := Nat.pow_lt_pow_right (by decide) (by omega)
  have hsn : s ≤ 2 ^ n := by
    rcases Nat.lt_or_ge (2 ^ n) s with h | h
    · have := Nat.mul_le_mul (Nat.le_of_lt h) (Nat.le_of_lt h); omega
    · exact h
  have hn0 : 0 < 2 ^ n := Nat.two_pow_pos n
  have hv := value_ok false (2 ^ n)
  rw [if_neg (by decide)] at hv
  refine J_seq ?_
  refine J_reg ?_
  refine a_boxS rfl rfl (ltN rfl) (fun b1 => ?_)
  refine a_alloc (T := 29) rfl (ltN rfl) (fun b2 => ?_)
  refine st (s_assign rfl) rfl ?_
  refine Run.nil ?_
  refine pj_then ?_
  refine J_seq ?_
  refine J_seq ?_
  refine J_reg ?_
  refine st (s_loadW 1 rfl rfl) rfl ?_
  refine st (s_callk (hsi ) rfl ⟨VT.le_refl _, trivial⟩) rfl ?_
  refine Run.nil ?_
  refine pj_then ?_
  refine J_block ?_
  refine J_seq ?_
  refine J_reg ?_
  refine st (sF (by omega) (s_eq rfl rfl)) rfl ?_
  refine st (s_assign rfl) rfl ?_
  refine Run.nil ?_
  refine pj_then ?_
  refine J_cond0 rfl ?_
  refine J_seq ?_
  refine J_reg ?_
  refine st (sF (by omega) (s_eq rfl rfl)) rfl ?_
  refine st (s_assign rfl) rfl ?_
  refine Run.nil ?_
  refine pj_then ?_
  refine J_cond0 rfl ?_
  refine J_skip ?_
  refine pn_block ?_
  refine pj_then ?_
  refine J_seq ?_
  refine J_reg ?_
  refine st (s_callk (Of_ok _ (by omega) (by omega)) rfl ⟨VT.le_refl _, trivial⟩) rfl ?_
  refine a_alloc (T := 29) rfl (ltN rfl) (fun b4 => ?_)
  refine a_storeB 0 rfl rfl rfl rfl rfl (leN rfl) rfl ?_
  refine Run.nil ?_
  refine pj_then ?_
  refine J_seq ?_
  refine J_reg ?_
  refine st (s_loadW 2 rfl rfl) rfl ?_
  refine st (s_callk (hbi ) rfl ⟨VT.le_refl _, trivial⟩) rfl ?_
  refine st (s_addN _ 1 rfl rfl (by omega)) rfl ?_
  refine st (s_quoN 2 rfl rfl rfl (by decide) (by omega)) rfl ?_
  refine st (s_assign rfl) rfl ?_
  refine Run.nil ?_
  refine pj_then ?_
  refine J_seq ?_
  refine J_reg ?_
  refine st (s_move rfl) rfl ?_
  refine st (s_quoN 32 rfl rfl rfl (by decide) (by omega)) rfl ?_
  refine st (s_addN _ 1 rfl rfl (by omega)) rfl ?_
  rw [← hn]
  refine a_makeSlice (n / 32 + 1) (n / 32 + 1) rfl rfl rfl rfl (Nat.le_refl _) rfl rfl (by omega) rfl rfl (fun bz => ?_)
  refine st (s_assign rfl) rfl ?_
  refine Run.nil ?_
  refine pj_then ?_
  refine J_seq ?_
  refine J_reg ?_
  refine st (s_move rfl) rfl ?_
  refine st (s_move rfl) rfl ?_
  refine st (s_quoN 32 rfl rfl rfl (by decide) (by omega)) rfl ?_
  refine st (s_move rfl) rfl ?_
  refine st (s_remN 32 rfl rfl rfl (by decide)) rfl ?_
  refine st (s_shl1 (s := n % 32) rfl rfl (by omega)) rfl ?_
  refine st (s_indexON rfl rfl (by omega)) rfl ?_
  (refine a_storeE 0 rfl rfl rfl ?_ rfl ?_; omega)
  refine Run.nil ?_
  refine pj_then ?_
  refine J_seq ?_
  refine J_reg ?_
  refine st (s_move rfl) rfl ?_
  refine Run_freeze (t := 38) (j := 0) rfl rfl ?_
  refine st (s_callk (hv ) rfl ⟨VT.le_refl _, (start_le _), trivial⟩) rfl ?_
  refine a_alloc (T := 29) rfl (ltN rfl) (fun b7 => ?_)
  refine a_storeB 0 rfl rfl rfl rfl rfl (leN rfl) rfl ?_
  refine Run.nil ?_
  refine pj_then ?_
  refine J_block ?_
  refine J_sub (Γ' := [(1, _), (2, _), (3, _), (4, _), (7, _)]) (SubG.cons rfl (VT.le_refl _) (SubG.cons rfl (VT.le_refl _) (SubG.cons rfl (VT.le_refl _) (SubG.cons rfl (VT.le_refl _) (SubG.cons rfl (VT.le_refl _) (SubG.nil)))))) (SubM.refl _) ?_
  refine J_loopA (σ := Nat) (Γk := [(1, _), (2, _), (4, _), (7, _)]) (SubG.cons rfl (VT.le_refl _) (SubG.cons rfl (VT.le_refl _) (SubG.cons rfl (VT.le_refl _) (SubG.cons rfl (VT.le_refl _) (SubG.nil))))) (fun x => []) (fun x M0 => (M0.set 0 (boxO b7 29 (Lay.agg 2).sz [(0, Lay.agg 2, bigT (x : Int))]))) (fun x => s ≤ x ∧ x < 2 ^ e5) (fun x => x) (2 ^ n) (⟨hsn, hn5⟩) (by repeat (first | exact SubG.refl _ | exact SubG.nil | refine SubG.cons rfl (VT.le_refl _) ?_ | (refine SubG.cons rfl (one_le ?_) ?_; (congr 1; first | omega | (simp; omega) | simp)))) (.keep (Own.le_refl _) (.keep (Own.le_refl _) (.keep (Own.le_refl _) (.keep (Own.le_refl _) (.nil))))) (fun x hx => ?_)
  refine J_norm (Γ' := [(1, _), (2, _), (4, _), (7, _)]) (M' := [_, _, _, _]) rfl rfl ?_
  obtain ⟨g1, g2⟩ := hx
  have g0 : 0 < x := by
    rcases Nat.eq_zero_or_pos s with h | h
    · subst h; omega
    · omega
  have gx : x < 2 ^ 2048 := Nat.lt_of_lt_of_le g2 (pw_mono e5 2048 (by omega))
  have ga : a < 2 ^ 2048 := Nat.lt_of_lt_of_le ha (pw_mono 800 2048 (by decide))
  have hxs : small (x : Int) := small_lt gx
  have hqa : a / x ≤ a := Nat.div_le_self _ _
  have hd := DivMod_ok (a : Int) (x : Int) (by omega) hsm hxs
  rw [← Int.natCast_ediv, ← Int.natCast_emod] at hd
  have hqs : small ((a / x : Nat) : Int) := small_lt (Nat.lt_of_le_of_lt hqa ga)
  have had := AddI_ok (x : Int) ((a / x : Nat) : Int) hxs hqs
  rw [← Int.natCast_add] at had
  have hss : x + a / x < 2 ^ 2048 := by
    have e1 : x < 2 ^ 2047 := Nat.lt_of_lt_of_le g2 (pw_mono e5 2047 (by omega))
    have e2 : a < 2 ^ 2047 := Nat.lt_of_lt_of_le ha (pw_mono 800 2047 (by decide))
    have e3 : 2 ^ 2048 = 2 ^ 2047 + 2 ^ 2047 := pw_two 2047 2048 rfl
    rw [e3]; generalize 2 ^ 2047 = z at *; omega
  have hd2 := DivMod_ok ((x + a / x : Nat) : Int) 2 (by decide) (small_lt hss) (small_lt (by decide +kernel))
  rw [show ((x + a / x : Nat) : Int) / 2 = (((x + a / x) / 2 : Nat) : Int) from (Int.natCast_ediv _ _).symm, show ((x + a / x : Nat) : Int) % 2 = (((x + a / x) % 2 : Nat) : Int) from (Int.natCast_emod _ _).symm] at hd2
  have hcm := CmpI_ok (((x + a / x) / 2 : Nat) : Int) (x : Int)
  have hnx : s ≤ (x + a / x) / 2 := newton_ge h1 g0
  by_cases hy : x ≤ (x + a / x) / 2
  · have hxe : x = s := root_uniq (newton_le g0 hy) h2 g1
    have hc : ¬ cmpI (((x + a / x) / 2 : Nat) : Int) (x : Int) < 0 := by unfold cmpI; split <;> (try split) <;> omega
    refine J_block ?_
    refine J_seq ?_
    refine J_reg ?_
    refine st (s_loadW 3 rfl rfl) rfl ?_
    refine st (s_loadB 0 rfl rfl rfl) rfl ?_
    refine st (s_callk (hd ) rfl ⟨VT.le_refl _, VT.le_refl _, trivial⟩) rfl ?_
    refine st (s_move rfl) rfl ?_
    refine st (s_extract rfl rfl) rfl ?_
    refine st (s_extract rfl rfl) rfl ?_
    refine st (s_extract rfl rfl) rfl ?_
    refine a_alloc (T := 29) rfl (ltN rfl) (fun b8 => ?_)
    refine a_alloc (T := 29) rfl (ltN rfl) (fun b9 => ?_)
    refine a_storeB 1 rfl rfl rfl rfl rfl (leN rfl) rfl ?_
    refine a_storeB 0 rfl rfl rfl rfl rfl (leN rfl) rfl ?_
    refine st (s_assign rfl) rfl ?_
    refine Run.nil ?_
    refine pj_then ?_
    refine J_seq ?_
    refine J_regU2 mixed (by kernel_rfl) (by kernel_rfl) ?_
    refine ux (fun B => s_loadB 2 rfl rfl rfl) rfl rfl ?_
    refine ux (fun B => s_loadB 1 rfl rfl rfl) rfl rfl ?_
    refine uxk (had ) rfl ⟨VT.le_refl _, VT.le_refl _, trivial⟩ rfl ?_
    refine ux (fun B => s_loadB 3 rfl rfl rfl) rfl rfl ?_
    refine uxk (hd2 ) rfl ⟨VT.le_refl _, VT.le_refl _, trivial⟩ rfl ?_
    refine ux (fun B => s_move rfl) rfl rfl ?_
    refine ux (fun B => s_extract rfl rfl) rfl rfl ?_
    refine ux (fun B => s_extract rfl rfl) rfl rfl ?_
    refine ux (fun B => s_extract rfl rfl) rfl rfl ?_
    refine ua rfl ?_
    refine ua rfl ?_
    refine us rfl ?_
    refine us rfl ?_
    refine ux (fun B => s_assign rfl) rfl rfl ?_
    refine RunU.nil (fun γ => ?_)
    refine PJ_normM (M' := [_, _, _, _, _, _, _, _]) rfl ?_
    refine pj_then ?_
    refine J_seq ?_
    refine J_seq ?_
    refine J_reg ?_
    refine st (s_loadB 1 rfl rfl rfl) rfl ?_
    refine st (s_loadB 4 rfl rfl rfl) rfl ?_
    refine st (s_callk (hcm ) rfl ⟨VT.le_refl _, VT.le_refl _, trivial⟩) rfl ?_
    refine st (sT (by omega) (s_ge rfl rfl)) rfl ?_
    refine Run.nil ?_
    refine pj_then ?_
    refine J_cond1 rfl ?_
    refine J_seq ?_
    refine J_reg ?_
    refine st (s_loadB 4 rfl rfl rfl) rfl ?_
    refine a_storeB 6 rfl rfl rfl rfl rfl (leN rfl) rfl ?_
    refine st (s_assign rfl) rfl ?_
    refine Run.nil ?_
    refine pj_then ?_
    refine J_ret ?_
    refine pr_then ?_
    refine pr_block ?_
    refine pr_then ?_
    refine pr_block ?_
    refine retc2 Try.results64 (.cellB 6 rfl rfl rfl (bigT_eq (by rw [hxe]))) (.tmp rfl (VT.le_refl _))
  · have hc : cmpI (((x + a / x) / 2 : Nat) : Int) (x : Int) < 0 := by unfold cmpI; rw [if_pos (by omega)]; decide
    refine J_block ?_
    refine J_seq ?_
    refine J_reg ?_
    refine st (s_loadW 3 rfl rfl) rfl ?_
    refine st (s_loadB 0 rfl rfl rfl) rfl ?_
    refine st (s_callk (hd ) rfl ⟨VT.le_refl _, VT.le_refl _, trivial⟩) rfl ?_
    refine st (s_move rfl) rfl ?_
    refine st (s_extract rfl rfl) rfl ?_
    refine st (s_extract rfl rfl) rfl ?_
    refine st (s_extract rfl rfl) rfl ?_
    refine a_alloc (T := 29) rfl (ltN rfl) (fun b8 => ?_)
    refine a_alloc (T := 29) rfl (ltN rfl) (fun b9 => ?_)
    refine a_storeB 1 rfl rfl rfl rfl rfl (leN rfl) rfl ?_
    refine a_storeB 0 rfl rfl rfl rfl rfl (leN rfl) rfl ?_
    refine st (s_assign rfl) rfl ?_
    refine Run.nil ?_
    refine pj_then ?_
    refine J_seq ?_
    refine J_regU2 mixed (by kernel_rfl) (by kernel_rfl) ?_
    refine ux (fun B => s_loadB 2 rfl rfl rfl) rfl rfl ?_
    refine ux (fun B => s_loadB 1 rfl rfl rfl) rfl rfl ?_
    refine uxk (had ) rfl ⟨VT.le_refl _, VT.le_refl _, trivial⟩ rfl ?_
    refine ux (fun B => s_loadB 3 rfl rfl rfl) rfl rfl ?_
    refine uxk (hd2 ) rfl ⟨VT.le_refl _, VT.le_refl _, trivial⟩ rfl ?_
    refine ux (fun B => s_move rfl) rfl rfl ?_
    refine ux (fun B => s_extract rfl rfl) rfl rfl ?_
    refine ux (fun B => s_extract rfl rfl) rfl rfl ?_
    refine ux (fun B => s_extract rfl rfl) rfl rfl ?_
    refine ua rfl ?_
    refine ua rfl ?_
    refine us rfl ?_
    refine us rfl ?_
    refine ux (fun B => s_assign rfl) rfl rfl ?_
    refine RunU.nil (fun γ => ?_)
    refine PJ_normM (M' := [_, _, _, _, _, _, _, _]) rfl ?_
    refine pj_then ?_
    refine J_seq ?_
    refine J_seq ?_
    refine J_reg ?_
    refine st (s_loadB 1 rfl rfl rfl) rfl ?_
    refine st (s_loadB 4 rfl rfl rfl) rfl ?_
    refine st (s_callk (hcm ) rfl ⟨VT.le_refl _, VT.le_refl _, trivial⟩) rfl ?_
    refine st (sF (by omega) (s_ge rfl rfl)) rfl ?_
    refine Run.nil ?_
    refine pj_then ?_
    refine J_cond0 rfl ?_
    refine J_skip ?_
    refine pj_then ?_
    refine J_reg ?_
    refine st (s_loadB 1 rfl rfl rfl) rfl ?_
    refine a_storeB 4 rfl rfl rfl rfl rfl (leN rfl) rfl ?_
    refine Run.nil ?_
    refine pn_block ?_
    refine pj_roundM ((x + a / x) / 2) (⟨hnx, by omega⟩) (by omega) (by repeat (first | exact SubG.refl _ | exact SubG.nil | refine SubG.cons rfl (VT.le_refl _) ?_ | (refine SubG.cons rfl (one_le ?_) ?_; (congr 1; first | omega | (simp; omega) | simp)))) (.drop (.drop (.drop (.drop (.keep (Own.le_refl _) (.keep (Own.le_refl _) (.keep (Own.le_refl _) (.keep (Own.le_refl _) (.nil)))))))))
end Tor
end

section
set_option linter.unusedVariables false
set_option linter.unusedSimpArgs false
namespace Tor
open Go Go.RowKit Go.Proofs
/-- A fraction by its parts. -/
def fracT (n d : Int) : VT := aggT 4 [(0, .agg 2, bigT n), (2, .agg 2, bigT d)]
/-- A rational number in lowest terms. -/
def ratT (q : Rat) : VT := fracT q.num q.den
theorem fracT_eq {n n' d d' : Int} (h : n = n') (h' : d = d') : VT.le (fracT n d) (fracT n' d') := h ▸ h' ▸ VT.le_refl _
theorem fracT_of {n n' d d' : Int} (h : n = n') (h' : d = d') : VT.le (aggT 4 [(0, .agg 2, bigT n), (2, .agg 2, bigT d)]) (fracT n' d') := h ▸ h' ▸ VT.le_refl _
instance {n d : Int} : Flat (fracT n d) (.agg 4) := by unfold fracT; infer_instance
instance {q : Rat} : Flat (ratT q) (.agg 4) := by unfold ratT; infer_instance
theorem low_pos {n d : Int} (h : 0 < d) : n / ((Nat.gcd n.natAbs d.natAbs : Nat) : Int) = (Rat.divInt n d).num ∧ d / ((Nat.gcd n.natAbs d.natAbs : Nat) : Int) = ((Rat.divInt n d).den : Int) := by
  have e : Int.gcd d n = Nat.gcd n.natAbs d.natAbs := Nat.gcd_comm _ _
  rw [Rat.num_divInt, Rat.den_divInt, if_neg (by omega), e, Int.sign_eq_one_of_pos h, Int.one_mul]
  refine ⟨rfl, ?_⟩
  rw [Int.natCast_ediv, Int.natAbs_of_nonneg (Int.le_of_lt h)]
theorem low_neg {n d : Int} (h : d < 0) : n / -((Nat.gcd n.natAbs d.natAbs : Nat) : Int) = (Rat.divInt n d).num ∧ d / -((Nat.gcd n.natAbs d.natAbs : Nat) : Int) = ((Rat.divInt n d).den : Int) := by
  have e : Int.gcd d n = Nat.gcd n.natAbs d.natAbs := Nat.gcd_comm _ _
  have h1 : ((Nat.gcd n.natAbs d.natAbs : Nat) : Int) ∣ n := Int.gcd_dvd_left ..
  have h2 : ((Nat.gcd n.natAbs d.natAbs : Nat) : Int) ∣ d := Int.gcd_dvd_right ..
  rw [Rat.num_divInt, Rat.den_divInt, if_neg (by omega), e, Int.sign_eq_neg_one_of_neg h, Int.ediv_neg, Int.ediv_neg]
  refine ⟨?_, ?_⟩
  · rw [Int.neg_mul, Int.one_mul, Int.neg_ediv_of_dvd h1]
  · rw [Int.natCast_ediv, ← Int.neg_ediv_of_dvd h2]; congr 1; omega
theorem gcd_small {n d : Int} (h : d ≠ 0) (hs : small d) : small ((Nat.gcd n.natAbs d.natAbs : Nat) : Int) := by
  have h1 : Nat.gcd n.natAbs d.natAbs ≤ d.natAbs := Nat.le_of_dvd (by omega) (Nat.gcd_dvd_right _ _)
  unfold small at *
  rw [Int.natAbs_natCast]
  exact Nat.le_trans (digs_len_le' h1) hs
theorem gcd_ne {n d : Int} (h : d ≠ 0) : ((Nat.gcd n.natAbs d.natAbs : Nat) : Int) ≠ 0 := by
  have := Nat.gcd_pos_of_pos_right n.natAbs (show 0 < d.natAbs by omega)
  omega
theorem zeroB_le : VT.le (one (.agg #[.bool false, .slice none 0 0])) (bigT 0) := by
  intro v h e
  have e : v = .agg #[.bool false, .slice none 0 0] := e
  subst e
  exact bigT_zero _ _ ⟨_, rfl, rfl, by simp [Value.oneCell'], fun q hq => by
    rcases List.mem_cons.1 hq with rfl | hq
    · exact ⟨_, rfl, rfl⟩
    · rcases List.mem_cons.1 hq with rfl | hq
      · exact ⟨_, rfl, rfl⟩
      · cases hq⟩
theorem frac00 : VT.le (aggT 4 (zeroC #[Value.bool false, Value.slice none 0 0, Value.bool false, Value.slice none 0 0] [(0, Lay.agg 2), (2, Lay.agg 2)])) (aggT 4 [(0, .agg 2, bigT 0), (2, .agg 2, bigT 0)]) := aggT_le (fun q hq => by
  rcases List.mem_cons.1 hq with rfl | hq
  · exact ⟨_, List.mem_cons_self, zeroB_le⟩
  · rcases List.mem_cons.1 hq with rfl | hq
    · exact ⟨_, List.mem_cons_of_mem _ List.mem_cons_self, zeroB_le⟩
    · cases hq)
attribute [local irreducible] Tor.J Tor.PJ Tor.StepO Tor.one Tor.slT Tor.ptrT Tor.aggT Tor.tupT Tor.exT Tor.andT Tor.gT Tor.eP Tor.boxO Tor.sliO Tor.slV Tor.VT.le Tor.Ret Tor.anyT
set_option maxHeartbeats 4000000 in
theorem Root0_ok : Ok Try.prog 64 [bigT 0] (tupT [bigT 0, one (.int .i64 0)]) := by
  have hsi := SignI_ok 0
  rw [show sgnI 0 = 0 from rfl] at hsi
  refine Ok.enter Try.func64 rfl Try.ntmps64 rfl (fun w O => ?_)
  refine J_seq ?_
  refine J_reg ?_
  refine a_boxS rfl rfl (ltN rfl) (fun b1 => ?_)
  refine a_alloc (T := 29) rfl (ltN rfl) (fun b2 => ?_)
  refine st (s_assign rfl) rfl ?_
  refine Run.nil ?_
  refine pj_then ?_
  refine J_seq ?_
  refine J_seq ?_
  refine J_reg ?_
  refine st (s_loadW 1 rfl rfl) rfl ?_
  refine st (s_callk (hsi ) rfl ⟨VT.le_refl _, trivial⟩) rfl ?_
  refine Run.nil ?_
  refine pj_then ?_
  refine J_block ?_
  refine J_seq ?_
  refine J_reg ?_
  refine st (sF (by omega) (s_eq rfl rfl)) rfl ?_
  refine st (s_assign rfl) rfl ?_
  refine Run.nil ?_
  refine pj_then ?_
  refine J_cond0 rfl ?_
  refine J_seq ?_
  refine J_reg ?_
  refine st (sT (by omega) (s_eq rfl rfl)) rfl ?_
  refine st (s_assign rfl) rfl ?_
  refine Run.nil ?_
  refine pj_then ?_
  refine J_cond1 rfl ?_
  refine J_seq ?_
  refine J_reg ?_
  refine stB rfl rfl rfl ?_
  refine BuildK.nil ?_
  refine a_storeB 0 rfl rfl rfl rfl rfl (leN rfl) rfl ?_
  refine st (s_assign rfl) rfl ?_
  refine Run.nil ?_
  refine pj_then ?_
  refine J_ret ?_
  refine pr_block ?_
  refine pr_then ?_
  refine retc2 Try.results64 (.cellB 0 rfl rfl rfl (bigT_zero)) (.tmp rfl (VT.le_refl _))
set_option maxHeartbeats 4000000 in
theorem lowest_ok (n d : Int) (hd : d ≠ 0) (hn : small n) (hds : small d) : Ok Try.prog 87 [fracT n d] (ratT (Rat.divInt n d)) := by
  have hg := Gcd_ok n d hn hds
  have hgs := gcd_small (n := n) hd hds
  have hg0 := gcd_ne (n := n) hd
  have hsi := SignI_ok d
  unfold ratT fracT
  refine Ok.enter Try.func87 rfl Try.ntmps87 rfl (fun w O => ?_)
  by_cases h : d < 0
  · obtain ⟨l1, l2⟩ := low_neg (n := n) h
    have hs : sgnI d = -1 := by unfold sgnI; rw [if_neg hd, if_pos h]
    rw [hs] at hsi
    refine J_seq ?_
    refine J_reg ?_
    refine a_boxS rfl rfl (ltN rfl) (fun b1 => ?_)
    refine a_allocS (T := 59) rfl rfl rfl (fun b2 => ?_)
    refine Run.nil ?_
    refine pj_then ?_
    refine J_seq ?_
    refine J_seq ?_
    refine J_reg ?_
    refine st (s_fieldAddr rfl) rfl ?_
    refine st (s_loadB 1 rfl rfl rfl) rfl ?_
    refine st (s_callk (hsi ) rfl ⟨VT.le_refl _, trivial⟩) rfl ?_
    refine st (sF (by omega) (s_eq rfl rfl)) rfl ?_
    refine Run.nil ?_
    refine pj_then ?_
    refine J_cond0 rfl ?_
    refine J_skip ?_
    refine pj_then ?_
    refine J_seq ?_
    refine J_reg ?_
    refine st (s_fieldAddr rfl) rfl ?_
    refine st (s_loadB 1 rfl rfl rfl) rfl ?_
    refine st (s_fieldAddr rfl) rfl ?_
    refine st (s_loadB 1 rfl rfl rfl) rfl ?_
    refine st (s_callk (hg ) rfl ⟨VT.le_refl _, VT.le_refl _, trivial⟩) rfl ?_
    refine a_alloc (T := 29) rfl (ltN rfl) (fun b3 => ?_)
    refine a_storeB 0 rfl rfl rfl rfl rfl (leN rfl) rfl ?_
    refine Run.nil ?_
    refine pj_then ?_
    refine J_seq ?_
    refine J_seq ?_
    refine J_reg ?_
    refine st (s_fieldAddr rfl) rfl ?_
    refine st (s_loadB 2 rfl rfl rfl) rfl ?_
    refine st (s_callk (hsi ) rfl ⟨VT.le_refl _, trivial⟩) rfl ?_
    refine st (sT (by omega) (s_lt rfl rfl)) rfl ?_
    refine Run.nil ?_
    refine pj_then ?_
    refine J_cond1 rfl ?_
    refine J_reg ?_
    refine st (s_loadB 0 rfl rfl rfl) rfl ?_
    refine st (s_callk (NegI_ok _ (by assumption)) rfl ⟨VT.le_refl _, trivial⟩) rfl ?_
    refine a_storeB 0 rfl rfl rfl rfl rfl (leN rfl) rfl ?_
    refine Run.nil ?_
    refine pj_then ?_
    refine J_seq ?_
    refine J_reg ?_
    refine st (s_fieldAddr rfl) rfl ?_
    refine st (s_loadB 2 rfl rfl rfl) rfl ?_
    refine st (s_loadB 0 rfl rfl rfl) rfl ?_
    refine st (s_callk (DivMod_ok _ _ (by omega) (by assumption) (small_neg ‹_›)) rfl ⟨VT.le_refl _, VT.le_refl _, trivial⟩) rfl ?_
    refine st (s_move rfl) rfl ?_
    refine st (s_extract rfl rfl) rfl ?_
    refine st (s_extract rfl rfl) rfl ?_
    refine st (s_extract rfl rfl) rfl ?_
    refine a_alloc (T := 29) rfl (ltN rfl) (fun b4 => ?_)
    refine a_alloc (T := 29) rfl (ltN rfl) (fun b5 => ?_)
    refine a_storeB 1 rfl rfl rfl rfl rfl (leN rfl) rfl ?_
    refine a_storeB 0 rfl rfl rfl rfl rfl (leN rfl) rfl ?_
    refine st (s_assign rfl) rfl ?_
    refine Run.nil ?_
    refine pj_then ?_
    refine J_seq ?_
    refine J_reg ?_
    refine st (s_fieldAddr rfl) rfl ?_
    refine st (s_loadB 4 rfl rfl rfl) rfl ?_
    refine st (s_loadB 2 rfl rfl rfl) rfl ?_
    refine st (s_callk (DivMod_ok _ _ (by omega) (by assumption) (small_neg ‹_›)) rfl ⟨VT.le_refl _, VT.le_refl _, trivial⟩) rfl ?_
    refine st (s_move rfl) rfl ?_
    refine st (s_extract rfl rfl) rfl ?_
    refine st (s_extract rfl rfl) rfl ?_
    refine st (s_extract rfl rfl) rfl ?_
    refine a_alloc (T := 29) rfl (ltN rfl) (fun b7 => ?_)
    refine a_alloc (T := 29) rfl (ltN rfl) (fun b8 => ?_)
    refine a_storeB 1 rfl rfl rfl rfl rfl (leN rfl) rfl ?_
    refine a_storeB 0 rfl rfl rfl rfl rfl (leN rfl) rfl ?_
    refine st (s_assign rfl) rfl ?_
    refine Run.nil ?_
    refine pj_then ?_
    refine J_seq ?_
    refine J_reg ?_
    refine st (s_loadB 3 rfl rfl rfl) rfl ?_
    refine st (s_loadB 1 rfl rfl rfl) rfl ?_
    refine stB rfl rfl rfl ?_
    refine BuildK.cons rfl rfl rfl ?_
    refine BuildK.cons rfl rfl rfl ?_
    refine BuildK.nil ?_
    refine a_storeW 5 rfl rfl rfl rfl ?_
    refine Run.nil ?_
    refine pj_then ?_
    refine J_ret ?_
    refine retc1 Try.results87 (.cellW 5 rfl rfl (fracT_of l1 l2))
  · obtain ⟨l1, l2⟩ := low_pos (n := n) (show 0 < d by omega)
    have hs : sgnI d = 1 := by unfold sgnI; rw [if_neg hd, if_neg h]
    rw [hs] at hsi
    refine J_seq ?_
    refine J_reg ?_
    refine a_boxS rfl rfl (ltN rfl) (fun b1 => ?_)
    refine a_allocS (T := 59) rfl rfl rfl (fun b2 => ?_)
    refine Run.nil ?_
    refine pj_then ?_
    refine J_seq ?_
    refine J_seq ?_
    refine J_reg ?_
    refine st (s_fieldAddr rfl) rfl ?_
    refine st (s_loadB 1 rfl rfl rfl) rfl ?_
    refine st (s_callk (hsi ) rfl ⟨VT.le_refl _, trivial⟩) rfl ?_
    refine st (sF (by omega) (s_eq rfl rfl)) rfl ?_
    refine Run.nil ?_
    refine pj_then ?_
    refine J_cond0 rfl ?_
    refine J_skip ?_
    refine pj_then ?_
    refine J_seq ?_
    refine J_reg ?_
    refine st (s_fieldAddr rfl) rfl ?_
    refine st (s_loadB 1 rfl rfl rfl) rfl ?_
    refine st (s_fieldAddr rfl) rfl ?_
    refine st (s_loadB 1 rfl rfl rfl) rfl ?_
    refine st (s_callk (hg ) rfl ⟨VT.le_refl _, VT.le_refl _, trivial⟩) rfl ?_
    refine a_alloc (T := 29) rfl (ltN rfl) (fun b3 => ?_)
    refine a_storeB 0 rfl rfl rfl rfl rfl (leN rfl) rfl ?_
    refine Run.nil ?_
    refine pj_then ?_
    refine J_seq ?_
    refine J_seq ?_
    refine J_reg ?_
    refine st (s_fieldAddr rfl) rfl ?_
    refine st (s_loadB 2 rfl rfl rfl) rfl ?_
    refine st (s_callk (hsi ) rfl ⟨VT.le_refl _, trivial⟩) rfl ?_
    refine st (sF (by omega) (s_lt rfl rfl)) rfl ?_
    refine Run.nil ?_
    refine pj_then ?_
    refine J_cond0 rfl ?_
    refine J_skip ?_
    refine pj_then ?_
    refine J_seq ?_
    refine J_reg ?_
    refine st (s_fieldAddr rfl) rfl ?_
    refine st (s_loadB 2 rfl rfl rfl) rfl ?_
    refine st (s_loadB 0 rfl rfl rfl) rfl ?_
    refine st (s_callk (DivMod_ok _ _ (by assumption) (by assumption) (by assumption)) rfl ⟨VT.le_refl _, VT.le_refl _, trivial⟩) rfl ?_
    refine st (s_move rfl) rfl ?_
    refine st (s_extract rfl rfl) rfl ?_
    refine st (s_extract rfl rfl) rfl ?_
    refine st (s_extract rfl rfl) rfl ?_
    refine a_alloc (T := 29) rfl (ltN rfl) (fun b4 => ?_)
    refine a_alloc (T := 29) rfl (ltN rfl) (fun b5 => ?_)
    refine a_storeB 1 rfl rfl rfl rfl rfl (leN rfl) rfl ?_
    refine a_storeB 0 rfl rfl rfl rfl rfl (leN rfl) rfl ?_
    refine st (s_assign rfl) rfl ?_
    refine Run.nil ?_
    refine pj_then ?_
    refine J_seq ?_
    refine J_reg ?_
    refine st (s_fieldAddr rfl) rfl ?_
    refine st (s_loadB 4 rfl rfl rfl) rfl ?_
    refine st (s_loadB 2 rfl rfl rfl) rfl ?_
    refine st (s_callk (DivMod_ok _ _ (by assumption) (by assumption) (by assumption)) rfl ⟨VT.le_refl _, VT.le_refl _, trivial⟩) rfl ?_
    refine st (s_move rfl) rfl ?_
    refine st (s_extract rfl rfl) rfl ?_
    refine st (s_extract rfl rfl) rfl ?_
    refine st (s_extract rfl rfl) rfl ?_
    refine a_alloc (T := 29) rfl (ltN rfl) (fun b7 => ?_)
    refine a_alloc (T := 29) rfl (ltN rfl) (fun b8 => ?_)
    refine a_storeB 1 rfl rfl rfl rfl rfl (leN rfl) rfl ?_
    refine a_storeB 0 rfl rfl rfl rfl rfl (leN rfl) rfl ?_
    refine st (s_assign rfl) rfl ?_
    refine Run.nil ?_
    refine pj_then ?_
    refine J_seq ?_
    refine J_reg ?_
    refine st (s_loadB 3 rfl rfl rfl) rfl ?_
    refine st (s_loadB 1 rfl rfl rfl) rfl ?_
    refine stB rfl rfl rfl ?_
    refine BuildK.cons rfl rfl rfl ?_
    refine BuildK.cons rfl rfl rfl ?_
    refine BuildK.nil ?_
    refine a_storeW 5 rfl rfl rfl rfl ?_
    refine Run.nil ?_
    refine pj_then ?_
    refine J_ret ?_
    refine retc1 Try.results87 (.cellW 5 rfl rfl (fracT_of l1 l2))
set_option maxHeartbeats 4000000 in
theorem qOf_ok (n d : Int) (hd : d ≠ 0) (hn : small n) (hds : small d) : Ok Try.prog 66 [bigT n, bigT d] (tupT [ratT (Rat.divInt n d), one (.int .i64 0)]) := by
  have hlow := lowest_ok n d hd hn hds
  have hs : sgnI d ≠ 0 := by unfold sgnI; rw [if_neg hd]; split <;> decide
  unfold ratT fracT at *
  refine Ok.enter Try.func66 rfl Try.ntmps66 rfl (fun w O => ?_)
  refine J_seq ?_
  refine J_reg ?_
  refine a_boxS rfl rfl (ltN rfl) (fun b2 => ?_)
  refine a_boxS rfl rfl (ltN rfl) (fun b3 => ?_)
  refine a_allocS (T := 59) rfl rfl rfl (fun b4 => ?_)
  refine st (s_assign rfl) rfl ?_
  refine Run.nil ?_
  refine pj_then ?_
  refine J_seq ?_
  refine J_seq ?_
  refine J_reg ?_
  refine st (s_loadW 1 rfl rfl) rfl ?_
  refine st (s_callk (SignI_ok _) rfl ⟨VT.le_refl _, trivial⟩) rfl ?_
  refine st (sF (by assumption) (s_eq rfl rfl)) rfl ?_
  refine Run.nil ?_
  refine pj_then ?_
  refine J_cond0 rfl ?_
  refine J_skip ?_
  refine pj_then ?_
  refine J_seq ?_
  refine J_reg ?_
  refine st (s_loadW 2 rfl rfl) rfl ?_
  refine st (s_loadW 1 rfl rfl) rfl ?_
  refine stB rfl rfl rfl ?_
  refine BuildK.cons rfl rfl rfl ?_
  refine BuildK.cons rfl rfl rfl ?_
  refine BuildK.nil ?_
  refine st (s_callk (hlow ) rfl ⟨VT.le_refl _, trivial⟩) rfl ?_
  refine a_storeW 0 rfl rfl rfl rfl ?_
  refine st (s_assign rfl) rfl ?_
  refine Run.nil ?_
  refine pj_then ?_
  refine J_ret ?_
  refine retc2 Try.results66 (.cellW 0 rfl rfl (VT.le_refl _)) (.tmp rfl (VT.le_refl _))
set_option maxHeartbeats 4000000 in
theorem qOf0_ok (n : Int) : Ok Try.prog 66 [bigT n, bigT 0] (tupT [fracT 0 0, one (.int .i64 3)]) := by
  unfold fracT at *
  refine Ok.enter Try.func66 rfl Try.ntmps66 rfl (fun w O => ?_)
  have hsi := SignI_ok 0
  rw [show sgnI 0 = 0 from rfl] at hsi
  refine J_seq ?_
  refine J_reg ?_
  refine a_boxS rfl rfl (ltN rfl) (fun b2 => ?_)
  refine a_boxS rfl rfl (ltN rfl) (fun b3 => ?_)
  refine a_allocS (T := 59) rfl rfl rfl (fun b4 => ?_)
  refine st (s_assign rfl) rfl ?_
  refine Run.nil ?_
  refine pj_then ?_
  refine J_seq ?_
  refine J_seq ?_
  refine J_reg ?_
  refine st (s_loadW 1 rfl rfl) rfl ?_
  refine st (s_callk (hsi ) rfl ⟨VT.le_refl _, trivial⟩) rfl ?_
  refine st (sT (by omega) (s_eq rfl rfl)) rfl ?_
  refine Run.nil ?_
  refine pj_then ?_
  refine J_cond1 rfl ?_
  refine J_seq ?_
  refine J_reg ?_
  refine stB rfl rfl rfl ?_
  refine BuildK.nil ?_
  refine a_storeW 0 rfl rfl rfl rfl ?_
  refine st (s_assign rfl) rfl ?_
  refine Run.nil ?_
  refine pj_then ?_
  refine J_ret ?_
  refine pr_then ?_
  refine retc2 Try.results66 (.cellW 0 rfl rfl (frac00)) (.tmp rfl (VT.le_refl _))
set_option maxHeartbeats 4000000 in
theorem cWord_ok (u : Nat) (hu : u < 18446744073709551616) : Ok Try.prog 53 [one (.int .u64 (u : Int))] (bigT (u : Int)) := by
  have h1 := Of_ok ((u / 4294967296 : Nat) : Int) (by omega) (by omega)
  have h2 := Of_ok 4294967296 (by decide) (by decide)
  have h3 := Of_ok ((u % 4294967296 : Nat) : Int) (by omega) (by omega)
  refine Ok.enter Try.func53 rfl Try.ntmps53 rfl (fun w O => ?_)
  have s1 : small ((u / 4294967296 : Nat) : Int) := small_lt (by rw [Int.natAbs_natCast]; exact Nat.lt_of_le_of_lt (Nat.div_le_self _ _) (Nat.lt_trans hu (by decide +kernel)))
  have s2 : small 4294967296 := small_lt (by decide +kernel)
  have s3 : small ((u % 4294967296 : Nat) : Int) := small_lt (by rw [Int.natAbs_natCast]; exact Nat.lt_of_le_of_lt (Nat.mod_le _ _) (Nat.lt_trans hu (by decide +kernel)))
  have s4 : small (((u / 4294967296 : Nat) : Int) * 4294967296) := small_lt (by
    rw [show ((u / 4294967296 : Nat) : Int) * 4294967296 = ((u / 4294967296 * 4294967296 : Nat) : Int) from by simp, Int.natAbs_natCast]
    exact Nat.lt_of_le_of_lt (Nat.div_mul_le_self _ _) (Nat.lt_trans hu (by decide +kernel)))
  refine J_seq ?_
  refine J_reg ?_
  refine a_alloc (T := 29) rfl (ltN rfl) (fun b2 => ?_)
  refine Run.nil ?_
  refine pj_then ?_
  refine J_seq ?_
  refine J_reg ?_
  refine st (s_move rfl) rfl ?_
  refine st (s_shr32 rfl) rfl ?_
  refine st (s_toI64 rfl (by omega) (by omega)) rfl ?_
  refine st (s_callk (h1 ) rfl ⟨VT.le_refl _, trivial⟩) rfl ?_
  refine st (s_callk (h2 ) rfl ⟨VT.le_refl _, trivial⟩) rfl ?_
  refine st (s_callk (MulI_ok _ _ (by assumption) (by assumption)) rfl ⟨VT.le_refl _, VT.le_refl _, trivial⟩) rfl ?_
  refine a_alloc (T := 29) rfl (ltN rfl) (fun b3 => ?_)
  refine a_storeB 0 rfl rfl rfl rfl rfl (leN rfl) rfl ?_
  refine Run.nil ?_
  refine pj_then ?_
  refine J_seq ?_
  refine J_regd 6 mixed (by kernel_rfl) (by decide) ?_
  refine st (s_loadB 0 rfl rfl rfl) rfl ?_
  refine st (s_move rfl) rfl ?_
  refine st (s_andM rfl (by omega)) rfl ?_
  refine st (s_toI64 rfl (by omega) (by omega)) rfl ?_
  refine st (s_callk (h3 ) rfl ⟨VT.le_refl _, trivial⟩) rfl ?_
  refine st (s_callk (AddI_ok _ _ (by assumption) (by assumption)) rfl ⟨VT.le_refl _, VT.le_refl _, trivial⟩) rfl ?_
  refine Run.nil ?_
  refine a_storeB 1 rfl rfl rfl rfl rfl (leN rfl) rfl ?_
  refine Run.nil ?_
  refine pj_then ?_
  refine J_ret ?_
  refine retc1 Try.results53 (.cellB 1 rfl rfl rfl (bigT_eq (by omega)))
set_option maxHeartbeats 4000000 in
theorem next_ok (a b c d : Int) (hc : c ≠ 0) (ha : small a) (hcs : small c) (hb : small b) (hd : small d) (hq : small (a / c)) (hm : small (a / c * d)) : Ok Try.prog 65 [fracT a b, fracT c d] (fracT (a % c) (b - a / c * d)) := by
  unfold fracT at *
  refine Ok.enter Try.func65 rfl Try.ntmps65 rfl (fun w O => ?_)
  refine J_seq ?_
  refine J_reg ?_
  refine a_boxS rfl rfl (ltN rfl) (fun b2 => ?_)
  refine a_boxS rfl rfl (ltN rfl) (fun b3 => ?_)
  refine a_allocS (T := 92) rfl rfl rfl (fun b4 => ?_)
  refine Run.nil ?_
  refine pj_then ?_
  refine J_seq ?_
  refine J_reg ?_
  refine st (s_fieldAddr rfl) rfl ?_
  refine st (s_loadB 2 rfl rfl rfl) rfl ?_
  refine st (s_fieldAddr rfl) rfl ?_
  refine st (s_loadB 1 rfl rfl rfl) rfl ?_
  refine st (s_callk (DivMod_ok _ _ (by assumption) (by assumption) (by assumption)) rfl ⟨VT.le_refl _, VT.le_refl _, trivial⟩) rfl ?_
  refine st (s_move rfl) rfl ?_
  refine st (s_extract rfl rfl) rfl ?_
  refine st (s_extract rfl rfl) rfl ?_
  refine st (s_extract rfl rfl) rfl ?_
  refine a_alloc (T := 29) rfl (ltN rfl) (fun b5 => ?_)
  refine a_alloc (T := 29) rfl (ltN rfl) (fun b6 => ?_)
  refine a_storeB 1 rfl rfl rfl rfl rfl (leN rfl) rfl ?_
  refine a_storeB 0 rfl rfl rfl rfl rfl (leN rfl) rfl ?_
  refine st (s_assign rfl) rfl ?_
  refine Run.nil ?_
  refine pj_then ?_
  refine J_seq ?_
  refine J_regd 9 mixed (by kernel_rfl) (by decide) ?_
  refine st (s_loadB 0 rfl rfl rfl) rfl ?_
  refine st (s_fieldAddr rfl) rfl ?_
  refine st (s_loadB 4 rfl rfl rfl) rfl ?_
  refine st (s_loadB 1 rfl rfl rfl) rfl ?_
  refine st (s_fieldAddr rfl) rfl ?_
  refine st (s_loadB 3 rfl rfl rfl) rfl ?_
  refine st (s_callk (MulI_ok _ _ (by assumption) (by assumption)) rfl ⟨VT.le_refl _, VT.le_refl _, trivial⟩) rfl ?_
  refine st (s_callk (SubI_ok _ _ (by assumption) (by assumption)) rfl ⟨VT.le_refl _, VT.le_refl _, trivial⟩) rfl ?_
  refine stB rfl rfl rfl ?_
  refine BuildK.cons rfl rfl rfl ?_
  refine BuildK.cons rfl rfl rfl ?_
  refine BuildK.nil ?_
  refine Run.nil ?_
  refine a_storeW 2 rfl rfl rfl rfl ?_
  refine Run.nil ?_
  refine pj_then ?_
  refine J_ret ?_
  refine retc1 Try.results65 (.cellW 2 rfl rfl (VT.le_refl _))
end Tor
end

section
set_option linter.unusedVariables false
set_option linter.unusedSimpArgs false
namespace Tor
open Go Go.RowKit Go.Proofs
section
variable {P : Program} {E : Env} {Γ : Ctx} {M : Mem} {d : Option Tmp} {ty : TypeId} {pos : String} {af : Array Edge} {gd : Option (Nat × Bool)}
theorem s_mulW {T T' : TypeId} {x y : Operand} {a b : Nat} (hx : evalT Γ x = some (one (.int .u32 (a : Int)))) (hy : evalT Γ y = some (one (.int .u32 (b : Int)))) (h : a * b < 4294967296) :
    StepO P E Γ M ⟨d, .binOp .mul T x y T', ty, pos, af, gd⟩ (one (.int .u32 ((a * b : Nat) : Int))) :=
  s_mul hx hy (by
    rw [wrap_u32, ← Int.natCast_mul]
    generalize a * b = z at *
    omega)
theorem valAt_sub {L : Lay} {k m j : Nat} {c c' : Array Value} {x : Value} (h : valAt (.agg m) c k = some (.agg c')) (hx : valAt L c' j = some x) : valAt L c (k + j) = some x := by
  simp only [valAt] at h
  split at h
  · rename_i hk
    cases h
    cases L with
    | one =>
      simp only [valAt] at hx ⊢
      rw [extract_at] at hx
      split at hx
      · exact hx
      · cases hx
    | agg n =>
      simp only [valAt] at hx ⊢
      have hs : (c.extract k (k + m)).size = m := by simp; omega
      rw [hs] at hx
      split at hx
      · rename_i hj
        rw [if_pos (by omega)]
        rw [← hx]
        congr 2
        apply Array.ext_getElem?
        intro i
        rw [extract_at, extract_at, extract_at]
        by_cases hi : i < n
        · rw [if_pos hi, if_pos hi, if_pos (by omega), Nat.add_assoc]
        · rw [if_neg hi, if_neg hi]
      · cases hx
  · cases h
/-- A part of a part of an own variable is read. -/
theorem s_loadBP {T T' : TypeId} {L : Lay} [LayOf P T L] {x : Operand} {b o m m' : Nat} {cs cs' : Comps} {φ : VT} (i k j : Nat) (hx : evalT Γ x = some (one (.pointer (some ⟨b, o, none⟩)))) (hM : M[i]? = some (boxO b T' m cs))
    (hl : lookC cs k = some (.agg m', aggT m' cs')) (ho : o = k + j) (hl2 : lookC cs' j = some (L, φ)) : StepO P E Γ M ⟨d, .load T x, ty, pos, af, gd⟩ φ :=
  StepO.ofRun fun a w hb hf => by
    have h1 : a.eval x = .pointer (some ⟨b, o, none⟩) := hf x _ (by simp [Op.operands]) hx
    obtain ⟨c, hc, _, _, hcs⟩ := own_get hb hM
    obtain ⟨v, hx', c', rfl, hs', _, hcs'⟩ := hcs _ (lookC_mem hl)
    obtain ⟨y, hy, hp⟩ := hcs' _ (lookC_mem hl2)
    refine ⟨y, ?_, hp⟩
    have h2 := valAt_sub hx' hy
    subst ho
    simp only [execOp, h1, Instr.loadAt, Instr.sureAddr, Sem.run_bind, Sem.run_pure, Result.andThen_ok, run_loadVar' hc h2]
theorem box_agg {b : Nat} {T : TypeId} {m : Nat} {cs : Comps} {φ : VT} (h : VT.le (aggT m cs) φ) : Own.le (boxO b T m cs) (boxO b T m [(0, .agg m, φ)]) :=
  ⟨rfl, fun g h' ⟨c, hb, hs, ha, hc⟩ => ⟨c, hb, hs, ha, fun q hq => by
    rw [List.mem_singleton.1 hq]
    exact ⟨.agg c, by subst hs; simp [valAt], h _ _ ⟨c, rfl, hs, ha, hc⟩⟩⟩⟩
/-- An own slice that two slots hold is not written any more. -/
theorem Run_freeze2 {ops : Array Oper} {i : Nat} {os : List Oper} {K : List Deferred → Ctx → Mem → Prop} {D : List Deferred} {t1 t2 j n cap : Nat} {sv : Option Nat} {T : TypeId} {L : Lay} {φ : Nat → VT} (h1 : look Γ t1 = some (one (slV sv n cap))) (h2 : look Γ t2 = some (one (slV sv n cap))) (hM : M[j]? = some (sliO sv T L cap n φ))
    (h : Run P E ops false i D ((t1, slT L n φ) :: (t2, slT L n φ) :: Γ) (M.eraseIdx j) os K) : Run P E ops false i D Γ M os K :=
  Run_open [sliO sv T L cap n φ] (permPick j hM) (EntM.refl _) (fun s χ hs => by
    have he : Ent [sliO sv T L cap n φ] (one (slV sv n cap)) (slT L n φ) := Ent.sl List.mem_cons_self
    rw [look_cons] at hs
    split at hs
    · rename_i e; subst e; cases hs; exact ⟨_, h1, he⟩
    · rw [look_cons] at hs
      split at hs
      · rename_i e; subst e; cases hs; exact ⟨_, h2, he⟩
      · exact ⟨χ, hs, Ent.refl _⟩) h
theorem Run_retype {ops : Array Oper} {i : Nat} {os : List Oper} {K : List Deferred → Ctx → Mem → Prop} {D : List Deferred} {t : Nat} {φ ψ : VT} (ht : look Γ t = some φ) (hle : VT.le φ ψ) (h : Run P E ops false i D ((t, ψ) :: Γ) M os K) : Run P E ops false i D Γ M os K :=
  .conv (fun a w hS => hS.sub (fun s χ hs => by
    rw [look_cons] at hs
    split at hs
    · rename_i e; subst e; cases hs; exact ⟨φ, ht, hle⟩
    · exact ⟨χ, hs, VT.le_refl _⟩) (SubM.refl _)) h
theorem PJ_retype {e : Exit} {Q : Exit → Act → World → Prop} {D : List Deferred} {t : Nat} {φ ψ : VT} (ht : look Γ t = some φ) (hle : VT.le φ ψ) (h : PJ E D ((t, ψ) :: Γ) M e Q) : PJ E D Γ M e Q :=
  PJ_sub (fun s χ hs => by
    rw [look_cons] at hs
    split at hs
    · rename_i e; subst e; cases hs; exact ⟨φ, ht, hle⟩
    · exact ⟨χ, hs, VT.le_refl _⟩) (SubM.refl _) h
end
attribute [local irreducible] Tor.J Tor.PJ Tor.StepO Tor.one Tor.slT Tor.ptrT Tor.aggT Tor.tupT Tor.exT Tor.andT Tor.gT Tor.eP Tor.boxO Tor.sliO Tor.slV Tor.VT.le Tor.Ret Tor.anyT
set_option maxHeartbeats 1000000 in
theorem rshort_ok (l : List Nat) (d : Nat) (hl : Limbs l) (h1 : l.length ≤ 1099511627776) (hd0 : 0 < d) (hd : d < 4294967296) : Ok Try.prog 83 [limT l, one (.int .u32 (d : Nat))] (tupT [natS (lv l / d), one (.int .u32 ((lv l % d : Nat) : Int))]) := by
  refine Ok.enter Try.func83 rfl Try.ntmps83 rfl (fun w O => ?_)
  refine J_seq ?_
  refine J_reg ?_
  refine st (s_assign rfl) rfl ?_
  refine st (s_assign rfl) rfl ?_
  refine Run.nil ?_
  refine pj_then ?_
  refine J_seq ?_
  refine J_reg ?_
  refine st (s_move rfl) rfl ?_
  refine st (s_len rfl) rfl ?_
  refine a_makeSlice l.length l.length rfl rfl rfl rfl (Nat.le_refl _) rfl rfl (by omega) rfl rfl (fun bz => ?_)
  refine st (s_assign rfl) rfl ?_
  refine st (s_assign rfl) rfl ?_
  refine Run.nil ?_
  refine pj_then ?_
  refine J_seq ?_
  refine J_seq ?_
  refine J_reg ?_
  refine st (s_move rfl) rfl ?_
  refine st (s_len rfl) rfl ?_
  refine st (s_sub rfl rfl (wrap_i64 (by omega) (by omega))) rfl ?_
  refine st (s_assign rfl) rfl ?_
  refine Run.nil ?_
  refine pj_then ?_
  refine J_block ?_
  refine J_sub (Γ' := [(0, _), (1, _), (4, _), (5, _), (6, _), (7, _), (8, _)]) (SubG.cons rfl (VT.le_refl _) (SubG.cons rfl (VT.le_refl _) (SubG.cons rfl (VT.le_refl _) (SubG.cons rfl (VT.le_refl _) (SubG.cons rfl (VT.le_refl _) (SubG.cons rfl (VT.le_refl _) (SubG.cons rfl (VT.le_refl _) (SubG.nil)))))))) (SubM.refl _) ?_
  refine J_loopA (σ := List Nat × Nat × Nat) (Γk := [(0, _), (1, _), (4, _), (5, _), (6, _)]) (SubG.cons rfl (VT.le_refl _) (SubG.cons rfl (VT.le_refl _) (SubG.cons rfl (VT.le_refl _) (SubG.cons rfl (VT.le_refl _) (SubG.cons rfl (VT.le_refl _) (SubG.nil)))))) (fun s => [(8, one (.int .i64 ((s.2.1 : Nat) - 1 : Int))), (7, one (.int .u64 (s.2.2 : Nat)))]) (fun s M0 => (M0.set 0 (sliO (some bz) 72 .one l.length l.length (fun q => one (.int .u32 (s.1.getD q 0 : Nat)))))) (fun s => ShortR l d s) (fun s => s.2.1) ((List.replicate l.length 0, l.length, 0)) (ShortR.start hd0) (by repeat (first | exact SubG.refl _ | exact SubG.nil | refine SubG.cons rfl (VT.le_refl _) ?_ | (refine SubG.cons rfl (one_le ?_) ?_; (congr 1; first | omega | (simp; omega) | simp)))) (.keep (sliO_eq (fun q _ => by rw [getD_replicate0]; rfl)) (.nil)) (fun s hs => ?_)
  refine J_norm (Γ' := [(8, _), (7, _), (0, _), (1, _), (4, _), (5, _), (6, _)]) (M' := [_]) rfl rfl ?_
  obtain ⟨z, n, r⟩ := s
  dsimp only at hs ⊢
  refine J_seq ?_
  refine J_seq ?_
  refine J_reg ?_
  refine st (s_move rfl) rfl ?_
  refine st (s_ge rfl rfl) rfl ?_
  refine Run.nil ?_
  refine pj_then ?_
  cases n with
  | zero =>
    obtain ⟨f1, f2⟩ := hs.finish
    have hlen : z.length = l.length := hs.len
    have hr : r < d := hs.r
    rw [← f1, ← f2]
    refine J_condF rfl (by omega) ?_
    refine J_exit ?_
    refine px_then ?_
    refine px_then ?_
    refine px_block ?_
    refine pj_then ?_
    refine J_seq ?_
    refine J_reg ?_
    refine st (s_move rfl) rfl ?_
    refine st (s_move rfl) rfl ?_
    refine st (s_toU32 rfl) rfl ?_
    refine st (s_assign rfl) rfl ?_
    refine st (s_assign rfl) rfl ?_
    refine Run.nil ?_
    refine pj_then ?_
    refine J_ret ?_
    refine PJ_freeze (t := 4) (i := 0) rfl rfl ?_
    refine retc2 Try.results83 (.tmp rfl (VT.le_trans (slT_le' (m := z.length) (ψ := fun i => one (.int .u32 (z.getD i 0 : Nat))) hlen.symm (fun q hq => rfl)) (natS_of (l := z) hs.lim rfl (by omega)))) (.tmp rfl (one_le (by congr 1; omega)))
  | succ n =>
    have hx := getD_lt hl n
    have hr : r < d := hs.r
    have hb := ShortR.bound hx hr hd
    have hst := hs.step hl hd
    have hn : n < l.length := hs.le
    have hzn : n < z.length := by have := hs.len; dsimp only at this; omega
    have en : ((n + 1 : Nat) : Int) - 1 = (n : Nat) := by omega
    rw [en]
    refine J_condT rfl (by omega) ?_
    refine J_skip ?_
    refine pj_then ?_
    refine J_seq ?_
    refine J_block ?_
    refine J_seq ?_
    refine J_reg ?_
    refine st (s_move rfl) rfl ?_
    refine st (s_mulU (b := 4294967296) rfl rfl (by omega)) rfl ?_
    refine st (s_move rfl) rfl ?_
    refine st (s_move rfl) rfl ?_
    refine st (s_indexIN rfl rfl (by omega)) rfl ?_
    refine st (s_load rfl) rfl ?_
    refine st (s_toU64 rfl (by omega)) rfl ?_
    refine st (s_addU rfl rfl (by omega)) rfl ?_
    refine st (s_assign rfl) rfl ?_
    refine Run.nil ?_
    refine pj_then ?_
    refine J_seq ?_
    refine J_reg ?_
    refine st (s_move rfl) rfl ?_
    refine st (s_move rfl) rfl ?_
    refine st (s_move rfl) rfl ?_
    refine st (s_move rfl) rfl ?_
    refine st (s_toU64 rfl (by omega)) rfl ?_
    refine st (s_quoU rfl rfl (by omega) (by omega)) rfl ?_
    refine st (s_toU32 rfl) rfl ?_
    refine st (s_indexON rfl rfl (by omega)) rfl ?_
    (refine a_storeE 0 rfl rfl rfl ?_ rfl ?_; omega)
    refine Run.nil ?_
    refine pj_then ?_
    refine J_reg ?_
    refine st (s_move rfl) rfl ?_
    refine st (s_move rfl) rfl ?_
    refine st (s_toU64 rfl (by omega)) rfl ?_
    refine st (s_remN _ rfl rfl rfl (by omega)) rfl ?_
    refine st (s_assign rfl) rfl ?_
    refine Run.nil ?_
    refine pn_block ?_
    refine pj_then ?_
    refine J_reg ?_
    refine st (s_move rfl) rfl ?_
    refine st (s_sub rfl rfl (wrap_i64 (by omega) (by omega))) rfl ?_
    refine st (s_assign rfl) rfl ?_
    refine Run.nil ?_
    refine pj_roundM ((z.set n ((r * 4294967296 + l.getD n 0) / d), n, (r * 4294967296 + l.getD n 0) % d)) (hst) (by (simp only []; omega)) (by repeat (first | exact SubG.refl _ | exact SubG.nil | refine SubG.cons rfl (VT.le_refl _) ?_ | (refine SubG.cons rfl (one_le ?_) ?_; (congr 1; first | omega | (simp; omega) | simp)))) (.keep (lim_set hzn (Nat.mod_eq_of_lt hb.2)) (.nil))
/-- The estimate of a quotient, plain. -/
def estN (r d : Nat) : Nat :=
  if (digs r).length = (digs d).length then max 1 ((digs r).getD ((digs r).length - 1) 0 / ((digs d).getD ((digs d).length - 1) 0 + 1))
  else (((digs r).getD ((digs r).length - 1) 0 * 4294967296 + (digs r).getD ((digs r).length - 2) 0) / ((digs d).getD ((digs d).length - 1) 0 + 1)) * 4294967296 ^ ((digs r).length - (digs d).length - 1)
theorem top_split {v : Nat} {n : Nat} (h : (digs v).length = n + 1) : v = lv ((digs v).take n) + 4294967296 ^ n * (digs v).getD n 0 ∧ lv ((digs v).take n) < 4294967296 ^ n := by
  have h1 := lv_take_succ (l := digs v) (k := n) (by omega)
  rw [List.take_of_length_le (by omega), lv_digs] at h1
  exact ⟨h1, by have := lv_take_lt (limbs_digs v) n; rwa [← pow32] at this⟩
theorem estN_pos {r d : Nat} (hd : d ≠ 0) (h : d ≤ r) : 0 < estN r d ∧ estN r d * d ≤ r := by
  have hlen := digs_len_le' h
  have hdl : (digs d).length ≠ 0 := fun k => hd (digs_nil k)
  obtain ⟨m, hm⟩ : ∃ m, (digs d).length = m + 1 := ⟨(digs d).length - 1, by omega⟩
  obtain ⟨e, he⟩ : ∃ e, (digs r).length = m + 1 + e := ⟨(digs r).length - (m + 1), by omega⟩
  have hdt := getD_lt (limbs_digs d) m
  obtain ⟨d1, d2⟩ := top_split hm
  unfold estN
  rw [hm, he]
  simp only [Nat.add_sub_cancel] at *
  generalize hx : (digs d).getD m 0 = x at *
  generalize lv ((digs d).take m) = dl at *
  have hdlt : d < 4294967296 ^ m * (x + 1) := by rw [Nat.mul_add]; omega
  cases e with
  | zero =>
    rw [if_pos rfl]
    obtain ⟨r1, r2⟩ := top_split he
    simp only [Nat.add_zero, Nat.add_sub_cancel] at *
    generalize (digs r).getD m 0 = y at *
    generalize lv ((digs r).take m) = rl at *
    refine ⟨by omega, ?_⟩
    rcases Nat.eq_zero_or_pos (y / (x + 1)) with hq | hq
    · rw [hq]; simpa using h
    · rw [Nat.max_eq_right hq]
      have h1 : y / (x + 1) * d ≤ y / (x + 1) * (4294967296 ^ m * (x + 1)) := Nat.mul_le_mul_left _ (Nat.le_of_lt hdlt)
      have h2 : y / (x + 1) * (4294967296 ^ m * (x + 1)) = 4294967296 ^ m * (y / (x + 1) * (x + 1)) := by rw [Nat.mul_left_comm]
      have h3 : 4294967296 ^ m * (y / (x + 1) * (x + 1)) ≤ 4294967296 ^ m * y := Nat.mul_le_mul_left _ (Nat.div_mul_le_self _ _)
      omega
  | succ e =>
    rw [if_neg (by omega)]
    rw [show m + 1 + (e + 1) - 1 = m + e + 1 by omega, show m + 1 + (e + 1) - 2 = m + e by omega, show m + 1 + (e + 1) - (m + 1) - 1 = e by omega]
    obtain ⟨r1, r2⟩ := top_split (show (digs r).length = (m + e + 1) + 1 by omega)
    have r3 := lv_take_succ (l := digs r) (k := m + e) (by omega)
    have hy0 : (digs r).getD (m + e + 1) 0 ≠ 0 := by
      intro hy
      have := digs_len_le (n := r) (k := m + e + 1) (by rw [hy, Nat.mul_zero, Nat.add_zero] at r1; rw [r1]; exact r2)
      omega
    generalize (digs r).getD (m + e + 1) 0 = y at *
    generalize (digs r).getD (m + e) 0 = y2 at *
    rw [r3] at r1
    generalize lv ((digs r).take (m + e)) = rl at *
    have hqp : 0 < (y * 4294967296 + y2) / (x + 1) := Nat.div_pos (by omega) (by omega)
    have hle := Nat.div_mul_le_self (y * 4294967296 + y2) (x + 1)
    generalize (y * 4294967296 + y2) / (x + 1) = q at *
    refine ⟨Nat.mul_pos hqp (Nat.pow_pos (by decide)), ?_⟩
    have h1 : q * 4294967296 ^ e * d ≤ q * 4294967296 ^ e * (4294967296 ^ m * (x + 1)) := Nat.mul_le_mul_left _ (Nat.le_of_lt hdlt)
    have h2 : q * 4294967296 ^ e * (4294967296 ^ m * (x + 1)) = 4294967296 ^ (m + e) * (q * (x + 1)) := by
      rw [Nat.pow_add]; ac_rfl
    have h3 : 4294967296 ^ (m + e) * (q * (x + 1)) ≤ 4294967296 ^ (m + e) * (y * 4294967296 + y2) := Nat.mul_le_mul_left _ hle
    have h4 : 4294967296 ^ (m + e + 1) * y = 4294967296 ^ (m + e) * (y * 4294967296) := by rw [Nat.pow_succ]; ac_rfl
    rw [Nat.mul_add (4294967296 ^ (m + e)) (y * 4294967296) y2] at h3
    rw [h4] at r1
    rw [h2] at h1
    generalize 4294967296 ^ (m + e) * (y * 4294967296) = z1 at *
    generalize 4294967296 ^ (m + e) * y2 = z2 at *
    refine Nat.le_trans h1 (Nat.le_trans h3 ?_)
    rw [r1]
    exact Nat.le_trans (Nat.add_comm z1 z2 ▸ Nat.le_refl _) (Nat.add_le_add_right (Nat.le_add_left _ _) _)
end Tor
end

section
set_option linter.unusedVariables false
set_option linter.unusedSimpArgs false
namespace Tor
open Go Go.RowKit Go.Proofs
theorem two_lit (a b : Nat) : VT.le (slT .one 2 (fun q => [one (.int .u32 (b : Int)), one (.int .u32 (a : Int))].reverse.getD q anyT)) (slT .one 2 (fun q => one (.int .u32 (([a, b].getD q 0 : Nat) : Int)))) :=
  slT_le' rfl (fun q hq => by
    match q, hq with
    | 0, _ => rfl
    | 1, _ => rfl)
theorem est_le {k q : Nat} (hq : q < 18446744073709551616) (hk : k ≤ 1099511627776) : VT.le (slT .one (k + 2) (fun p => if p < k then one (.int .u32 0) else (fun j => one (.int .u32 (([q % 4294967296, q / 4294967296 % 4294967296].getD j 0 : Nat) : Int))) (p - k))) (natS (q * 4294967296 ^ k)) :=
  VT.le_trans (slT_le' (m := (List.replicate k 0 ++ [q % 4294967296, q / 4294967296 % 4294967296]).length) (ψ := limF (List.replicate k 0 ++ [q % 4294967296, q / 4294967296 % 4294967296])) (by simp) (fun p hp => by
    unfold limF
    by_cases h : p < k
    · rw [if_pos h]; simp [List.getD, List.getElem?_append, h]
    · rw [if_neg h]; simp only [List.getD, List.getElem?_append, List.length_replicate, if_neg h])) (natS_of (fun d hd => by
      rcases List.mem_append.1 hd with h | h
      · rw [(List.mem_replicate.1 h).2]; decide
      · rcases List.mem_cons.1 h with rfl | h
        · exact Nat.mod_lt _ (by decide)
        · rw [List.mem_singleton.1 h]; exact Nat.mod_lt _ (by decide)) (by
      rw [lv_append, lv_replicate, List.length_replicate, Nat.zero_add, Nat.mul_comm]
      congr 1
      simp only [lv]
      omega) (by simp; omega))
attribute [local irreducible] Tor.J Tor.PJ Tor.StepO Tor.one Tor.slT Tor.ptrT Tor.aggT Tor.tupT Tor.exT Tor.andT Tor.gT Tor.eP Tor.boxO Tor.sliO Tor.slV Tor.VT.le Tor.Ret Tor.anyT
set_option maxHeartbeats 4000000 in
theorem estimate_ok (r d : Nat) (hd : d ≠ 0) (h : d ≤ r) (hl : (digs r).length ≤ 1099511627776) : Ok Try.prog 84 [limT (digs r), limT (digs d)] (bigT ((estN r d : Nat) : Int)) := by
  have hlen := digs_len_le' h
  have hdl : (digs d).length ≠ 0 := fun k => hd (digs_nil k)
  have hx := getD_lt (limbs_digs d) ((digs d).length - 1)
  have hy := getD_lt (limbs_digs r) ((digs r).length - 1)
  have hz := getD_lt (limbs_digs r) ((digs r).length - 2)
  unfold estN
  refine Ok.enter Try.func84 rfl Try.ntmps84 rfl (fun w O => ?_)
  by_cases hk : (digs r).length = (digs d).length
  · rw [if_pos hk]
    refine J_seq ?_
    refine J_reg ?_
    refine a_alloc (T := 29) rfl (ltN rfl) (fun b4 => ?_)
    refine Run.nil ?_
    refine pj_then ?_
    refine J_seq ?_
    refine J_regd 17 mixed (by kernel_rfl) (by decide) ?_
    refine st (s_move rfl) rfl ?_
    refine st (s_len rfl) rfl ?_
    refine st (s_move rfl) rfl ?_
    refine st (s_len rfl) rfl ?_
    refine st (s_subN _ _ rfl rfl (by omega) (by omega)) rfl ?_
    refine st (s_move rfl) rfl ?_
    refine st (s_len rfl) rfl ?_
    refine st (s_move rfl) rfl ?_
    refine st (s_move rfl) rfl ?_
    refine st (s_len rfl) rfl ?_
    refine st (s_subN _ 1 rfl rfl (by omega) (by omega)) rfl ?_
    refine st (s_indexIN rfl rfl (by omega)) rfl ?_
    refine st (s_load rfl) rfl ?_
    refine st (s_toU64 rfl (by omega)) rfl ?_
    refine st (s_addU (b := 1) rfl rfl (by omega)) rfl ?_
    refine st (s_assign rfl) rfl ?_
    refine st (s_assign rfl) rfl ?_
    refine Run.nil ?_
    refine st (s_assign rfl) rfl ?_
    refine Run.nil ?_
    refine pj_then ?_
    refine J_seq ?_
    refine J_seq ?_
    refine J_reg ?_
    refine st (s_move rfl) rfl ?_
    refine st (sT (by omega) (s_eq rfl rfl)) rfl ?_
    refine Run.nil ?_
    refine pj_then ?_
    refine J_cond1 rfl ?_
    refine J_seq ?_
    refine J_reg ?_
    refine st (s_move rfl) rfl ?_
    refine st (s_move rfl) rfl ?_
    refine st (s_subN _ 1 rfl rfl (by omega) (by omega)) rfl ?_
    refine st (s_indexIN rfl rfl (by omega)) rfl ?_
    refine st (s_load rfl) rfl ?_
    refine st (s_toU64 rfl (by omega)) rfl ?_
    refine st (s_move rfl) rfl ?_
    refine st (s_quoU rfl rfl (by omega) (by omega)) rfl ?_
    refine st (s_max rfl rfl) rfl ?_
    have hq := Nat.div_le_self ((digs r).getD ((digs r).length - 1) 0) ((digs d).getD ((digs d).length - 1) 0 + 1)
    generalize (digs r).getD ((digs r).length - 1) 0 / ((digs d).getD ((digs d).length - 1) 0 + 1) = q at *
    refine st (s_toI64 rfl (by omega) (by omega)) rfl ?_
    refine st (s_callk (rOf_ok _ (by omega) (by omega)) rfl ⟨VT.le_refl _, trivial⟩) rfl ?_
    refine a_storeB 0 rfl rfl rfl rfl rfl (leN rfl) rfl ?_
    refine Run.nil ?_
    refine pj_then ?_
    refine J_ret ?_
    refine pr_then ?_
    refine retc1 Try.results84 (.cellB 0 rfl rfl rfl (bigT_eq (by omega)))
  · rw [if_neg hk]
    refine J_seq ?_
    refine J_reg ?_
    refine a_alloc (T := 29) rfl (ltN rfl) (fun b4 => ?_)
    refine Run.nil ?_
    refine pj_then ?_
    refine J_seq ?_
    refine J_regd 17 mixed (by kernel_rfl) (by decide) ?_
    refine st (s_move rfl) rfl ?_
    refine st (s_len rfl) rfl ?_
    refine st (s_move rfl) rfl ?_
    refine st (s_len rfl) rfl ?_
    refine st (s_subN _ _ rfl rfl (by omega) (by omega)) rfl ?_
    refine st (s_move rfl) rfl ?_
    refine st (s_len rfl) rfl ?_
    refine st (s_move rfl) rfl ?_
    refine st (s_move rfl) rfl ?_
    refine st (s_len rfl) rfl ?_
    refine st (s_subN _ 1 rfl rfl (by omega) (by omega)) rfl ?_
    refine st (s_indexIN rfl rfl (by omega)) rfl ?_
    refine st (s_load rfl) rfl ?_
    refine st (s_toU64 rfl (by omega)) rfl ?_
    refine st (s_addU (b := 1) rfl rfl (by omega)) rfl ?_
    refine st (s_assign rfl) rfl ?_
    refine st (s_assign rfl) rfl ?_
    refine Run.nil ?_
    refine st (s_assign rfl) rfl ?_
    refine Run.nil ?_
    refine pj_then ?_
    refine J_seq ?_
    refine J_seq ?_
    refine J_reg ?_
    refine st (s_move rfl) rfl ?_
    refine st (sF (by omega) (s_eq rfl rfl)) rfl ?_
    refine Run.nil ?_
    refine pj_then ?_
    refine J_cond0 rfl ?_
    refine J_skip ?_
    refine pj_then ?_
    refine J_seq ?_
    refine J_regd 16 mixed (by kernel_rfl) (by decide) ?_
    refine st (s_move rfl) rfl ?_
    refine st (s_move rfl) rfl ?_
    refine st (s_subN _ 1 rfl rfl (by omega) (by omega)) rfl ?_
    refine st (s_indexIN rfl rfl (by omega)) rfl ?_
    refine st (s_load rfl) rfl ?_
    refine st (s_toU64 rfl (by omega)) rfl ?_
    refine st (s_mulU (b := 4294967296) rfl rfl (by omega)) rfl ?_
    refine st (s_move rfl) rfl ?_
    refine st (s_move rfl) rfl ?_
    refine st (s_subN _ 2 rfl rfl (by omega) (by omega)) rfl ?_
    refine st (s_indexIN rfl rfl (by omega)) rfl ?_
    refine st (s_load rfl) rfl ?_
    refine st (s_toU64 rfl (by omega)) rfl ?_
    refine st (s_addU rfl rfl (by omega)) rfl ?_
    refine st (s_move rfl) rfl ?_
    refine st (s_quoU rfl rfl (by omega) (by omega)) rfl ?_
    refine Run.nil ?_
    refine st (s_assign rfl) rfl ?_
    refine Run.nil ?_
    refine pj_then ?_
    refine J_seq ?_
    refine J_reg ?_
    refine st (s_move rfl) rfl ?_
    refine st (s_subN _ 1 rfl rfl (by omega) (by omega)) rfl ?_
    have hq := Nat.div_le_self ((digs r).getD ((digs r).length - 1) 0 * 4294967296 + (digs r).getD ((digs r).length - 2) 0) ((digs d).getD ((digs d).length - 1) 0 + 1)
    generalize ((digs r).getD ((digs r).length - 1) 0 * 4294967296 + (digs r).getD ((digs r).length - 2) 0) / ((digs d).getD ((digs d).length - 1) 0 + 1) = q at *
    obtain ⟨k, hkk⟩ : ∃ k, k = (digs r).length - (digs d).length - 1 := ⟨_, rfl⟩
    rw [← hkk]
    refine a_makeSlice k k rfl rfl rfl rfl (Nat.le_refl _) rfl rfl (by omega) rfl rfl (fun bz => ?_)
    refine st (s_assign rfl) rfl ?_
    refine Run.nil ?_
    refine pj_then ?_
    refine J_seq ?_
    refine J_reg ?_
    refine st (s_move rfl) rfl ?_
    refine st (s_move rfl) rfl ?_
    refine st (s_toU32 rfl) rfl ?_
    refine st (s_move rfl) rfl ?_
    refine st (s_shr32 rfl) rfl ?_
    refine st (s_toU32 rfl) rfl ?_
    refine stS rfl rfl rfl rfl ?_
    refine PartsK.cons rfl ?_
    refine PartsK.cons rfl ?_
    refine PartsK.nil ?_
    refine Run_retype (t := 63) rfl (two_lit _ _) ?_
    (refine a_append 0 rfl rfl rfl (leN rfl) ?_ ?_ rfl (ltN rfl) (fun sv64 cap64 => ?_); omega; omega)
    refine Run_freeze (t := 64) (j := 0) rfl rfl ?_
    have hq64 : q < 18446744073709551616 := by omega
    have hmd := rMade_ok false (q * 4294967296 ^ k)
    rw [if_neg (by decide)] at hmd
    refine st (s_callk (hmd ) rfl ⟨(est_le hq64 (by omega)), VT.le_refl _, trivial⟩) rfl ?_
    refine a_storeB 0 rfl rfl rfl rfl rfl (leN rfl) rfl ?_
    refine Run.nil ?_
    refine pj_then ?_
    refine J_ret ?_
    refine retc1 Try.results84 (.cellB 0 rfl rfl rfl (bigT_eq (by rw [hkk])))
theorem one_natS {d : Nat} (hd : d < 4294967296) : VT.le (slT .one 1 fun _ => one (.int .u32 (d : Int))) (natS d) :=
  VT.le_trans (slT_le' (m := [d].length) (ψ := limF [d]) rfl (fun q hq => by
    have hq : q = 0 := by omega
    subst hq; rfl)) (natS_of (fun x hx => by rw [List.mem_singleton.1 hx]; exact hd) (by simp [lv]) (by simp))
theorem topd_pos {b : Nat} (hb : b ≠ 0) : 0 < (digs b).getD ((digs b).length - 1) 0 := by
  have hdl : (digs b).length ≠ 0 := fun k => hb (digs_nil k)
  obtain ⟨m, hm⟩ : ∃ m, (digs b).length = m + 1 := ⟨(digs b).length - 1, by omega⟩
  obtain ⟨d1, d2⟩ := top_split hm
  rw [hm, Nat.add_sub_cancel]
  rcases Nat.eq_zero_or_pos ((digs b).getD m 0) with h | h
  · rw [h, Nat.mul_zero, Nat.add_zero] at d1
    have := digs_len_le (n := b) (k := m) (by rw [d1]; exact d2)
    omega
  · exact h
theorem scaled_len {a s : Nat} (hs : s < 4294967296) : (digs (a * s)).length ≤ (digs a).length + 1 := digs_len_le (by
  rw [Nat.pow_succ]
  have h1 := lt_of_digs_len a
  rcases Nat.eq_zero_or_pos s with h | h
  · subst h; rw [Nat.mul_zero]; exact Nat.mul_pos (Nat.pow_pos (by decide)) (by decide)
  · exact Nat.mul_lt_mul'' h1 hs)
theorem scaled {a b s q r : Nat} (hs : 0 < s) (hb : 0 < b) (h : q * (b * s) + r = a * s) (hr : r < b * s) : q = a / b ∧ r / s = a % b := by
  have h1 : (a * s) / (b * s) = q := by rw [← h, Nat.mul_comm q, Nat.mul_add_div (by omega), Nat.div_eq_of_lt hr, Nat.add_zero]
  have h2 : (a * s) % (b * s) = r := by rw [← h, Nat.mul_comm q, Nat.mul_add_mod, Nat.mod_eq_of_lt hr]
  rw [Nat.mul_div_mul_right _ _ hs] at h1
  rw [Nat.mul_mod_mul_right] at h2
  exact ⟨h1.symm, by rw [← h2, Nat.mul_div_cancel _ hs]⟩
set_option maxHeartbeats 4000000 in
theorem rdivide_ok (a b : Nat) (hb : b ≠ 0) (ha : (digs a).length ≤ 1099511627700) (hbl : (digs b).length ≤ 1099511627700) : Ok Try.prog 62 [limT (digs a), limT (digs b)] (tupT [bigT ((a / b : Nat) : Int), bigT ((a % b : Nat) : Int)]) := by
  have hbp : 0 < b := by omega
  have hdl : (digs b).length ≠ 0 := fun k => hb (digs_nil k)
  refine Ok.enter Try.func62 rfl Try.ntmps62 rfl (fun w O => ?_)
  by_cases h1 : (digs b).length = 1
  · have hb1 := one_limb h1
    have hd := getD_lt (limbs_digs b) 0
    have hsh := rshort_ok (digs a) b (limbs_digs a) (by omega) (by omega) (by omega)
    rw [lv_digs] at hsh
    have hr := Nat.mod_lt a hbp
    have hm1 := rMade_ok false (a / b)
    have hm2 := rMade_ok false (a % b)
    rw [if_neg (by decide)] at hm1 hm2
    refine J_seq ?_
    refine J_reg ?_
    refine a_alloc (T := 29) rfl (ltN rfl) (fun b4 => ?_)
    refine a_alloc (T := 29) rfl (ltN rfl) (fun b5 => ?_)
    refine Run.nil ?_
    refine pj_then ?_
    refine J_seq ?_
    refine J_seq ?_
    refine J_reg ?_
    refine st (s_move rfl) rfl ?_
    refine st (s_len rfl) rfl ?_
    refine st (sT (by omega) (s_eq rfl rfl)) rfl ?_
    refine Run.nil ?_
    refine pj_then ?_
    refine J_cond1 rfl ?_
    refine J_seq ?_
    refine J_reg ?_
    refine st (s_move rfl) rfl ?_
    refine st (s_move rfl) rfl ?_
    refine st (s_indexI rfl rfl (by omega) (by omega)) rfl ?_
    refine st (s_load rfl) rfl ?_
    refine st (s_callk (hsh ) rfl ⟨VT.le_refl _, (one_le (by rw [show (digs b).getD (Int.toNat 0) 0 = b from hb1])), trivial⟩) rfl ?_
    refine st (s_move rfl) rfl ?_
    refine st (s_extract rfl rfl) rfl ?_
    refine st (s_extract rfl rfl) rfl ?_
    refine st (s_assign rfl) rfl ?_
    refine st (s_assign rfl) rfl ?_
    refine Run.nil ?_
    refine pj_then ?_
    refine J_seq ?_
    refine J_reg ?_
    refine st (s_move rfl) rfl ?_
    refine st (s_callk (hm1 ) rfl ⟨VT.le_refl _, VT.le_refl _, trivial⟩) rfl ?_
    refine st (s_move rfl) rfl ?_
    refine stS1 rfl rfl rfl rfl ?_
    refine st (s_callk (hm2 ) rfl ⟨(one_natS (by omega)), VT.le_refl _, trivial⟩) rfl ?_
    refine a_storeB 1 rfl rfl rfl rfl rfl (leN rfl) rfl ?_
    refine a_storeB 0 rfl rfl rfl rfl rfl (leN rfl) rfl ?_
    refine Run.nil ?_
    refine pj_then ?_
    refine J_ret ?_
    refine pr_then ?_
    refine retc2 Try.results62 (.cellB 1 rfl rfl rfl (VT.le_refl _)) (.cellB 0 rfl rfl rfl (VT.le_refl _))
  · have hx := getD_lt (limbs_digs b) ((digs b).length - 1)
    have hx0 := topd_pos hb
    refine J_seq ?_
    refine J_reg ?_
    refine a_alloc (T := 29) rfl (ltN rfl) (fun b4 => ?_)
    refine a_alloc (T := 29) rfl (ltN rfl) (fun b5 => ?_)
    refine Run.nil ?_
    refine pj_then ?_
    refine J_seq ?_
    refine J_seq ?_
    refine J_reg ?_
    refine st (s_move rfl) rfl ?_
    refine st (s_len rfl) rfl ?_
    refine st (sF (by omega) (s_eq rfl rfl)) rfl ?_
    refine Run.nil ?_
    refine pj_then ?_
    refine J_cond0 rfl ?_
    refine J_skip ?_
    refine pj_then ?_
    refine J_seq ?_
    refine J_reg ?_
    refine st (s_assign rfl) rfl ?_
    refine Run.nil ?_
    refine pj_then ?_
    refine J_seq ?_
    refine J_block ?_
    refine J_sub (Γ' := [(0, _), (1, _), (4, _), (5, _), (8, _)]) (SubG.cons rfl (VT.le_refl _) (SubG.cons rfl (VT.le_refl _) (SubG.cons rfl (VT.le_refl _) (SubG.cons rfl (VT.le_refl _) (SubG.cons rfl (VT.le_refl _) (SubG.nil)))))) (SubM.refl _) ?_
    refine J_loopA (σ := Nat) (Γk := [(0, _), (1, _), (4, _), (5, _)]) (SubG.cons rfl (VT.le_refl _) (SubG.cons rfl (VT.le_refl _) (SubG.cons rfl (VT.le_refl _) (SubG.cons rfl (VT.le_refl _) (SubG.nil))))) (fun s => [(8, one (.int .u32 (s : Nat)))]) (fun s M0 => M0) (fun s => 0 < s ∧ s < 4294967296) (fun s => 4294967296 - s) (1) (⟨by decide, by decide⟩) (by repeat (first | exact SubG.refl _ | exact SubG.nil | refine SubG.cons rfl (VT.le_refl _) ?_ | (refine SubG.cons rfl (one_le ?_) ?_; (congr 1; first | omega | (simp; omega) | simp)))) (.keep (Own.le_refl _) (.keep (Own.le_refl _) (.nil))) (fun s hs => ?_)
    refine J_norm (Γ' := [(8, _), (0, _), (1, _), (4, _), (5, _)]) (M' := [_, _]) rfl rfl ?_
    obtain ⟨s0, s1⟩ := hs
    have hb1 := Nat.mul_le_mul (show (digs b).getD ((digs b).length - 1) 0 ≤ 4294967295 by omega) (show s ≤ 4294967295 by omega)
    have hb2 := Nat.mul_le_mul_right s hx0
    by_cases hc : (digs b).getD ((digs b).length - 1) 0 * s < 2147483648
    · refine J_seq ?_
      refine J_seq ?_
      refine J_reg ?_
      refine st (s_move rfl) rfl ?_
      refine st (s_move rfl) rfl ?_
      refine st (s_len rfl) rfl ?_
      refine st (s_subN _ 1 rfl rfl (by omega) (by omega)) rfl ?_
      refine st (s_indexIN rfl rfl (by omega)) rfl ?_
      refine st (s_load rfl) rfl ?_
      refine st (s_toU64 rfl (by omega)) rfl ?_
      refine st (s_move rfl) rfl ?_
      refine st (s_toU64 rfl (by omega)) rfl ?_
      refine st (s_mulU rfl rfl (by omega)) rfl ?_
      refine st (sT (by omega) (s_lt rfl rfl)) rfl ?_
      refine Run.nil ?_
      refine pj_then ?_
      refine J_cond1 rfl ?_
      refine J_skip ?_
      refine pj_then ?_
      refine J_block ?_
      refine J_reg ?_
      refine st (s_move rfl) rfl ?_
      refine st (s_mulW (a := 2) rfl rfl (by omega)) rfl ?_
      refine st (s_assign rfl) rfl ?_
      refine Run.nil ?_
      refine pn_block ?_
      refine pj_roundM (2 * s) (⟨by omega, by omega⟩) (by omega) (by repeat (first | exact SubG.refl _ | exact SubG.nil | refine SubG.cons rfl (VT.le_refl _) ?_ | (refine SubG.cons rfl (one_le ?_) ?_; (congr 1; first | omega | (simp; omega) | simp)))) (.keep (Own.le_refl _) (.keep (Own.le_refl _) (.nil)))
    · have hma := rMade_ok false a
      have hmb := rMade_ok false b
      have hms := rMade_ok false s
      rw [if_neg (by decide)] at hma hmb hms
      have la := scaled_len (a := a) s1
      have lb := scaled_len (a := b) s1
      have ls : small ((s : Nat) : Int) := small_lt (by rw [Int.natAbs_natCast]; exact Nat.lt_trans s1 (by decide +kernel))
      have hMa := rMulI_ok (a : Int) (s : Int) (show (digs a).length ≤ _ by omega) ls
      have hMb := rMulI_ok (b : Int) (s : Int) (show (digs b).length ≤ _ by omega) ls
      rw [← Int.natCast_mul] at hMa hMb
      refine J_seq ?_
      refine J_seq ?_
      refine J_reg ?_
      refine st (s_move rfl) rfl ?_
      refine st (s_move rfl) rfl ?_
      refine st (s_len rfl) rfl ?_
      refine st (s_subN _ 1 rfl rfl (by omega) (by omega)) rfl ?_
      refine st (s_indexIN rfl rfl (by omega)) rfl ?_
      refine st (s_load rfl) rfl ?_
      refine st (s_toU64 rfl (by omega)) rfl ?_
      refine st (s_move rfl) rfl ?_
      refine st (s_toU64 rfl (by omega)) rfl ?_
      refine st (s_mulU rfl rfl (by omega)) rfl ?_
      refine st (sF (by omega) (s_lt rfl rfl)) rfl ?_
      refine Run.nil ?_
      refine pj_then ?_
      refine J_cond0 rfl ?_
      refine J_exit ?_
      refine px_then ?_
      refine px_then ?_
      refine px_block ?_
      refine pj_then ?_
      refine J_seq ?_
      refine J_reg ?_
      refine st (s_move rfl) rfl ?_
      refine stS1 rfl rfl rfl rfl ?_
      refine st (s_callk (hms ) rfl ⟨(one_natS s1), VT.le_refl _, trivial⟩) rfl ?_
      refine a_alloc (T := 29) rfl (ltN rfl) (fun b9 => ?_)
      refine a_storeB 0 rfl rfl rfl rfl rfl (leN rfl) rfl ?_
      refine Run.nil ?_
      refine pj_then ?_
      refine J_seq ?_
      refine J_regU2 mixed (by kernel_rfl) (by kernel_rfl) ?_
      refine ux (fun B => s_move rfl) rfl rfl ?_
      refine uxk (hma ) rfl ⟨(natS_digs (by omega)), VT.le_refl _, trivial⟩ rfl ?_
      refine ux (fun B => s_loadB 0 rfl rfl rfl) rfl rfl ?_
      refine uxk (hMa ) rfl ⟨VT.le_refl _, VT.le_refl _, trivial⟩ rfl ?_
      refine ux (fun B => s_move rfl) rfl rfl ?_
      refine uxk (hmb ) rfl ⟨(natS_digs (by omega)), VT.le_refl _, trivial⟩ rfl ?_
      refine ux (fun B => s_loadB 0 rfl rfl rfl) rfl rfl ?_
      refine uxk (hMb ) rfl ⟨VT.le_refl _, VT.le_refl _, trivial⟩ rfl ?_
      refine uB rfl rfl rfl ?_
      refine BuildK.nil ?_
      refine ua rfl ?_
      refine ua rfl ?_
      refine ua rfl ?_
      refine us rfl ?_
      refine us rfl ?_
      refine us rfl ?_
      refine RunU.nil (fun γ => ?_)
      refine PJ_normM (M' := [_, _, _, _, _, _]) rfl ?_
      refine PJ_sub (SubG.refl _) (.keep box_flat (.keep (Own.le_refl _) (.keep (Own.le_refl _) (SubM.refl _)))) ?_
      refine pj_then ?_
      refine J_seq ?_
      refine J_block ?_
      have hbs : 0 < b * s := Nat.mul_pos hbp s0
      refine J_sub (Γ' := [(4, _), (5, _), (8, _), (10, _), (11, _), (12, _)]) (SubG.cons rfl (VT.le_refl _) (SubG.cons rfl (VT.le_refl _) (SubG.cons rfl (VT.le_refl _) (SubG.cons rfl (VT.le_refl _) (SubG.cons rfl (VT.le_refl _) (SubG.cons rfl (VT.le_refl _) (SubG.nil))))))) (SubM.refl _) ?_
      refine J_loopA (σ := Nat × Nat) (Γk := [(4, _), (5, _), (8, _), (10, _), (11, _), (12, _)]) (SubG.cons rfl (VT.le_refl _) (SubG.cons rfl (VT.le_refl _) (SubG.cons rfl (VT.le_refl _) (SubG.cons rfl (VT.le_refl _) (SubG.cons rfl (VT.le_refl _) (SubG.cons rfl (VT.le_refl _) (SubG.nil))))))) (fun p => []) (fun p M0 => ((M0.set 0 (boxO (γ 12) 29 (Lay.agg 2).sz [(0, Lay.agg 2, bigT (p.1 : Int))])).set 2 (boxO (γ 10) 29 (Lay.agg 2).sz [(0, Lay.agg 2, bigT (p.2 : Int))]))) (fun p => p.1 * (b * s) + p.2 = a * s) (fun p => p.2) ((0, a * s)) ((by simp)) (by repeat (first | exact SubG.refl _ | exact SubG.nil | refine SubG.cons rfl (VT.le_refl _) ?_ | (refine SubG.cons rfl (one_le ?_) ?_; (congr 1; first | omega | (simp; omega) | simp)))) (.keep (box_agg bigT_zero) (.keep (Own.le_refl _) (.keep (Own.le_refl _) (.keep (Own.le_refl _) (.keep (Own.le_refl _) (.keep (Own.le_refl _) (.nil))))))) (fun p hp => ?_)
      refine J_norm (Γ' := [(4, _), (5, _), (8, _), (10, _), (11, _), (12, _)]) (M' := [_, _, _, _, _, _]) rfl rfl ?_
      obtain ⟨q, r⟩ := p
      dsimp only at hp ⊢
      have hle := rless_ok r (b * s)
      by_cases hr : r < b * s
      · obtain ⟨f1, f2⟩ := scaled s0 hbp hp hr
        have lr : (digs r).length ≤ 1099511627776 := by
          have := digs_len_le' (show r ≤ a * s by omega)
          omega
        have hsh := rshort_ok (digs r) s (limbs_digs r) lr s0 s1
        rw [lv_digs, f2] at hsh
        have hm2 := rMade_ok false (a % b)
        rw [if_neg (by decide)] at hm2
        refine J_seq ?_
        refine J_seq ?_
        refine J_reg ?_
        refine st (s_fieldAddr rfl) rfl ?_
        refine st (s_loadBP 2 0 1 rfl rfl rfl rfl rfl) rfl ?_
        refine st (s_fieldAddr rfl) rfl ?_
        refine st (s_loadBP 1 0 1 rfl rfl rfl rfl rfl) rfl ?_
        refine st (sT (by assumption) (s_callk (hle ) rfl ⟨VT.le_refl _, VT.le_refl _, trivial⟩)) rfl ?_
        refine st (s_not rfl) rfl ?_
        refine Run.nil ?_
        refine pj_then ?_
        refine J_cond0 rfl ?_
        refine J_exit ?_
        refine px_then ?_
        refine px_then ?_
        refine px_block ?_
        refine pj_then ?_
        refine J_seq ?_
        refine J_reg ?_
        refine st (s_fieldAddr rfl) rfl ?_
        refine st (s_loadBP 2 0 1 rfl rfl rfl rfl rfl) rfl ?_
        refine st (s_move rfl) rfl ?_
        refine st (s_callk (hsh ) rfl ⟨VT.le_refl _, VT.le_refl _, trivial⟩) rfl ?_
        refine st (s_move rfl) rfl ?_
        refine st (s_extract rfl rfl) rfl ?_
        refine st (s_extract rfl rfl) rfl ?_
        refine st (s_assign rfl) rfl ?_
        refine st (s_assign rfl) rfl ?_
        refine Run.nil ?_
        refine pj_then ?_
        refine J_seq ?_
        refine J_regdT 3 mixed (by kernel_rfl) (by decide) ?_
        refine st (s_loadB 0 rfl rfl rfl) rfl ?_
        refine st (s_move rfl) rfl ?_
        refine st (s_callk (hm2 ) rfl ⟨VT.le_refl _, VT.le_refl _, trivial⟩) rfl ?_
        refine Run.nil ?_
        refine a_storeB 5 rfl rfl rfl rfl rfl (leN rfl) rfl ?_
        refine a_storeB 4 rfl rfl rfl rfl rfl (leN rfl) rfl ?_
        refine Run.nil ?_
        refine pj_then ?_
        refine J_ret ?_
        refine retc2 Try.results62 (.cellB 5 rfl rfl rfl (bigT_eq (by rw [f1]))) (.cellB 4 rfl rfl rfl (VT.le_refl _))
      · have lr : (digs r).length ≤ 1099511627776 := by
          have := digs_len_le' (show r ≤ a * s by omega)
          omega
        obtain ⟨e0, e1⟩ := estN_pos (show b * s ≠ 0 by omega) (Nat.le_of_not_lt hr)
        have hes := estimate_ok r (b * s) (by omega) (Nat.le_of_not_lt hr) lr
        generalize estN r (b * s) = e at *
        have hq0 : q ≤ q * (b * s) := Nat.le_mul_of_pos_right _ hbs
        have he0 : e ≤ e * (b * s) := Nat.le_mul_of_pos_right _ hbs
        have le0 : small (e : Int) := Nat.le_trans (digs_len_le' (show (e : Int).natAbs ≤ r by omega)) lr
        have lq0 : small (q : Int) := Nat.le_trans (digs_len_le' (show (q : Int).natAbs ≤ a * s by omega)) (by omega)
        have lbs : small ((b * s : Nat) : Int) := Nat.le_trans (digs_len_le' (show ((b * s : Nat) : Int).natAbs ≤ b * s by omega)) (by omega)
        have lrs : small (r : Int) := Nat.le_trans (digs_len_le' (show (r : Int).natAbs ≤ r by omega)) lr
        have les : small ((e * (b * s) : Nat) : Int) := Nat.le_trans (digs_len_le' (show ((e * (b * s) : Nat) : Int).natAbs ≤ r by omega)) lr
        have hmu := rMulI_ok (e : Int) ((b * s : Nat) : Int) le0 lbs
        rw [← Int.natCast_mul] at hmu
        have hsu := rSubI_ok (r : Int) ((e * (b * s) : Nat) : Int) lrs les
        rw [← Int.ofNat_sub e1] at hsu
        have had := rAddI_ok (q : Int) (e : Int) lq0 le0
        rw [← Int.natCast_add] at had
        refine J_seq ?_
        refine J_seq ?_
        refine J_reg ?_
        refine st (s_fieldAddr rfl) rfl ?_
        refine st (s_loadBP 2 0 1 rfl rfl rfl rfl rfl) rfl ?_
        refine st (s_fieldAddr rfl) rfl ?_
        refine st (s_loadBP 1 0 1 rfl rfl rfl rfl rfl) rfl ?_
        refine st (sF (by assumption) (s_callk (hle ) rfl ⟨VT.le_refl _, VT.le_refl _, trivial⟩)) rfl ?_
        refine st (s_not rfl) rfl ?_
        refine Run.nil ?_
        refine pj_then ?_
        refine J_cond1 rfl ?_
        refine J_skip ?_
        refine pj_then ?_
        refine J_block ?_
        refine J_seq ?_
        refine J_reg ?_
        refine st (s_fieldAddr rfl) rfl ?_
        refine st (s_loadBP 2 0 1 rfl rfl rfl rfl rfl) rfl ?_
        refine st (s_fieldAddr rfl) rfl ?_
        refine st (s_loadBP 1 0 1 rfl rfl rfl rfl rfl) rfl ?_
        refine st (s_callk (hes ) rfl ⟨VT.le_refl _, VT.le_refl _, trivial⟩) rfl ?_
        refine a_alloc (T := 29) rfl (ltN rfl) (fun b13 => ?_)
        refine a_storeB 0 rfl rfl rfl rfl rfl (leN rfl) rfl ?_
        refine Run.nil ?_
        refine pj_then ?_
        refine J_seq ?_
        refine J_reg ?_
        refine st (s_loadB 1 rfl rfl rfl) rfl ?_
        refine st (s_loadB 0 rfl rfl rfl) rfl ?_
        refine st (s_callk (had ) rfl ⟨VT.le_refl _, VT.le_refl _, trivial⟩) rfl ?_
        refine a_storeB 1 rfl rfl rfl rfl rfl (leN rfl) rfl ?_
        refine Run.nil ?_
        refine pj_then ?_
        refine J_regd 5 mixed (by kernel_rfl) (by decide) ?_
        refine st (s_loadB 3 rfl rfl rfl) rfl ?_
        refine st (s_loadB 0 rfl rfl rfl) rfl ?_
        refine st (s_loadB 2 rfl rfl rfl) rfl ?_
        refine st (s_callk (hmu ) rfl ⟨VT.le_refl _, VT.le_refl _, trivial⟩) rfl ?_
        refine st (s_callk (hsu ) rfl ⟨VT.le_refl _, VT.le_refl _, trivial⟩) rfl ?_
        refine Run.nil ?_
        refine a_storeB 3 rfl rfl rfl rfl rfl (leN rfl) rfl ?_
        refine Run.nil ?_
        refine pn_block ?_
        refine pj_roundM ((q + e, r - e * (b * s))) ((by dsimp only; rw [Nat.add_mul]; omega)) (by omega) (by repeat (first | exact SubG.refl _ | exact SubG.nil | refine SubG.cons rfl (VT.le_refl _) ?_ | (refine SubG.cons rfl (one_le ?_) ?_; (congr 1; first | omega | (simp; omega) | simp)))) (.drop (.keep (Own.le_refl _) (.keep (Own.le_refl _) (.keep (Own.le_refl _) (.keep (Own.le_refl _) (.keep (Own.le_refl _) (.keep (Own.le_refl _) (.nil))))))))
end Tor
end

section
set_option linter.unusedVariables false
set_option linter.unusedSimpArgs false
namespace Tor
open Go Go.RowKit Go.Proofs
/-- A number that is not too long, with room. -/
def small0 (x : Int) : Prop := (digs x.natAbs).length ≤ 1099511627700
theorem small0_lt {x : Int} (h : x.natAbs < 2 ^ 2048) : small0 x := by
  have : (digs x.natAbs).length ≤ 64 := digs_len_le (Nat.lt_of_lt_of_le h (by decide +kernel))
  unfold small0; omega
theorem small0.small {x : Int} (h : small0 x) : small x := by unfold small0 at h; unfold Tor.small; omega
theorem small0_abs {x y : Int} (h : small0 y) (hl : x.natAbs ≤ y.natAbs) : small0 x := Nat.le_trans (digs_len_le' hl) h
theorem small_abs' {x y : Int} (h : small y) (hl : x.natAbs ≤ y.natAbs) : small x := Nat.le_trans (digs_len_le' hl) h
theorem digs_len_succ (n : Nat) : (digs (n + 1)).length ≤ (digs n).length + 1 := digs_len_le (by
  have h := lt_of_digs_len n
  rw [Nat.pow_succ]
  have h0 : 0 < 4294967296 ^ (digs n).length := Nat.pow_pos (by decide)
  generalize 4294967296 ^ (digs n).length = z at *
  omega)
theorem gcd_step (x y : Int) : Nat.gcd y.natAbs (x % y).natAbs = Nat.gcd x.natAbs y.natAbs := by
  have h : Int.gcd y (x % y) = Int.gcd y x := by rw [Int.emod_def]; exact Int.gcd_sub_mul_left_right y x (x / y)
  rw [Nat.gcd_comm x.natAbs]; exact h
theorem emod_abs_lt (x : Int) {y : Int} (hy : y ≠ 0) : (x % y).natAbs < y.natAbs := by
  have h1 := Int.emod_nonneg x hy
  have h2 := Int.emod_lt x hy
  omega
attribute [local irreducible] Tor.J Tor.PJ Tor.StepO Tor.one Tor.slT Tor.ptrT Tor.aggT Tor.tupT Tor.exT Tor.andT Tor.gT Tor.eP Tor.boxO Tor.sliO Tor.slV Tor.VT.le Tor.Ret Tor.anyT
theorem rMadeI_ok (x : Int) : Ok Try.prog 41 [natS x.natAbs, one (.bool (decide (x < 0)))] (bigT x) := by
  have h := rMade_ok (decide (x < 0)) x.natAbs
  have e : (if decide (x < 0) = true then -(x.natAbs : Int) else (x.natAbs : Int)) = x := by
    by_cases hx : x < 0
    · rw [if_pos (by simpa using hx)]; omega
    · rw [if_neg (by simpa using hx)]; omega
  rw [e] at h
  exact h
set_option maxHeartbeats 4000000 in
set_option maxRecDepth 20000 in
theorem rDivMod_ok (a b : Int) (hb : b ≠ 0) (ha : small0 a) (hbs : small0 b) : Ok Try.prog 26 [bigT a, bigT b] (tupT [bigT (a / b), bigT (a % b), one (.int .i64 0)]) := by
  obtain ⟨g1, g2, g3⟩ := dm_spec (a := a) hb
  have hB : b.natAbs ≠ 0 := by omega
  have ha' : (digs a.natAbs).length ≤ 1099511627700 := ha
  have hb' : (digs b.natAbs).length ≤ 1099511627700 := hbs
  have hdiv := rdivide_ok a.natAbs b.natAbs hB ha' hb'
  have hlt := Nat.mod_lt a.natAbs (Nat.pos_of_ne_zero hB)
  have hql := Nat.div_le_self a.natAbs b.natAbs
  have hma := rMadeI_ok a
  have hmb := rMadeI_ok b
  have hsb : sgnI b ≠ 0 := by unfold sgnI; rw [if_neg hb]; split <;> decide
  have hmb2 := rMade_ok false b.natAbs
  rw [if_neg (by decide)] at hmb2
  have hsg := rSignI_ok ((a.natAbs % b.natAbs : Nat) : Int)
  have hof := rOf_ok 1 (by decide) (by decide)
  have sq : small ((a.natAbs / b.natAbs : Nat) : Int) := small_abs' ha.small (by rw [Int.natAbs_natCast]; exact hql)
  have s1 : small 1 := small_lt (by decide +kernel)
  have had := rAddI_ok ((a.natAbs / b.natAbs : Nat) : Int) 1 sq s1
  have hsu := rSubI_ok (b.natAbs : Int) ((a.natAbs % b.natAbs : Nat) : Int) (small_abs' hbs.small (by omega)) (small_abs' hbs.small (by rw [Int.natAbs_natCast]; exact Nat.le_of_lt hlt))
  have hsu2 := rSubI_ok b ((a.natAbs % b.natAbs : Nat) : Int) hbs.small (small_abs' hbs.small (by rw [Int.natAbs_natCast]; exact Nat.le_of_lt hlt))
  have hn1 := rNegI_ok ((a.natAbs / b.natAbs : Nat) : Int) sq
  have sq1 : small (((a.natAbs / b.natAbs : Nat) : Int) + 1) := by
    have h1 := digs_len_succ (a.natAbs / b.natAbs)
    have h2 := digs_len_le' hql
    have e : (((a.natAbs / b.natAbs : Nat) : Int) + 1).natAbs = a.natAbs / b.natAbs + 1 := by generalize a.natAbs / b.natAbs = z; omega
    unfold Tor.small
    rw [e]
    omega
  have hn2 := rNegI_ok (((a.natAbs / b.natAbs : Nat) : Int) + 1) sq1
  refine Ok.enter Try.func26 rfl Try.ntmps26 rfl (fun w O => ?_)
  by_cases hn : a < 0
  · by_cases hr : a.natAbs % b.natAbs = 0
    · obtain ⟨k1, k2⟩ := g2 hn hr
      have hs0 : sgnI ((a.natAbs % b.natAbs : Nat) : Int) = 0 := by rw [hr]; rfl
      by_cases hm : b < 0
      · rw [if_pos hm] at k1
        refine J_seq ?_
        refine J_reg ?_
        refine a_boxS rfl rfl (ltN rfl) (fun b2 => ?_)
        refine a_boxS rfl rfl (ltN rfl) (fun b3 => ?_)
        refine a_alloc (T := 29) rfl (ltN rfl) (fun b4 => ?_)
        refine a_alloc (T := 29) rfl (ltN rfl) (fun b5 => ?_)
        refine st (s_assign rfl) rfl ?_
        refine Run.nil ?_
        refine pj_then ?_
        refine J_seq ?_
        refine J_regdT 9 mixed (by kernel_rfl) (by decide) ?_
        refine st (s_fieldAddr rfl) rfl ?_
        refine st (s_loadB 3 rfl rfl rfl) rfl ?_
        refine st (s_fieldAddr rfl) rfl ?_
        refine st (sT (by assumption) (s_loadB 3 rfl rfl rfl)) rfl ?_
        refine st (s_callk (hma ) rfl ⟨(natS_digs (by omega)), (one_le (by rw [decide_eq_true hn])), trivial⟩) rfl ?_
        refine st (s_fieldAddr rfl) rfl ?_
        refine st (s_loadB 2 rfl rfl rfl) rfl ?_
        refine st (s_fieldAddr rfl) rfl ?_
        refine st (sT (by assumption) (s_loadB 2 rfl rfl rfl)) rfl ?_
        refine Run.nil ?_
        refine st (s_callk (hmb ) rfl ⟨(natS_digs (by omega)), (one_le (by rw [decide_eq_true hm])), trivial⟩) rfl ?_
        refine a_storeW 3 rfl rfl rfl rfl ?_
        refine a_storeW 2 rfl rfl rfl rfl ?_
        refine Run.nil ?_
        refine pj_then ?_
        refine J_seq ?_
        refine J_seq ?_
        refine J_reg ?_
        refine st (s_loadW 2 rfl rfl) rfl ?_
        refine st (s_callk (rSignI_ok _) rfl ⟨VT.le_refl _, trivial⟩) rfl ?_
        refine st (sF (by assumption) (s_eq rfl rfl)) rfl ?_
        refine Run.nil ?_
        refine pj_then ?_
        refine J_cond0 rfl ?_
        refine J_skip ?_
        refine pj_then ?_
        refine J_seq ?_
        refine J_reg ?_
        refine st (s_fieldAddr rfl) rfl ?_
        refine st (s_loadB 3 rfl rfl rfl) rfl ?_
        refine st (s_fieldAddr rfl) rfl ?_
        refine st (s_loadB 2 rfl rfl rfl) rfl ?_
        refine st (s_callk (hdiv ) rfl ⟨VT.le_refl _, VT.le_refl _, trivial⟩) rfl ?_
        refine st (s_move rfl) rfl ?_
        refine st (s_extract rfl rfl) rfl ?_
        refine st (s_extract rfl rfl) rfl ?_
        refine a_alloc (T := 29) rfl (ltN rfl) (fun b7 => ?_)
        refine a_alloc (T := 29) rfl (ltN rfl) (fun b8 => ?_)
        refine a_storeB 1 rfl rfl rfl rfl rfl (leN rfl) rfl ?_
        refine a_storeB 0 rfl rfl rfl rfl rfl (leN rfl) rfl ?_
        refine Run.nil ?_
        refine pj_then ?_
        refine J_seq ?_
        refine J_seq ?_
        refine J_reg ?_
        refine st (s_fieldAddr rfl) rfl ?_
        refine st (sT (by assumption) (s_loadB 5 rfl rfl rfl)) rfl ?_
        refine st (s_move rfl) rfl ?_
        refine sg1 rfl rfl (s_loadB 0 rfl rfl rfl) rfl ?_
        refine sg1 rfl rfl (s_callk (hsg ) rfl ⟨VT.le_refl _, trivial⟩) rfl ?_
        refine sg1 rfl rfl (sF (by omega) (s_gt rfl rfl)) rfl ?_
        refine st (s_pickT rfl rfl) rfl ?_
        refine Run.nil ?_
        refine pj_then ?_
        refine J_cond0 rfl ?_
        refine J_skip ?_
        refine pj_then ?_
        refine J_seq ?_
        refine J_seq ?_
        refine J_reg ?_
        refine st (s_fieldAddr rfl) rfl ?_
        refine st (sT (by assumption) (s_loadB 5 rfl rfl rfl)) rfl ?_
        refine st (s_fieldAddr rfl) rfl ?_
        refine st (sT (by assumption) (s_loadB 4 rfl rfl rfl)) rfl ?_
        refine st (s_neB rfl rfl) rfl ?_
        refine Run.nil ?_
        refine pj_then ?_
        refine J_cond0 rfl ?_
        refine J_skip ?_
        refine pj_then ?_
        refine J_seq ?_
        refine J_regS2 [⟨5, b5, 29, Lay.agg 2⟩, ⟨4, b4, 29, Lay.agg 2⟩] [_, _] [_, _, _, _] mixed (by kernel_rfl) rfl ((permPick 2 rfl).trans (.cons _ ((permPick 2 rfl).trans (.cons _ (List.Perm.refl _))))) rfl (And.intro rfl (And.intro rfl (trivial))) ?_
        refine ux (fun B => s_loadB 1 rfl rfl rfl) rfl rfl ?_
        refine ux (fun B => s_loadB 0 rfl rfl rfl) rfl rfl ?_
        refine us rfl ?_
        refine us rfl ?_
        refine ux (fun B => s_assign rfl) rfl rfl ?_
        refine RunU.nil ⟨And.intro rfl (And.intro rfl (And.intro rfl (And.intro rfl (trivial)))), ?_⟩
        refine PJ_normM (M' := [_, _, _, _, _, _]) rfl ?_
        refine pj_then ?_
        refine J_ret ?_
        refine retc3 Try.results26 (.cellB 1 rfl rfl rfl (bigT_eq (by rw [k1]))) (.cellB 0 rfl rfl rfl (bigT_eq (by rw [k2, hr]; rfl))) (.tmp rfl (VT.le_refl _))
      · rw [if_neg hm] at k1
        refine J_seq ?_
        refine J_reg ?_
        refine a_boxS rfl rfl (ltN rfl) (fun b2 => ?_)
        refine a_boxS rfl rfl (ltN rfl) (fun b3 => ?_)
        refine a_alloc (T := 29) rfl (ltN rfl) (fun b4 => ?_)
        refine a_alloc (T := 29) rfl (ltN rfl) (fun b5 => ?_)
        refine st (s_assign rfl) rfl ?_
        refine Run.nil ?_
        refine pj_then ?_
        refine J_seq ?_
        refine J_regdT 9 mixed (by kernel_rfl) (by decide) ?_
        refine st (s_fieldAddr rfl) rfl ?_
        refine st (s_loadB 3 rfl rfl rfl) rfl ?_
        refine st (s_fieldAddr rfl) rfl ?_
        refine st (sT (by assumption) (s_loadB 3 rfl rfl rfl)) rfl ?_
        refine st (s_callk (hma ) rfl ⟨(natS_digs (by omega)), (one_le (by rw [decide_eq_true hn])), trivial⟩) rfl ?_
        refine st (s_fieldAddr rfl) rfl ?_
        refine st (s_loadB 2 rfl rfl rfl) rfl ?_
        refine st (s_fieldAddr rfl) rfl ?_
        refine st (sF (by assumption) (s_loadB 2 rfl rfl rfl)) rfl ?_
        refine Run.nil ?_
        refine st (s_callk (hmb ) rfl ⟨(natS_digs (by omega)), (one_le (by rw [decide_eq_false hm])), trivial⟩) rfl ?_
        refine a_storeW 3 rfl rfl rfl rfl ?_
        refine a_storeW 2 rfl rfl rfl rfl ?_
        refine Run.nil ?_
        refine pj_then ?_
        refine J_seq ?_
        refine J_seq ?_
        refine J_reg ?_
        refine st (s_loadW 2 rfl rfl) rfl ?_
        refine st (s_callk (rSignI_ok _) rfl ⟨VT.le_refl _, trivial⟩) rfl ?_
        refine st (sF (by assumption) (s_eq rfl rfl)) rfl ?_
        refine Run.nil ?_
        refine pj_then ?_
        refine J_cond0 rfl ?_
        refine J_skip ?_
        refine pj_then ?_
        refine J_seq ?_
        refine J_reg ?_
        refine st (s_fieldAddr rfl) rfl ?_
        refine st (s_loadB 3 rfl rfl rfl) rfl ?_
        refine st (s_fieldAddr rfl) rfl ?_
        refine st (s_loadB 2 rfl rfl rfl) rfl ?_
        refine st (s_callk (hdiv ) rfl ⟨VT.le_refl _, VT.le_refl _, trivial⟩) rfl ?_
        refine st (s_move rfl) rfl ?_
        refine st (s_extract rfl rfl) rfl ?_
        refine st (s_extract rfl rfl) rfl ?_
        refine a_alloc (T := 29) rfl (ltN rfl) (fun b7 => ?_)
        refine a_alloc (T := 29) rfl (ltN rfl) (fun b8 => ?_)
        refine a_storeB 1 rfl rfl rfl rfl rfl (leN rfl) rfl ?_
        refine a_storeB 0 rfl rfl rfl rfl rfl (leN rfl) rfl ?_
        refine Run.nil ?_
        refine pj_then ?_
        refine J_seq ?_
        refine J_seq ?_
        refine J_reg ?_
        refine st (s_fieldAddr rfl) rfl ?_
        refine st (sT (by assumption) (s_loadB 5 rfl rfl rfl)) rfl ?_
        refine st (s_move rfl) rfl ?_
        refine sg1 rfl rfl (s_loadB 0 rfl rfl rfl) rfl ?_
        refine sg1 rfl rfl (s_callk (hsg ) rfl ⟨VT.le_refl _, trivial⟩) rfl ?_
        refine sg1 rfl rfl (sF (by omega) (s_gt rfl rfl)) rfl ?_
        refine st (s_pickT rfl rfl) rfl ?_
        refine Run.nil ?_
        refine pj_then ?_
        refine J_cond0 rfl ?_
        refine J_skip ?_
        refine pj_then ?_
        refine J_seq ?_
        refine J_seq ?_
        refine J_reg ?_
        refine st (s_fieldAddr rfl) rfl ?_
        refine st (sT (by assumption) (s_loadB 5 rfl rfl rfl)) rfl ?_
        refine st (s_fieldAddr rfl) rfl ?_
        refine st (sF (by assumption) (s_loadB 4 rfl rfl rfl)) rfl ?_
        refine st (s_neB rfl rfl) rfl ?_
        refine Run.nil ?_
        refine pj_then ?_
        refine J_cond1 rfl ?_
        refine J_reg ?_
        refine st (s_loadB 1 rfl rfl rfl) rfl ?_
        refine st (s_callk (hn1 ) rfl ⟨VT.le_refl _, trivial⟩) rfl ?_
        refine a_storeB 1 rfl rfl rfl rfl rfl (leN rfl) rfl ?_
        refine Run.nil ?_
        refine pj_then ?_
        refine J_seq ?_
        refine J_regS2 [⟨5, b5, 29, Lay.agg 2⟩, ⟨4, b4, 29, Lay.agg 2⟩] [_, _] [_, _, _, _] mixed (by kernel_rfl) rfl ((permPick 2 rfl).trans (.cons _ ((permPick 2 rfl).trans (.cons _ (List.Perm.refl _))))) rfl (And.intro rfl (And.intro rfl (trivial))) ?_
        refine ux (fun B => s_loadB 1 rfl rfl rfl) rfl rfl ?_
        refine ux (fun B => s_loadB 0 rfl rfl rfl) rfl rfl ?_
        refine us rfl ?_
        refine us rfl ?_
        refine ux (fun B => s_assign rfl) rfl rfl ?_
        refine RunU.nil ⟨And.intro rfl (And.intro rfl (And.intro rfl (And.intro rfl (trivial)))), ?_⟩
        refine PJ_normM (M' := [_, _, _, _, _, _]) rfl ?_
        refine pj_then ?_
        refine J_ret ?_
        refine retc3 Try.results26 (.cellB 1 rfl rfl rfl (bigT_eq (by rw [k1]))) (.cellB 0 rfl rfl rfl (bigT_eq (by rw [k2, hr]; rfl))) (.tmp rfl (VT.le_refl _))
    · obtain ⟨k1, k2⟩ := g3 hn hr
      have hs0 : sgnI ((a.natAbs % b.natAbs : Nat) : Int) = 1 := by unfold sgnI; rw [if_neg (by omega), if_neg (by omega)]
      by_cases hm : b < 0
      · rw [if_pos hm] at k1
        refine J_seq ?_
        refine J_reg ?_
        refine a_boxS rfl rfl (ltN rfl) (fun b2 => ?_)
        refine a_boxS rfl rfl (ltN rfl) (fun b3 => ?_)
        refine a_alloc (T := 29) rfl (ltN rfl) (fun b4 => ?_)
        refine a_alloc (T := 29) rfl (ltN rfl) (fun b5 => ?_)
        refine st (s_assign rfl) rfl ?_
        refine Run.nil ?_
        refine pj_then ?_
        refine J_seq ?_
        refine J_regdT 9 mixed (by kernel_rfl) (by decide) ?_
        refine st (s_fieldAddr rfl) rfl ?_
        refine st (s_loadB 3 rfl rfl rfl) rfl ?_
        refine st (s_fieldAddr rfl) rfl ?_
        refine st (sT (by assumption) (s_loadB 3 rfl rfl rfl)) rfl ?_
        refine st (s_callk (hma ) rfl ⟨(natS_digs (by omega)), (one_le (by rw [decide_eq_true hn])), trivial⟩) rfl ?_
        refine st (s_fieldAddr rfl) rfl ?_
        refine st (s_loadB 2 rfl rfl rfl) rfl ?_
        refine st (s_fieldAddr rfl) rfl ?_
        refine st (sT (by assumption) (s_loadB 2 rfl rfl rfl)) rfl ?_
        refine Run.nil ?_
        refine st (s_callk (hmb ) rfl ⟨(natS_digs (by omega)), (one_le (by rw [decide_eq_true hm])), trivial⟩) rfl ?_
        refine a_storeW 3 rfl rfl rfl rfl ?_
        refine a_storeW 2 rfl rfl rfl rfl ?_
        refine Run.nil ?_
        refine pj_then ?_
        refine J_seq ?_
        refine J_seq ?_
        refine J_reg ?_
        refine st (s_loadW 2 rfl rfl) rfl ?_
        refine st (s_callk (rSignI_ok _) rfl ⟨VT.le_refl _, trivial⟩) rfl ?_
        refine st (sF (by assumption) (s_eq rfl rfl)) rfl ?_
        refine Run.nil ?_
        refine pj_then ?_
        refine J_cond0 rfl ?_
        refine J_skip ?_
        refine pj_then ?_
        refine J_seq ?_
        refine J_reg ?_
        refine st (s_fieldAddr rfl) rfl ?_
        refine st (s_loadB 3 rfl rfl rfl) rfl ?_
        refine st (s_fieldAddr rfl) rfl ?_
        refine st (s_loadB 2 rfl rfl rfl) rfl ?_
        refine st (s_callk (hdiv ) rfl ⟨VT.le_refl _, VT.le_refl _, trivial⟩) rfl ?_
        refine st (s_move rfl) rfl ?_
        refine st (s_extract rfl rfl) rfl ?_
        refine st (s_extract rfl rfl) rfl ?_
        refine a_alloc (T := 29) rfl (ltN rfl) (fun b7 => ?_)
        refine a_alloc (T := 29) rfl (ltN rfl) (fun b8 => ?_)
        refine a_storeB 1 rfl rfl rfl rfl rfl (leN rfl) rfl ?_
        refine a_storeB 0 rfl rfl rfl rfl rfl (leN rfl) rfl ?_
        refine Run.nil ?_
        refine pj_then ?_
        refine J_seq ?_
        refine J_seq ?_
        refine J_reg ?_
        refine st (s_fieldAddr rfl) rfl ?_
        refine st (sT (by assumption) (s_loadB 5 rfl rfl rfl)) rfl ?_
        refine st (s_move rfl) rfl ?_
        refine sg1 rfl rfl (s_loadB 0 rfl rfl rfl) rfl ?_
        refine sg1 rfl rfl (s_callk (hsg ) rfl ⟨VT.le_refl _, trivial⟩) rfl ?_
        refine sg1 rfl rfl (sT (by omega) (s_gt rfl rfl)) rfl ?_
        refine st (s_pickT rfl rfl) rfl ?_
        refine Run.nil ?_
        refine pj_then ?_
        refine J_cond1 rfl ?_
        refine J_seq ?_
        refine J_regd 2 mixed (by kernel_rfl) (by decide) ?_
        refine st (s_loadB 1 rfl rfl rfl) rfl ?_
        refine st (s_callk (hof ) rfl ⟨VT.le_refl _, trivial⟩) rfl ?_
        refine Run.nil ?_
        refine st (s_callk (had ) rfl ⟨VT.le_refl _, VT.le_refl _, trivial⟩) rfl ?_
        refine a_storeB 1 rfl rfl rfl rfl rfl (leN rfl) rfl ?_
        refine Run.nil ?_
        refine pj_then ?_
        refine J_regd 5 mixed (by kernel_rfl) (by decide) ?_
        refine st (s_fieldAddr rfl) rfl ?_
        refine st (s_loadB 4 rfl rfl rfl) rfl ?_
        refine st (s_callk (hmb2 ) rfl ⟨(natS_digs (by omega)), VT.le_refl _, trivial⟩) rfl ?_
        refine st (s_loadB 0 rfl rfl rfl) rfl ?_
        refine st (s_callk (hsu ) rfl ⟨VT.le_refl _, VT.le_refl _, trivial⟩) rfl ?_
        refine Run.nil ?_
        refine a_storeB 0 rfl rfl rfl rfl rfl (leN rfl) rfl ?_
        refine Run.nil ?_
        refine pj_then ?_
        refine J_seq ?_
        refine J_seq ?_
        refine J_reg ?_
        refine st (s_fieldAddr rfl) rfl ?_
        refine st (sT (by assumption) (s_loadB 5 rfl rfl rfl)) rfl ?_
        refine st (s_fieldAddr rfl) rfl ?_
        refine st (sT (by assumption) (s_loadB 4 rfl rfl rfl)) rfl ?_
        refine st (s_neB rfl rfl) rfl ?_
        refine Run.nil ?_
        refine pj_then ?_
        refine J_cond0 rfl ?_
        refine J_skip ?_
        refine pj_then ?_
        refine J_seq ?_
        refine J_regS2 [⟨5, b5, 29, Lay.agg 2⟩, ⟨4, b4, 29, Lay.agg 2⟩] [_, _] [_, _, _, _] mixed (by kernel_rfl) rfl ((permPick 2 rfl).trans (.cons _ ((permPick 2 rfl).trans (.cons _ (List.Perm.refl _))))) rfl (And.intro rfl (And.intro rfl (trivial))) ?_
        refine ux (fun B => s_loadB 1 rfl rfl rfl) rfl rfl ?_
        refine ux (fun B => s_loadB 0 rfl rfl rfl) rfl rfl ?_
        refine us rfl ?_
        refine us rfl ?_
        refine ux (fun B => s_assign rfl) rfl rfl ?_
        refine RunU.nil ⟨And.intro rfl (And.intro rfl (And.intro rfl (And.intro rfl (trivial)))), ?_⟩
        refine PJ_normM (M' := [_, _, _, _, _, _]) rfl ?_
        refine pj_then ?_
        refine J_ret ?_
        refine retc3 Try.results26 (.cellB 1 rfl rfl rfl (bigT_eq (by rw [k1, Int.natCast_add]; rfl))) (.cellB 0 rfl rfl rfl (bigT_eq (by rw [k2, Int.ofNat_sub (Nat.le_of_lt hlt)]))) (.tmp rfl (VT.le_refl _))
      · rw [if_neg hm] at k1
        refine J_seq ?_
        refine J_reg ?_
        refine a_boxS rfl rfl (ltN rfl) (fun b2 => ?_)
        refine a_boxS rfl rfl (ltN rfl) (fun b3 => ?_)
        refine a_alloc (T := 29) rfl (ltN rfl) (fun b4 => ?_)
        refine a_alloc (T := 29) rfl (ltN rfl) (fun b5 => ?_)
        refine st (s_assign rfl) rfl ?_
        refine Run.nil ?_
        refine pj_then ?_
        refine J_seq ?_
        refine J_regdT 9 mixed (by kernel_rfl) (by decide) ?_
        refine st (s_fieldAddr rfl) rfl ?_
        refine st (s_loadB 3 rfl rfl rfl) rfl ?_
        refine st (s_fieldAddr rfl) rfl ?_
        refine st (sT (by assumption) (s_loadB 3 rfl rfl rfl)) rfl ?_
        refine st (s_callk (hma ) rfl ⟨(natS_digs (by omega)), (one_le (by rw [decide_eq_true hn])), trivial⟩) rfl ?_
        refine st (s_fieldAddr rfl) rfl ?_
        refine st (s_loadB 2 rfl rfl rfl) rfl ?_
        refine st (s_fieldAddr rfl) rfl ?_
        refine st (sF (by assumption) (s_loadB 2 rfl rfl rfl)) rfl ?_
        refine Run.nil ?_
        refine st (s_callk (hmb ) rfl ⟨(natS_digs (by omega)), (one_le (by rw [decide_eq_false hm])), trivial⟩) rfl ?_
        refine a_storeW 3 rfl rfl rfl rfl ?_
        refine a_storeW 2 rfl rfl rfl rfl ?_
        refine Run.nil ?_
        refine pj_then ?_
        refine J_seq ?_
        refine J_seq ?_
        refine J_reg ?_
        refine st (s_loadW 2 rfl rfl) rfl ?_
        refine st (s_callk (rSignI_ok _) rfl ⟨VT.le_refl _, trivial⟩) rfl ?_
        refine st (sF (by assumption) (s_eq rfl rfl)) rfl ?_
        refine Run.nil ?_
        refine pj_then ?_
        refine J_cond0 rfl ?_
        refine J_skip ?_
        refine pj_then ?_
        refine J_seq ?_
        refine J_reg ?_
        refine st (s_fieldAddr rfl) rfl ?_
        refine st (s_loadB 3 rfl rfl rfl) rfl ?_
        refine st (s_fieldAddr rfl) rfl ?_
        refine st (s_loadB 2 rfl rfl rfl) rfl ?_
        refine st (s_callk (hdiv ) rfl ⟨VT.le_refl _, VT.le_refl _, trivial⟩) rfl ?_
        refine st (s_move rfl) rfl ?_
        refine st (s_extract rfl rfl) rfl ?_
        refine st (s_extract rfl rfl) rfl ?_
        refine a_alloc (T := 29) rfl (ltN rfl) (fun b7 => ?_)
        refine a_alloc (T := 29) rfl (ltN rfl) (fun b8 => ?_)
        refine a_storeB 1 rfl rfl rfl rfl rfl (leN rfl) rfl ?_
        refine a_storeB 0 rfl rfl rfl rfl rfl (leN rfl) rfl ?_
        refine Run.nil ?_
        refine pj_then ?_
        refine J_seq ?_
        refine J_seq ?_
        refine J_reg ?_
        refine st (s_fieldAddr rfl) rfl ?_
        refine st (sT (by assumption) (s_loadB 5 rfl rfl rfl)) rfl ?_
        refine st (s_move rfl) rfl ?_
        refine sg1 rfl rfl (s_loadB 0 rfl rfl rfl) rfl ?_
        refine sg1 rfl rfl (s_callk (hsg ) rfl ⟨VT.le_refl _, trivial⟩) rfl ?_
        refine sg1 rfl rfl (sT (by omega) (s_gt rfl rfl)) rfl ?_
        refine st (s_pickT rfl rfl) rfl ?_
        refine Run.nil ?_
        refine pj_then ?_
        refine J_cond1 rfl ?_
        refine J_seq ?_
        refine J_regd 2 mixed (by kernel_rfl) (by decide) ?_
        refine st (s_loadB 1 rfl rfl rfl) rfl ?_
        refine st (s_callk (hof ) rfl ⟨VT.le_refl _, trivial⟩) rfl ?_
        refine Run.nil ?_
        refine st (s_callk (had ) rfl ⟨VT.le_refl _, VT.le_refl _, trivial⟩) rfl ?_
        refine a_storeB 1 rfl rfl rfl rfl rfl (leN rfl) rfl ?_
        refine Run.nil ?_
        refine pj_then ?_
        refine J_regd 5 mixed (by kernel_rfl) (by decide) ?_
        refine st (s_fieldAddr rfl) rfl ?_
        refine st (s_loadB 4 rfl rfl rfl) rfl ?_
        refine st (s_callk (hmb ) rfl ⟨(natS_digs (by omega)), (one_le (by rw [decide_eq_false hm])), trivial⟩) rfl ?_
        refine st (s_loadB 0 rfl rfl rfl) rfl ?_
        refine st (s_callk (hsu2 ) rfl ⟨VT.le_refl _, VT.le_refl _, trivial⟩) rfl ?_
        refine Run.nil ?_
        refine a_storeB 0 rfl rfl rfl rfl rfl (leN rfl) rfl ?_
        refine Run.nil ?_
        refine pj_then ?_
        refine J_seq ?_
        refine J_seq ?_
        refine J_reg ?_
        refine st (s_fieldAddr rfl) rfl ?_
        refine st (sT (by assumption) (s_loadB 5 rfl rfl rfl)) rfl ?_
        refine st (s_fieldAddr rfl) rfl ?_
        refine st (sF (by assumption) (s_loadB 4 rfl rfl rfl)) rfl ?_
        refine st (s_neB rfl rfl) rfl ?_
        refine Run.nil ?_
        refine pj_then ?_
        refine J_cond1 rfl ?_
        refine J_reg ?_
        refine st (s_loadB 1 rfl rfl rfl) rfl ?_
        refine st (s_callk (hn2 ) rfl ⟨VT.le_refl _, trivial⟩) rfl ?_
        refine a_storeB 1 rfl rfl rfl rfl rfl (leN rfl) rfl ?_
        refine Run.nil ?_
        refine pj_then ?_
        refine J_seq ?_
        refine J_regS2 [⟨5, b5, 29, Lay.agg 2⟩, ⟨4, b4, 29, Lay.agg 2⟩] [_, _] [_, _, _, _] mixed (by kernel_rfl) rfl ((permPick 2 rfl).trans (.cons _ ((permPick 2 rfl).trans (.cons _ (List.Perm.refl _))))) rfl (And.intro rfl (And.intro rfl (trivial))) ?_
        refine ux (fun B => s_loadB 1 rfl rfl rfl) rfl rfl ?_
        refine ux (fun B => s_loadB 0 rfl rfl rfl) rfl rfl ?_
        refine us rfl ?_
        refine us rfl ?_
        refine ux (fun B => s_assign rfl) rfl rfl ?_
        refine RunU.nil ⟨And.intro rfl (And.intro rfl (And.intro rfl (And.intro rfl (trivial)))), ?_⟩
        refine PJ_normM (M' := [_, _, _, _, _, _]) rfl ?_
        refine pj_then ?_
        refine J_ret ?_
        refine retc3 Try.results26 (.cellB 1 rfl rfl rfl (bigT_eq (by rw [k1, Int.natCast_add]; rfl))) (.cellB 0 rfl rfl rfl (bigT_eq (by rw [k2, Int.ofNat_sub (Nat.le_of_lt hlt), Int.natAbs_of_nonneg (show 0 ≤ b by omega)]))) (.tmp rfl (VT.le_refl _))
  · obtain ⟨k1, k2⟩ := g1 (by omega)
    by_cases hm : b < 0
    · rw [if_pos hm] at k1
      refine J_seq ?_
      refine J_reg ?_
      refine a_boxS rfl rfl (ltN rfl) (fun b2 => ?_)
      refine a_boxS rfl rfl (ltN rfl) (fun b3 => ?_)
      refine a_alloc (T := 29) rfl (ltN rfl) (fun b4 => ?_)
      refine a_alloc (T := 29) rfl (ltN rfl) (fun b5 => ?_)
      refine st (s_assign rfl) rfl ?_
      refine Run.nil ?_
      refine pj_then ?_
      refine J_seq ?_
      refine J_regdT 9 mixed (by kernel_rfl) (by decide) ?_
      refine st (s_fieldAddr rfl) rfl ?_
      refine st (s_loadB 3 rfl rfl rfl) rfl ?_
      refine st (s_fieldAddr rfl) rfl ?_
      refine st (sF (by assumption) (s_loadB 3 rfl rfl rfl)) rfl ?_
      refine st (s_callk (hma ) rfl ⟨(natS_digs (by omega)), (one_le (by rw [decide_eq_false hn])), trivial⟩) rfl ?_
      refine st (s_fieldAddr rfl) rfl ?_
      refine st (s_loadB 2 rfl rfl rfl) rfl ?_
      refine st (s_fieldAddr rfl) rfl ?_
      refine st (sT (by assumption) (s_loadB 2 rfl rfl rfl)) rfl ?_
      refine Run.nil ?_
      refine st (s_callk (hmb ) rfl ⟨(natS_digs (by omega)), (one_le (by rw [decide_eq_true hm])), trivial⟩) rfl ?_
      refine a_storeW 3 rfl rfl rfl rfl ?_
      refine a_storeW 2 rfl rfl rfl rfl ?_
      refine Run.nil ?_
      refine pj_then ?_
      refine J_seq ?_
      refine J_seq ?_
      refine J_reg ?_
      refine st (s_loadW 2 rfl rfl) rfl ?_
      refine st (s_callk (rSignI_ok _) rfl ⟨VT.le_refl _, trivial⟩) rfl ?_
      refine st (sF (by assumption) (s_eq rfl rfl)) rfl ?_
      refine Run.nil ?_
      refine pj_then ?_
      refine J_cond0 rfl ?_
      refine J_skip ?_
      refine pj_then ?_
      refine J_seq ?_
      refine J_reg ?_
      refine st (s_fieldAddr rfl) rfl ?_
      refine st (s_loadB 3 rfl rfl rfl) rfl ?_
      refine st (s_fieldAddr rfl) rfl ?_
      refine st (s_loadB 2 rfl rfl rfl) rfl ?_
      refine st (s_callk (hdiv ) rfl ⟨VT.le_refl _, VT.le_refl _, trivial⟩) rfl ?_
      refine st (s_move rfl) rfl ?_
      refine st (s_extract rfl rfl) rfl ?_
      refine st (s_extract rfl rfl) rfl ?_
      refine a_alloc (T := 29) rfl (ltN rfl) (fun b7 => ?_)
      refine a_alloc (T := 29) rfl (ltN rfl) (fun b8 => ?_)
      refine a_storeB 1 rfl rfl rfl rfl rfl (leN rfl) rfl ?_
      refine a_storeB 0 rfl rfl rfl rfl rfl (leN rfl) rfl ?_
      refine Run.nil ?_
      refine pj_then ?_
      refine J_seq ?_
      refine J_seq ?_
      refine J_reg ?_
      refine st (s_fieldAddr rfl) rfl ?_
      refine st (sF (by assumption) (s_loadB 5 rfl rfl rfl)) rfl ?_
      refine st (s_move rfl) rfl ?_
      refine sg0 rfl rfl rfl rfl ?_
      refine sg0 rfl rfl rfl rfl ?_
      refine sg0 rfl rfl rfl rfl ?_
      refine st (s_pickF rfl rfl) rfl ?_
      refine Run.nil ?_
      refine pj_then ?_
      refine J_cond0 rfl ?_
      refine J_skip ?_
      refine pj_then ?_
      refine J_seq ?_
      refine J_seq ?_
      refine J_reg ?_
      refine st (s_fieldAddr rfl) rfl ?_
      refine st (sF (by assumption) (s_loadB 5 rfl rfl rfl)) rfl ?_
      refine st (s_fieldAddr rfl) rfl ?_
      refine st (sT (by assumption) (s_loadB 4 rfl rfl rfl)) rfl ?_
      refine st (s_neB rfl rfl) rfl ?_
      refine Run.nil ?_
      refine pj_then ?_
      refine J_cond1 rfl ?_
      refine J_reg ?_
      refine st (s_loadB 1 rfl rfl rfl) rfl ?_
      refine st (s_callk (hn1 ) rfl ⟨VT.le_refl _, trivial⟩) rfl ?_
      refine a_storeB 1 rfl rfl rfl rfl rfl (leN rfl) rfl ?_
      refine Run.nil ?_
      refine pj_then ?_
      refine J_seq ?_
      refine J_regS2 [⟨5, b5, 29, Lay.agg 2⟩, ⟨4, b4, 29, Lay.agg 2⟩] [_, _] [_, _, _, _] mixed (by kernel_rfl) rfl ((permPick 2 rfl).trans (.cons _ ((permPick 2 rfl).trans (.cons _ (List.Perm.refl _))))) rfl (And.intro rfl (And.intro rfl (trivial))) ?_
      refine ux (fun B => s_loadB 1 rfl rfl rfl) rfl rfl ?_
      refine ux (fun B => s_loadB 0 rfl rfl rfl) rfl rfl ?_
      refine us rfl ?_
      refine us rfl ?_
      refine ux (fun B => s_assign rfl) rfl rfl ?_
      refine RunU.nil ⟨And.intro rfl (And.intro rfl (And.intro rfl (And.intro rfl (trivial)))), ?_⟩
      refine PJ_normM (M' := [_, _, _, _, _, _]) rfl ?_
      refine pj_then ?_
      refine J_ret ?_
      refine retc3 Try.results26 (.cellB 1 rfl rfl rfl (bigT_eq (by rw [k1]))) (.cellB 0 rfl rfl rfl (bigT_eq (by rw [k2]))) (.tmp rfl (VT.le_refl _))
    · rw [if_neg hm] at k1
      refine J_seq ?_
      refine J_reg ?_
      refine a_boxS rfl rfl (ltN rfl) (fun b2 => ?_)
      refine a_boxS rfl rfl (ltN rfl) (fun b3 => ?_)
      refine a_alloc (T := 29) rfl (ltN rfl) (fun b4 => ?_)
      refine a_alloc (T := 29) rfl (ltN rfl) (fun b5 => ?_)
      refine st (s_assign rfl) rfl ?_
      refine Run.nil ?_
      refine pj_then ?_
      refine J_seq ?_
      refine J_regdT 9 mixed (by kernel_rfl) (by decide) ?_
      refine st (s_fieldAddr rfl) rfl ?_
      refine st (s_loadB 3 rfl rfl rfl) rfl ?_
      refine st (s_fieldAddr rfl) rfl ?_
      refine st (sF (by assumption) (s_loadB 3 rfl rfl rfl)) rfl ?_
      refine st (s_callk (hma ) rfl ⟨(natS_digs (by omega)), (one_le (by rw [decide_eq_false hn])), trivial⟩) rfl ?_
      refine st (s_fieldAddr rfl) rfl ?_
      refine st (s_loadB 2 rfl rfl rfl) rfl ?_
      refine st (s_fieldAddr rfl) rfl ?_
      refine st (sF (by assumption) (s_loadB 2 rfl rfl rfl)) rfl ?_
      refine Run.nil ?_
      refine st (s_callk (hmb ) rfl ⟨(natS_digs (by omega)), (one_le (by rw [decide_eq_false hm])), trivial⟩) rfl ?_
      refine a_storeW 3 rfl rfl rfl rfl ?_
      refine a_storeW 2 rfl rfl rfl rfl ?_
      refine Run.nil ?_
      refine pj_then ?_
      refine J_seq ?_
      refine J_seq ?_
      refine J_reg ?_
      refine st (s_loadW 2 rfl rfl) rfl ?_
      refine st (s_callk (rSignI_ok _) rfl ⟨VT.le_refl _, trivial⟩) rfl ?_
      refine st (sF (by assumption) (s_eq rfl rfl)) rfl ?_
      refine Run.nil ?_
      refine pj_then ?_
      refine J_cond0 rfl ?_
      refine J_skip ?_
      refine pj_then ?_
      refine J_seq ?_
      refine J_reg ?_
      refine st (s_fieldAddr rfl) rfl ?_
      refine st (s_loadB 3 rfl rfl rfl) rfl ?_
      refine st (s_fieldAddr rfl) rfl ?_
      refine st (s_loadB 2 rfl rfl rfl) rfl ?_
      refine st (s_callk (hdiv ) rfl ⟨VT.le_refl _, VT.le_refl _, trivial⟩) rfl ?_
      refine st (s_move rfl) rfl ?_
      refine st (s_extract rfl rfl) rfl ?_
      refine st (s_extract rfl rfl) rfl ?_
      refine a_alloc (T := 29) rfl (ltN rfl) (fun b7 => ?_)
      refine a_alloc (T := 29) rfl (ltN rfl) (fun b8 => ?_)
      refine a_storeB 1 rfl rfl rfl rfl rfl (leN rfl) rfl ?_
      refine a_storeB 0 rfl rfl rfl rfl rfl (leN rfl) rfl ?_
      refine Run.nil ?_
      refine pj_then ?_
      refine J_seq ?_
      refine J_seq ?_
      refine J_reg ?_
      refine st (s_fieldAddr rfl) rfl ?_
      refine st (sF (by assumption) (s_loadB 5 rfl rfl rfl)) rfl ?_
      refine st (s_move rfl) rfl ?_
      refine sg0 rfl rfl rfl rfl ?_
      refine sg0 rfl rfl rfl rfl ?_
      refine sg0 rfl rfl rfl rfl ?_
      refine st (s_pickF rfl rfl) rfl ?_
      refine Run.nil ?_
      refine pj_then ?_
      refine J_cond0 rfl ?_
      refine J_skip ?_
      refine pj_then ?_
      refine J_seq ?_
      refine J_seq ?_
      refine J_reg ?_
      refine st (s_fieldAddr rfl) rfl ?_
      refine st (sF (by assumption) (s_loadB 5 rfl rfl rfl)) rfl ?_
      refine st (s_fieldAddr rfl) rfl ?_
      refine st (sF (by assumption) (s_loadB 4 rfl rfl rfl)) rfl ?_
      refine st (s_neB rfl rfl) rfl ?_
      refine Run.nil ?_
      refine pj_then ?_
      refine J_cond0 rfl ?_
      refine J_skip ?_
      refine pj_then ?_
      refine J_seq ?_
      refine J_regS2 [⟨5, b5, 29, Lay.agg 2⟩, ⟨4, b4, 29, Lay.agg 2⟩] [_, _] [_, _, _, _] mixed (by kernel_rfl) rfl ((permPick 2 rfl).trans (.cons _ ((permPick 2 rfl).trans (.cons _ (List.Perm.refl _))))) rfl (And.intro rfl (And.intro rfl (trivial))) ?_
      refine ux (fun B => s_loadB 1 rfl rfl rfl) rfl rfl ?_
      refine ux (fun B => s_loadB 0 rfl rfl rfl) rfl rfl ?_
      refine us rfl ?_
      refine us rfl ?_
      refine ux (fun B => s_assign rfl) rfl rfl ?_
      refine RunU.nil ⟨And.intro rfl (And.intro rfl (And.intro rfl (And.intro rfl (trivial)))), ?_⟩
      refine PJ_normM (M' := [_, _, _, _, _, _]) rfl ?_
      refine pj_then ?_
      refine J_ret ?_
      refine retc3 Try.results26 (.cellB 1 rfl rfl rfl (bigT_eq (by rw [k1]))) (.cellB 0 rfl rfl rfl (bigT_eq (by rw [k2]))) (.tmp rfl (VT.le_refl _))
set_option maxHeartbeats 4000000 in
theorem rDivMod0_ok (a : Int) (ha : small0 a) : Ok Try.prog 26 [bigT a, bigT 0] (tupT [bigT 0, bigT 0, one (.int .i64 3)]) := by
  have ha' : (digs a.natAbs).length ≤ 1099511627700 := ha
  have hma := rMadeI_ok a
  have hmb := rMadeI_ok 0
  have hsg := rSignI_ok 0
  have hs0 : sgnI 0 = 0 := rfl
  refine Ok.enter Try.func26 rfl Try.ntmps26 rfl (fun w O => ?_)
  have h0 : VT.le (limT (digs (Int.natAbs 0))) (natS (Int.natAbs 0)) := natS_digs (by decide)
  by_cases hn : a < 0
  · refine J_seq ?_
    refine J_reg ?_
    refine a_boxS rfl rfl (ltN rfl) (fun b2 => ?_)
    refine a_boxS rfl rfl (ltN rfl) (fun b3 => ?_)
    refine a_alloc (T := 29) rfl (ltN rfl) (fun b4 => ?_)
    refine a_alloc (T := 29) rfl (ltN rfl) (fun b5 => ?_)
    refine st (s_assign rfl) rfl ?_
    refine Run.nil ?_
    refine pj_then ?_
    refine J_seq ?_
    refine J_regdT 9 mixed (by kernel_rfl) (by decide) ?_
    refine st (s_fieldAddr rfl) rfl ?_
    refine st (s_loadB 3 rfl rfl rfl) rfl ?_
    refine st (s_fieldAddr rfl) rfl ?_
    refine st (sT (by assumption) (s_loadB 3 rfl rfl rfl)) rfl ?_
    refine st (s_callk (hma ) rfl ⟨(natS_digs (by omega)), (one_le (by rw [decide_eq_true hn])), trivial⟩) rfl ?_
    refine st (s_fieldAddr rfl) rfl ?_
    refine st (s_loadB 2 rfl rfl rfl) rfl ?_
    refine st (s_fieldAddr rfl) rfl ?_
    refine st (sF (by omega) (s_loadB 2 rfl rfl rfl)) rfl ?_
    refine Run.nil ?_
    refine st (s_callk (hmb ) rfl ⟨(h0), VT.le_refl _, trivial⟩) rfl ?_
    refine a_storeW 3 rfl rfl rfl rfl ?_
    refine a_storeW 2 rfl rfl rfl rfl ?_
    refine Run.nil ?_
    refine pj_then ?_
    refine J_seq ?_
    refine J_seq ?_
    refine J_reg ?_
    refine st (s_loadW 2 rfl rfl) rfl ?_
    refine st (s_callk (hsg ) rfl ⟨VT.le_refl _, trivial⟩) rfl ?_
    refine st (sT (by assumption) (s_eq rfl rfl)) rfl ?_
    refine Run.nil ?_
    refine pj_then ?_
    refine J_cond1 rfl ?_
    refine J_seq ?_
    refine J_reg ?_
    refine stB rfl rfl rfl ?_
    refine BuildK.nil ?_
    refine stB rfl rfl rfl ?_
    refine BuildK.nil ?_
    refine a_storeB 1 rfl rfl rfl rfl rfl (leN rfl) rfl ?_
    refine a_storeB 0 rfl rfl rfl rfl rfl (leN rfl) rfl ?_
    refine st (s_assign rfl) rfl ?_
    refine Run.nil ?_
    refine pj_then ?_
    refine J_ret ?_
    refine pr_then ?_
    refine retc3 Try.results26 (.cellB 1 rfl rfl rfl (bigT_zero)) (.cellB 0 rfl rfl rfl (bigT_zero)) (.tmp rfl (VT.le_refl _))
  · refine J_seq ?_
    refine J_reg ?_
    refine a_boxS rfl rfl (ltN rfl) (fun b2 => ?_)
    refine a_boxS rfl rfl (ltN rfl) (fun b3 => ?_)
    refine a_alloc (T := 29) rfl (ltN rfl) (fun b4 => ?_)
    refine a_alloc (T := 29) rfl (ltN rfl) (fun b5 => ?_)
    refine st (s_assign rfl) rfl ?_
    refine Run.nil ?_
    refine pj_then ?_
    refine J_seq ?_
    refine J_regdT 9 mixed (by kernel_rfl) (by decide) ?_
    refine st (s_fieldAddr rfl) rfl ?_
    refine st (s_loadB 3 rfl rfl rfl) rfl ?_
    refine st (s_fieldAddr rfl) rfl ?_
    refine st (sF (by assumption) (s_loadB 3 rfl rfl rfl)) rfl ?_
    refine st (s_callk (hma ) rfl ⟨(natS_digs (by omega)), (one_le (by rw [decide_eq_false hn])), trivial⟩) rfl ?_
    refine st (s_fieldAddr rfl) rfl ?_
    refine st (s_loadB 2 rfl rfl rfl) rfl ?_
    refine st (s_fieldAddr rfl) rfl ?_
    refine st (sF (by omega) (s_loadB 2 rfl rfl rfl)) rfl ?_
    refine Run.nil ?_
    refine st (s_callk (hmb ) rfl ⟨(h0), VT.le_refl _, trivial⟩) rfl ?_
    refine a_storeW 3 rfl rfl rfl rfl ?_
    refine a_storeW 2 rfl rfl rfl rfl ?_
    refine Run.nil ?_
    refine pj_then ?_
    refine J_seq ?_
    refine J_seq ?_
    refine J_reg ?_
    refine st (s_loadW 2 rfl rfl) rfl ?_
    refine st (s_callk (hsg ) rfl ⟨VT.le_refl _, trivial⟩) rfl ?_
    refine st (sT (by assumption) (s_eq rfl rfl)) rfl ?_
    refine Run.nil ?_
    refine pj_then ?_
    refine J_cond1 rfl ?_
    refine J_seq ?_
    refine J_reg ?_
    refine stB rfl rfl rfl ?_
    refine BuildK.nil ?_
    refine stB rfl rfl rfl ?_
    refine BuildK.nil ?_
    refine a_storeB 1 rfl rfl rfl rfl rfl (leN rfl) rfl ?_
    refine a_storeB 0 rfl rfl rfl rfl rfl (leN rfl) rfl ?_
    refine st (s_assign rfl) rfl ?_
    refine Run.nil ?_
    refine pj_then ?_
    refine J_ret ?_
    refine pr_then ?_
    refine retc3 Try.results26 (.cellB 1 rfl rfl rfl (bigT_zero)) (.cellB 0 rfl rfl rfl (bigT_zero)) (.tmp rfl (VT.le_refl _))
set_option maxHeartbeats 4000000 in
theorem rGcd_ok (a b : Int) (ha : small0 a) (hb : small0 b) : Ok Try.prog 37 [bigT a, bigT b] (bigT (Nat.gcd a.natAbs b.natAbs)) := by
  refine Ok.enter Try.func37 rfl Try.ntmps37 rfl (fun w O => ?_)
  refine J_seq ?_
  refine J_reg ?_
  refine a_boxS rfl rfl (ltN rfl) (fun b2 => ?_)
  refine a_boxS rfl rfl (ltN rfl) (fun b3 => ?_)
  refine a_alloc (T := 29) rfl (ltN rfl) (fun b4 => ?_)
  refine Run.nil ?_
  refine pj_then ?_
  refine J_seq ?_
  refine J_block ?_
  refine J_sub (Γ' := [(2, _), (3, _), (4, _)]) (SubG.cons rfl (VT.le_refl _) (SubG.cons rfl (VT.le_refl _) (SubG.cons rfl (VT.le_refl _) (SubG.nil)))) (SubM.refl _) ?_
  refine J_loopA (σ := Int × Int) (Γk := [(2, _), (3, _), (4, _)]) (SubG.cons rfl (VT.le_refl _) (SubG.cons rfl (VT.le_refl _) (SubG.cons rfl (VT.le_refl _) (SubG.nil)))) (fun p => []) (fun p M0 => ((M0.set 1 (boxO b3 29 (Lay.agg 2).sz [(0, Lay.agg 2, bigT p.2)])).set 2 (boxO b2 29 (Lay.agg 2).sz [(0, Lay.agg 2, bigT p.1)]))) (fun p => Nat.gcd p.1.natAbs p.2.natAbs = Nat.gcd a.natAbs b.natAbs ∧ small0 p.1 ∧ small0 p.2) (fun p => p.2.natAbs) ((a, b)) (⟨rfl, ha, hb⟩) (by repeat (first | exact SubG.refl _ | exact SubG.nil | refine SubG.cons rfl (VT.le_refl _) ?_ | (refine SubG.cons rfl (one_le ?_) ?_; (congr 1; first | omega | (simp; omega) | simp)))) (.keep (Own.le_refl _) (.keep (box_agg (VT.le_refl _)) (.keep (box_agg (VT.le_refl _)) (.nil)))) (fun p hp => ?_)
  refine J_norm (Γ' := [(2, _), (3, _), (4, _)]) (M' := [_, _, _]) rfl rfl ?_
  obtain ⟨x, y⟩ := p
  dsimp only at hp ⊢
  obtain ⟨p1, p2, p3⟩ := hp
  have hsg := rSignI_ok y
  by_cases hy : y = 0
  · have hs0 : sgnI y = 0 := by rw [hy]; rfl
    rw [hy] at p1
    rw [← p1, Int.natAbs_zero, Nat.gcd_zero_right]
    have hx : (digs x.natAbs).length ≤ 1099511627700 := p2
    have hm := rMade_ok false x.natAbs
    rw [if_neg (by decide)] at hm
    refine J_seq ?_
    refine J_seq ?_
    refine J_reg ?_
    refine st (s_loadB 1 rfl rfl rfl) rfl ?_
    refine st (s_callk (hsg ) rfl ⟨VT.le_refl _, trivial⟩) rfl ?_
    refine st (sF (by omega) (s_ne rfl rfl)) rfl ?_
    refine Run.nil ?_
    refine pj_then ?_
    refine J_cond0 rfl ?_
    refine J_exit ?_
    refine px_then ?_
    refine px_then ?_
    refine px_block ?_
    refine pj_then ?_
    refine J_seq ?_
    refine J_reg ?_
    refine st (s_fieldAddr rfl) rfl ?_
    refine st (s_loadBP 2 0 1 rfl rfl rfl rfl rfl) rfl ?_
    refine st (s_callk (hm ) rfl ⟨(natS_digs (by omega)), VT.le_refl _, trivial⟩) rfl ?_
    refine a_storeB 0 rfl rfl rfl rfl rfl (leN rfl) rfl ?_
    refine Run.nil ?_
    refine pj_then ?_
    refine J_ret ?_
    refine retc1 Try.results37 (.cellB 0 rfl rfl rfl (VT.le_refl _))
  · have hs0 : sgnI y ≠ 0 := by unfold sgnI; rw [if_neg hy]; split <;> decide
    have hdm := rDivMod_ok x y hy p2 p3
    have hlt := emod_abs_lt x hy
    refine J_seq ?_
    refine J_seq ?_
    refine J_reg ?_
    refine st (s_loadB 1 rfl rfl rfl) rfl ?_
    refine st (s_callk (hsg ) rfl ⟨VT.le_refl _, trivial⟩) rfl ?_
    refine st (sT (by assumption) (s_ne rfl rfl)) rfl ?_
    refine Run.nil ?_
    refine pj_then ?_
    refine J_cond1 rfl ?_
    refine J_skip ?_
    refine pj_then ?_
    refine J_block ?_
    refine J_seq ?_
    refine J_reg ?_
    refine st (s_loadB 2 rfl rfl rfl) rfl ?_
    refine st (s_loadB 1 rfl rfl rfl) rfl ?_
    refine st (s_callk (hdm ) rfl ⟨VT.le_refl _, VT.le_refl _, trivial⟩) rfl ?_
    refine st (s_move rfl) rfl ?_
    refine st (s_extract rfl rfl) rfl ?_
    refine st (s_extract rfl rfl) rfl ?_
    refine st (s_extract rfl rfl) rfl ?_
    refine a_alloc (T := 29) rfl (ltN rfl) (fun b5 => ?_)
    refine a_alloc (T := 29) rfl (ltN rfl) (fun b6 => ?_)
    refine a_storeB 1 rfl rfl rfl rfl rfl (leN rfl) rfl ?_
    refine a_storeB 0 rfl rfl rfl rfl rfl (leN rfl) rfl ?_
    refine st (s_assign rfl) rfl ?_
    refine Run.nil ?_
    refine pj_then ?_
    refine J_regY2 [⟨⟨3, b3, 29, Lay.agg 2⟩, _⟩, ⟨⟨2, b2, 29, Lay.agg 2⟩, _⟩] [_, _, _] mixed (by kernel_rfl) ((permPick 3 rfl).trans (.cons _ ((permPick 3 rfl).trans (.cons _ (List.Perm.refl _))))) rfl (And.intro rfl (And.intro rfl (trivial))) ?_
    refine wl 0 rfl (by kernel_rfl) (fun B => s_loadB 0 rfl rfl rfl) rfl ?_
    refine wx (fun B => s_loadB 0 rfl rfl rfl) rfl ?_
    refine ws rfl ?_
    refine ws rfl ?_
    refine RunY.nil ⟨And.intro rfl (And.intro rfl (And.intro rfl (And.intro rfl (trivial)))), ?_⟩
    refine PJ_normM (M' := [_, _, _, _, _]) rfl ?_
    refine pn_block ?_
    refine PJ_perm ((permPick 4 rfl).trans (.cons _ ((permPick 0 rfl).trans (.cons _ ((permPick 0 rfl).trans (.cons _ (List.Perm.refl _))))))) ?_
    refine pj_roundM ((y, x % y)) (⟨by rw [← p1]; exact gcd_step x y, p3, small0_abs p3 (Nat.le_of_lt hlt)⟩) (by assumption) (by repeat (first | exact SubG.refl _ | exact SubG.nil | refine SubG.cons rfl (VT.le_refl _) ?_ | (refine SubG.cons rfl (one_le ?_) ?_; (congr 1; first | omega | (simp; omega) | simp)))) (.keep (Own.le_refl _) (.keep (Own.le_refl _) (.keep (Own.le_refl _) (SubM.nilR _))))
end Tor
end

section
set_option linter.unusedVariables false
set_option linter.unusedSimpArgs false
namespace Tor
open Go Go.RowKit Go.Proofs
attribute [local irreducible] Tor.J Tor.PJ Tor.StepO Tor.one Tor.slT Tor.ptrT Tor.aggT Tor.tupT Tor.exT Tor.andT Tor.gT Tor.eP Tor.boxO Tor.sliO Tor.slV Tor.VT.le Tor.Ret Tor.anyT Tor.mapO Tor.metT
set_option maxHeartbeats 4000000 in
theorem rqOf_ok (n d : Int) (hd : d ≠ 0) (hn : small0 n) (hds : small0 d) : Ok Try.prog 39 [bigT n, bigT d] (tupT [ratT (Rat.divInt n d), one (.int .i64 0)]) := by
  have hsi := rSignI_ok d
  have hn1 := rNegI_ok n hn.small
  have hd1 := rNegI_ok d hds.small
  have e1 : small0 (-n) := small0_abs hn (by omega)
  have e2 : small0 (-d) := small0_abs hds (by omega)
  have g0 := gcd_ne (n := n) hd
  have g1 : small0 ((Nat.gcd n.natAbs d.natAbs : Nat) : Int) := small0_abs hds (by rw [Int.natAbs_natCast]; exact Nat.le_of_dvd (by omega) (Nat.gcd_dvd_right _ _))
  unfold ratT fracT
  refine Ok.enter Try.func39 rfl Try.ntmps39 rfl (fun w O => ?_)
  by_cases h : d < 0
  · obtain ⟨l1, l2⟩ := low_neg (n := n) h
    have hs : sgnI d = -1 := by unfold sgnI; rw [if_neg hd, if_pos h]
    have hg := rGcd_ok (-n) (-d) e1 e2
    rw [Int.natAbs_neg, Int.natAbs_neg] at hg
    have hm1 := rDivMod_ok (-n) _ g0 e1 g1
    have hm2 := rDivMod_ok (-d) _ g0 e2 g1
    have d1 : ((Nat.gcd n.natAbs d.natAbs : Nat) : Int) ∣ n := Int.gcd_dvd_left ..
    have d2 : ((Nat.gcd n.natAbs d.natAbs : Nat) : Int) ∣ d := Int.gcd_dvd_right ..
    rw [Int.ediv_neg, ← Int.neg_ediv_of_dvd d1] at l1
    rw [Int.ediv_neg, ← Int.neg_ediv_of_dvd d2] at l2
    refine J_seq ?_
    refine J_reg ?_
    refine a_boxS rfl rfl (ltN rfl) (fun b2 => ?_)
    refine a_boxS rfl rfl (ltN rfl) (fun b3 => ?_)
    refine a_allocS (T := 59) rfl rfl rfl (fun b4 => ?_)
    refine st (s_assign rfl) rfl ?_
    refine Run.nil ?_
    refine pj_then ?_
    refine J_seq ?_
    refine J_seq ?_
    refine J_reg ?_
    refine st (s_loadW 1 rfl rfl) rfl ?_
    refine st (s_callk (hsi ) rfl ⟨VT.le_refl _, trivial⟩) rfl ?_
    refine st (sF (by omega) (s_eq rfl rfl)) rfl ?_
    refine Run.nil ?_
    refine pj_then ?_
    refine J_cond0 rfl ?_
    refine J_skip ?_
    refine pj_then ?_
    refine J_seq ?_
    refine J_seq ?_
    refine J_reg ?_
    refine st (s_loadW 1 rfl rfl) rfl ?_
    refine st (s_callk (hsi ) rfl ⟨VT.le_refl _, trivial⟩) rfl ?_
    refine st (sT (by omega) (s_lt rfl rfl)) rfl ?_
    refine Run.nil ?_
    refine pj_then ?_
    refine J_cond1 rfl ?_
    refine J_regdT 3 mixed (by kernel_rfl) (by decide) ?_
    refine st (s_loadW 2 rfl rfl) rfl ?_
    refine st (s_callk (hn1 ) rfl ⟨VT.le_refl _, trivial⟩) rfl ?_
    refine st (s_loadW 1 rfl rfl) rfl ?_
    refine Run.nil ?_
    refine st (s_callk (hd1 ) rfl ⟨VT.le_refl _, trivial⟩) rfl ?_
    refine a_storeW 2 rfl rfl rfl rfl ?_
    refine a_storeW 1 rfl rfl rfl rfl ?_
    refine Run.nil ?_
    refine pj_then ?_
    refine J_seq ?_
    refine J_reg ?_
    refine st (s_loadW 2 rfl rfl) rfl ?_
    refine st (s_loadW 1 rfl rfl) rfl ?_
    refine st (s_callk (hg ) rfl ⟨VT.le_refl _, VT.le_refl _, trivial⟩) rfl ?_
    refine a_alloc (T := 29) rfl (ltN rfl) (fun b6 => ?_)
    refine a_storeB 0 rfl rfl rfl rfl rfl (leN rfl) rfl ?_
    refine Run.nil ?_
    refine pj_then ?_
    refine J_seq ?_
    refine J_reg ?_
    refine st (s_loadW 3 rfl rfl) rfl ?_
    refine st (s_loadB 0 rfl rfl rfl) rfl ?_
    refine st (s_callk (hm1 ) rfl ⟨VT.le_refl _, VT.le_refl _, trivial⟩) rfl ?_
    refine st (s_move rfl) rfl ?_
    refine st (s_extract rfl rfl) rfl ?_
    refine st (s_extract rfl rfl) rfl ?_
    refine st (s_extract rfl rfl) rfl ?_
    refine a_alloc (T := 29) rfl (ltN rfl) (fun b7 => ?_)
    refine a_alloc (T := 29) rfl (ltN rfl) (fun b8 => ?_)
    refine a_storeB 1 rfl rfl rfl rfl rfl (leN rfl) rfl ?_
    refine a_storeB 0 rfl rfl rfl rfl rfl (leN rfl) rfl ?_
    refine st (s_assign rfl) rfl ?_
    refine Run.nil ?_
    refine pj_then ?_
    refine J_seq ?_
    refine J_reg ?_
    refine st (s_loadW 4 rfl rfl) rfl ?_
    refine st (s_loadB 2 rfl rfl rfl) rfl ?_
    refine st (s_callk (hm2 ) rfl ⟨VT.le_refl _, VT.le_refl _, trivial⟩) rfl ?_
    refine st (s_move rfl) rfl ?_
    refine st (s_extract rfl rfl) rfl ?_
    refine st (s_extract rfl rfl) rfl ?_
    refine st (s_extract rfl rfl) rfl ?_
    refine a_alloc (T := 29) rfl (ltN rfl) (fun b10 => ?_)
    refine a_alloc (T := 29) rfl (ltN rfl) (fun b11 => ?_)
    refine a_storeB 1 rfl rfl rfl rfl rfl (leN rfl) rfl ?_
    refine a_storeB 0 rfl rfl rfl rfl rfl (leN rfl) rfl ?_
    refine st (s_assign rfl) rfl ?_
    refine Run.nil ?_
    refine pj_then ?_
    refine J_seq ?_
    refine J_reg ?_
    refine st (s_loadB 3 rfl rfl rfl) rfl ?_
    refine st (s_loadB 1 rfl rfl rfl) rfl ?_
    refine stB rfl rfl rfl ?_
    refine BuildK.cons rfl rfl rfl ?_
    refine BuildK.cons rfl rfl rfl ?_
    refine BuildK.nil ?_
    refine a_storeW 5 rfl rfl rfl rfl ?_
    refine st (s_assign rfl) rfl ?_
    refine Run.nil ?_
    refine pj_then ?_
    refine J_ret ?_
    refine retc2 Try.results39 (.cellW 5 rfl rfl (fracT_of l1 l2)) (.tmp rfl (VT.le_refl _))
  · obtain ⟨l1, l2⟩ := low_pos (n := n) (show 0 < d by omega)
    have hs : sgnI d = 1 := by unfold sgnI; rw [if_neg hd, if_neg h]
    have hg := rGcd_ok n d hn hds
    have hm1 := rDivMod_ok n _ g0 hn g1
    have hm2 := rDivMod_ok d _ g0 hds g1
    refine J_seq ?_
    refine J_reg ?_
    refine a_boxS rfl rfl (ltN rfl) (fun b2 => ?_)
    refine a_boxS rfl rfl (ltN rfl) (fun b3 => ?_)
    refine a_allocS (T := 59) rfl rfl rfl (fun b4 => ?_)
    refine st (s_assign rfl) rfl ?_
    refine Run.nil ?_
    refine pj_then ?_
    refine J_seq ?_
    refine J_seq ?_
    refine J_reg ?_
    refine st (s_loadW 1 rfl rfl) rfl ?_
    refine st (s_callk (hsi ) rfl ⟨VT.le_refl _, trivial⟩) rfl ?_
    refine st (sF (by omega) (s_eq rfl rfl)) rfl ?_
    refine Run.nil ?_
    refine pj_then ?_
    refine J_cond0 rfl ?_
    refine J_skip ?_
    refine pj_then ?_
    refine J_seq ?_
    refine J_seq ?_
    refine J_reg ?_
    refine st (s_loadW 1 rfl rfl) rfl ?_
    refine st (s_callk (hsi ) rfl ⟨VT.le_refl _, trivial⟩) rfl ?_
    refine st (sF (by omega) (s_lt rfl rfl)) rfl ?_
    refine Run.nil ?_
    refine pj_then ?_
    refine J_cond0 rfl ?_
    refine J_skip ?_
    refine pj_then ?_
    refine J_seq ?_
    refine J_reg ?_
    refine st (s_loadW 2 rfl rfl) rfl ?_
    refine st (s_loadW 1 rfl rfl) rfl ?_
    refine st (s_callk (hg ) rfl ⟨VT.le_refl _, VT.le_refl _, trivial⟩) rfl ?_
    refine a_alloc (T := 29) rfl (ltN rfl) (fun b6 => ?_)
    refine a_storeB 0 rfl rfl rfl rfl rfl (leN rfl) rfl ?_
    refine Run.nil ?_
    refine pj_then ?_
    refine J_seq ?_
    refine J_reg ?_
    refine st (s_loadW 3 rfl rfl) rfl ?_
    refine st (s_loadB 0 rfl rfl rfl) rfl ?_
    refine st (s_callk (hm1 ) rfl ⟨VT.le_refl _, VT.le_refl _, trivial⟩) rfl ?_
    refine st (s_move rfl) rfl ?_
    refine st (s_extract rfl rfl) rfl ?_
    refine st (s_extract rfl rfl) rfl ?_
    refine st (s_extract rfl rfl) rfl ?_
    refine a_alloc (T := 29) rfl (ltN rfl) (fun b7 => ?_)
    refine a_alloc (T := 29) rfl (ltN rfl) (fun b8 => ?_)
    refine a_storeB 1 rfl rfl rfl rfl rfl (leN rfl) rfl ?_
    refine a_storeB 0 rfl rfl rfl rfl rfl (leN rfl) rfl ?_
    refine st (s_assign rfl) rfl ?_
    refine Run.nil ?_
    refine pj_then ?_
    refine J_seq ?_
    refine J_reg ?_
    refine st (s_loadW 4 rfl rfl) rfl ?_
    refine st (s_loadB 2 rfl rfl rfl) rfl ?_
    refine st (s_callk (hm2 ) rfl ⟨VT.le_refl _, VT.le_refl _, trivial⟩) rfl ?_
    refine st (s_move rfl) rfl ?_
    refine st (s_extract rfl rfl) rfl ?_
    refine st (s_extract rfl rfl) rfl ?_
    refine st (s_extract rfl rfl) rfl ?_
    refine a_alloc (T := 29) rfl (ltN rfl) (fun b10 => ?_)
    refine a_alloc (T := 29) rfl (ltN rfl) (fun b11 => ?_)
    refine a_storeB 1 rfl rfl rfl rfl rfl (leN rfl) rfl ?_
    refine a_storeB 0 rfl rfl rfl rfl rfl (leN rfl) rfl ?_
    refine st (s_assign rfl) rfl ?_
    refine Run.nil ?_
    refine pj_then ?_
    refine J_seq ?_
    refine J_reg ?_
    refine st (s_loadB 3 rfl rfl rfl) rfl ?_
    refine st (s_loadB 1 rfl rfl rfl) rfl ?_
    refine stB rfl rfl rfl ?_
    refine BuildK.cons rfl rfl rfl ?_
    refine BuildK.cons rfl rfl rfl ?_
    refine BuildK.nil ?_
    refine a_storeW 5 rfl rfl rfl rfl ?_
    refine st (s_assign rfl) rfl ?_
    refine Run.nil ?_
    refine pj_then ?_
    refine J_ret ?_
    refine retc2 Try.results39 (.cellW 5 rfl rfl (fracT_of l1 l2)) (.tmp rfl (VT.le_refl _))
set_option maxHeartbeats 4000000 in
theorem rqOf0_ok (n : Int) : Ok Try.prog 39 [bigT n, bigT 0] (tupT [fracT 0 0, one (.int .i64 3)]) := by
  have hsi := rSignI_ok 0
  have hs : sgnI 0 = 0 := rfl
  unfold fracT
  refine Ok.enter Try.func39 rfl Try.ntmps39 rfl (fun w O => ?_)
  refine J_seq ?_
  refine J_reg ?_
  refine a_boxS rfl rfl (ltN rfl) (fun b2 => ?_)
  refine a_boxS rfl rfl (ltN rfl) (fun b3 => ?_)
  refine a_allocS (T := 59) rfl rfl rfl (fun b4 => ?_)
  refine st (s_assign rfl) rfl ?_
  refine Run.nil ?_
  refine pj_then ?_
  refine J_seq ?_
  refine J_seq ?_
  refine J_reg ?_
  refine st (s_loadW 1 rfl rfl) rfl ?_
  refine st (s_callk (hsi ) rfl ⟨VT.le_refl _, trivial⟩) rfl ?_
  refine st (sT (by assumption) (s_eq rfl rfl)) rfl ?_
  refine Run.nil ?_
  refine pj_then ?_
  refine J_cond1 rfl ?_
  refine J_seq ?_
  refine J_reg ?_
  refine stB rfl rfl rfl ?_
  refine BuildK.nil ?_
  refine a_storeW 0 rfl rfl rfl rfl ?_
  refine st (s_assign rfl) rfl ?_
  refine Run.nil ?_
  refine pj_then ?_
  refine J_ret ?_
  refine pr_then ?_
  refine retc2 Try.results39 (.cellW 0 rfl rfl (frac00)) (.tmp rfl (VT.le_refl _))
set_option maxHeartbeats 4000000 in
theorem rqSameF_ok (a b c d : Int) : Ok Try.prog 32 [fracT a b, fracT c d] (one (.bool (decide (a = c) && decide (b = d)))) := by
  have h1 := rSame_ok a c
  have h2 := rSame_ok b d
  unfold fracT
  refine Ok.enter Try.func32 rfl Try.ntmps32 rfl (fun w O => ?_)
  by_cases c1 : a = c
  · rw [decide_eq_true c1] at h1 ⊢
    refine J_seq ?_
    refine J_reg ?_
    refine a_boxS rfl rfl (ltN rfl) (fun b2 => ?_)
    refine a_boxS rfl rfl (ltN rfl) (fun b3 => ?_)
    refine st (s_assign rfl) rfl ?_
    refine Run.nil ?_
    refine pj_then ?_
    refine J_seq ?_
    refine J_reg ?_
    refine st (s_fieldAddr rfl) rfl ?_
    refine st (s_loadB 1 rfl rfl rfl) rfl ?_
    refine st (s_fieldAddr rfl) rfl ?_
    refine st (s_loadB 0 rfl rfl rfl) rfl ?_
    refine st (s_callk (h1 ) rfl ⟨VT.le_refl _, VT.le_refl _, trivial⟩) rfl ?_
    refine st (s_move rfl) rfl ?_
    refine sg1 rfl rfl (s_fieldAddr rfl) rfl ?_
    refine sg1 rfl rfl (s_loadB 1 rfl rfl rfl) rfl ?_
    refine sg1 rfl rfl (s_fieldAddr rfl) rfl ?_
    refine sg1 rfl rfl (s_loadB 0 rfl rfl rfl) rfl ?_
    refine sg1 rfl rfl (s_callk (h2 ) rfl ⟨VT.le_refl _, VT.le_refl _, trivial⟩) rfl ?_
    refine st (s_pickT rfl rfl) rfl ?_
    refine st (s_assign rfl) rfl ?_
    refine Run.nil ?_
    refine pj_then ?_
    refine J_ret ?_
    refine retc1 Try.results32 (.tmp rfl (VT.le_refl _))
  · rw [decide_eq_false c1] at h1 ⊢
    refine J_seq ?_
    refine J_reg ?_
    refine a_boxS rfl rfl (ltN rfl) (fun b2 => ?_)
    refine a_boxS rfl rfl (ltN rfl) (fun b3 => ?_)
    refine st (s_assign rfl) rfl ?_
    refine Run.nil ?_
    refine pj_then ?_
    refine J_seq ?_
    refine J_reg ?_
    refine st (s_fieldAddr rfl) rfl ?_
    refine st (s_loadB 1 rfl rfl rfl) rfl ?_
    refine st (s_fieldAddr rfl) rfl ?_
    refine st (s_loadB 0 rfl rfl rfl) rfl ?_
    refine st (s_callk (h1 ) rfl ⟨VT.le_refl _, VT.le_refl _, trivial⟩) rfl ?_
    refine st (s_move rfl) rfl ?_
    refine sg0 rfl rfl rfl rfl ?_
    refine sg0 rfl rfl rfl rfl ?_
    refine sg0 rfl rfl rfl rfl ?_
    refine sg0 rfl rfl rfl rfl ?_
    refine sg0 rfl rfl rfl rfl ?_
    refine st (s_pickF rfl rfl) rfl ?_
    refine st (s_assign rfl) rfl ?_
    refine Run.nil ?_
    refine pj_then ?_
    refine J_ret ?_
    refine retc1 Try.results32 (.tmp rfl (VT.le_refl _))
theorem rqSame_ok (q r : Rat) : Ok Try.prog 32 [ratT q, ratT r] (one (.bool (decide (q = r)))) := by
  have h := rqSameF_ok q.num q.den r.num r.den
  have e : (decide (q.num = r.num) && decide ((q.den : Int) = (r.den : Int))) = decide (q = r) := by
    rw [← Bool.decide_and]
    exact decide_eq_decide.2 ⟨fun ⟨h1, h2⟩ => Rat.ext h1 (by omega), fun h => by rw [h]; exact ⟨rfl, rfl⟩⟩
  rw [e] at h
  exact h
theorem rValidI_ok (x : Int) (hx : small x) : Ok Try.prog 22 [bigT x] (one (.bool true)) := by
  have hx' : (digs x.natAbs).length ≤ 1099511627776 := hx
  have h := rValid_ok (decide (x < 0)) (digs x.natAbs) (by omega)
  have e : validI (decide (x < 0)) (digs x.natAbs) = true := by
    unfold validI
    by_cases h0 : (digs x.natAbs).length = 0
    · have := digs_nil h0
      rw [if_pos h0, decide_eq_false (by omega)]; rfl
    · rw [if_neg h0]
      have h1 : x.natAbs ≠ 0 := fun k => h0 (by rw [k]; rfl)
      have := topd_pos h1
      exact decide_eq_true (by omega)
  rw [e] at h
  exact h
set_option maxHeartbeats 4000000 in
theorem rqValid_ok (q : Rat) (h1 : small0 q.num) (h2 : small0 (q.den : Int)) : Ok Try.prog 35 [ratT q] (one (.bool true)) := by
  have v1 := rValidI_ok q.num h1.small
  have v2 := rValidI_ok (q.den : Int) h2.small
  have hsi := rSignI_ok (q.den : Int)
  have hd := q.den_nz
  have hs : sgnI (q.den : Int) = 1 := by unfold sgnI; rw [if_neg (by omega), if_neg (by omega)]
  have hg := rGcd_ok q.num (q.den : Int) h1 h2
  rw [Int.natAbs_natCast, show Nat.gcd q.num.natAbs q.den = 1 from q.reduced] at hg
  have ho := rOf_ok 1 (by decide) (by decide)
  have hc := rCmpI_ok ((1 : Nat) : Int) 1 (small_lt (by decide +kernel)) (small_lt (by decide +kernel))
  rw [show cmpI ((1 : Nat) : Int) 1 = 0 from rfl] at hc
  unfold ratT fracT
  refine Ok.enter Try.func35 rfl Try.ntmps35 rfl (fun w O => ?_)
  refine J_seq ?_
  refine J_reg ?_
  refine a_boxS rfl rfl (ltN rfl) (fun b1 => ?_)
  refine st (s_assign rfl) rfl ?_
  refine Run.nil ?_
  refine pj_then ?_
  refine J_seq ?_
  refine J_seq ?_
  refine J_reg ?_
  refine st (s_fieldAddr rfl) rfl ?_
  refine st (s_loadB 0 rfl rfl rfl) rfl ?_
  refine st (s_callk (v1 ) rfl ⟨VT.le_refl _, trivial⟩) rfl ?_
  refine st (s_not rfl) rfl ?_
  refine st (s_move rfl) rfl ?_
  refine sg1 rfl rfl (s_fieldAddr rfl) rfl ?_
  refine sg1 rfl rfl (s_loadB 0 rfl rfl rfl) rfl ?_
  refine sg1 rfl rfl (s_callk (v2 ) rfl ⟨VT.le_refl _, trivial⟩) rfl ?_
  refine sg1 rfl rfl (s_not rfl) rfl ?_
  refine st (s_pickF rfl rfl) rfl ?_
  refine st (s_move rfl) rfl ?_
  refine sg1 rfl rfl (s_fieldAddr rfl) rfl ?_
  refine sg1 rfl rfl (s_loadB 0 rfl rfl rfl) rfl ?_
  refine sg1 rfl rfl (s_callk (hsi ) rfl ⟨VT.le_refl _, trivial⟩) rfl ?_
  refine sg1 rfl rfl (sF (by omega) (s_lt rfl rfl)) rfl ?_
  refine st (s_pickF rfl rfl) rfl ?_
  refine Run.nil ?_
  refine pj_then ?_
  refine J_cond0 rfl ?_
  refine J_skip ?_
  refine pj_then ?_
  refine J_seq ?_
  refine J_reg ?_
  refine st (s_fieldAddr rfl) rfl ?_
  refine st (s_loadB 0 rfl rfl rfl) rfl ?_
  refine st (s_fieldAddr rfl) rfl ?_
  refine st (s_loadB 0 rfl rfl rfl) rfl ?_
  refine st (s_callk (hg ) rfl ⟨VT.le_refl _, VT.le_refl _, trivial⟩) rfl ?_
  refine st (s_callk (ho ) rfl ⟨VT.le_refl _, trivial⟩) rfl ?_
  refine st (s_callk (hc ) rfl ⟨VT.le_refl _, VT.le_refl _, trivial⟩) rfl ?_
  refine st (sT (by omega) (s_eq rfl rfl)) rfl ?_
  refine st (s_assign rfl) rfl ?_
  refine Run.nil ?_
  refine pj_then ?_
  refine J_ret ?_
  refine retc1 Try.results35 (.tmp rfl (VT.le_refl _))
end Tor
end

section
set_option linter.unusedVariables false
set_option linter.unusedSimpArgs false
namespace Tor
open Go Go.RowKit Go.Proofs
/-- A residue: a number and its remainder. -/
def resT (p : Nat × Nat) : VT := aggT 2 [(0, .one, one (.int .u64 (p.1 : Int))), (1, .one, one (.int .u64 (p.2 : Int)))]
def ressT (l : List (Nat × Nat)) : VT := slT (.agg 2) l.length (fun i => resT (l.getD i (0, 0)))
instance {p : Nat × Nat} : Flat (resT p) (.agg 2) := by unfold resT; infer_instance
/-- 64 bit numbers. -/
def Res64 (l : List (Nat × Nat)) : Prop := ∀ p ∈ l, p.1 < 18446744073709551616 ∧ p.2 < 18446744073709551616
theorem Res64.get {l : List (Nat × Nat)} (h : Res64 l) (i : Nat) : (l.getD i (0, 0)).1 < 18446744073709551616 ∧ (l.getD i (0, 0)).2 < 18446744073709551616 := by
  rw [List.getD]
  cases hx : l[i]? with
  | none => simp
  | some x => simp; exact h x (List.mem_of_getElem? hx)
/-- What crt.valid answers. -/
def validF (seen : List Nat) : List (Nat × Nat) → Bool
  | [] => true
  | p :: r => if p.1 ∈ seen then false else if primeB p.1 = false then false else if p.1 ≤ p.2 then false else validF (seen ++ [p.1]) r
def fstN (l : List (Nat × Nat)) (i : Nat) : List Nat := (l.take i).map (·.1)
theorem drop_getD' {α : Type} {l : List α} {k : Nat} (d : α) (h : k < l.length) : l.drop k = l.getD k d :: l.drop (k + 1) := by
  rw [List.drop_eq_getElem_cons h]; simp [List.getD, h]
theorem take_getD' {α : Type} {l : List α} {k : Nat} (d : α) (h : k < l.length) : l.take (k + 1) = l.take k ++ [l.getD k d] := by
  rw [List.take_succ_eq_append_getElem h]; simp [List.getD, h]
theorem fstN_succ {l : List (Nat × Nat)} {i : Nat} (h : i < l.length) : fstN l (i + 1) = fstN l i ++ [(l.getD i (0, 0)).1] := by
  unfold fstN; rw [take_getD' (0, 0) h, List.map_append]; rfl
theorem validF_step {l : List (Nat × Nat)} {i : Nat} (h : i < l.length) : validF (fstN l i) (l.drop i) = if (l.getD i (0, 0)).1 ∈ fstN l i then false else if primeB (l.getD i (0, 0)).1 = false then false else if (l.getD i (0, 0)).1 ≤ (l.getD i (0, 0)).2 then false else validF (fstN l (i + 1)) (l.drop (i + 1)) := by
  rw [drop_getD' (0, 0) h, validF, fstN_succ h]
theorem map_eq {b : Nat} {ks ks' : List Nat} (h : ks' = ks) : Own.le (mapO b ks) (mapO b ks') := h ▸ Own.le_refl _
instance : MapOf Go.Proofs.Try.prog 97 46 4 .u64 := ⟨by kernel_rfl, by kernel_rfl⟩
attribute [local irreducible] Tor.J Tor.PJ Tor.StepO Tor.one Tor.slT Tor.ptrT Tor.aggT Tor.tupT Tor.exT Tor.andT Tor.gT Tor.eP Tor.boxO Tor.sliO Tor.slV Tor.VT.le Tor.Ret Tor.anyT Tor.mapO Tor.metT
set_option maxHeartbeats 4000000 in
theorem cvalid_ok (l : List (Nat × Nat)) (h64 : Res64 l) : Ok Try.prog 44 [ressT l] (one (.bool (validF [] l))) := by
  unfold ressT
  refine Ok.enter Try.func44 rfl Try.ntmps44 rfl (fun w O => ?_)
  refine J_fact (t := 0) rfl (fun _ _ => slT_bound) (fun hbound => ?_)
  refine J_seq ?_
  refine J_reg ?_
  refine st (s_assign rfl) rfl ?_
  refine Run.nil ?_
  refine pj_then ?_
  refine J_seq ?_
  refine J_reg ?_
  refine a_makeMap rfl (ltN rfl) (fun b6 => ?_)
  refine st (s_assign rfl) rfl ?_
  refine Run.nil ?_
  refine pj_then ?_
  refine J_seq ?_
  refine J_seq ?_
  refine J_reg ?_
  refine st (s_move rfl) rfl ?_
  refine st (s_len rfl) rfl ?_
  refine st (s_move rfl) rfl ?_
  refine Run.nil ?_
  refine pj_then ?_
  refine J_block ?_
  refine J_sub (Γ' := [(2, _), (3, _), (7, _), (8, _), (9, _)]) (SubG.cons rfl (VT.le_refl _) (SubG.cons rfl (VT.le_refl _) (SubG.cons rfl (VT.le_refl _) (SubG.cons rfl (VT.le_refl _) (SubG.cons rfl (VT.le_refl _) (SubG.nil)))))) (SubM.refl _) ?_
  refine J_loopA (σ := Nat) (Γk := [(3, _), (7, _), (8, _)]) (SubG.cons rfl (VT.le_refl _) (SubG.cons rfl (VT.le_refl _) (SubG.cons rfl (VT.le_refl _) (SubG.nil)))) (fun i => [(9, one (.int .i64 (i : Nat)))]) (fun i M0 => (M0.set 0 (mapO b6 (fstN l i)))) (fun i => i ≤ l.length ∧ validF (fstN l i) (l.drop i) = validF [] l) (fun i => l.length - i) (0) (⟨Nat.zero_le _, rfl⟩) (by repeat (first | exact SubG.refl _ | exact SubG.nil | refine SubG.cons rfl (VT.le_refl _) ?_ | (refine SubG.cons rfl (one_le ?_) ?_; (congr 1; first | omega | (simp; omega) | simp)))) (.keep (Own.le_refl _) (.nil)) (fun i hi => ?_)
  refine J_norm (Γ' := [(9, _), (3, _), (7, _), (8, _)]) (M' := [_]) rfl rfl ?_
  obtain ⟨hi, hv⟩ := hi
  by_cases hc : i < l.length
  · rw [validF_step hc] at hv
    obtain ⟨h1, h2⟩ := h64.get i
    unfold resT
    have hpr := mPrime_ok _ h1
    by_cases c1 : (l.getD i (0, 0)).1 ∈ fstN l i
    · rw [if_pos c1] at hv
      rw [← hv]
      refine J_seq ?_
      refine J_reg ?_
      refine st (sT (by omega) (s_lt rfl rfl)) rfl ?_
      refine Run.nil ?_
      refine pj_then ?_
      refine J_seq ?_
      refine J_cond1 rfl ?_
      refine J_skip ?_
      refine pj_then ?_
      refine J_seq ?_
      refine J_block ?_
      refine J_seq ?_
      refine J_reg ?_
      refine st (s_indexIN rfl rfl (by omega)) rfl ?_
      refine st (s_load rfl) rfl ?_
      refine a_allocS (T := 48) rfl rfl rfl (fun b5 => ?_)
      refine a_storeW 0 rfl rfl rfl rfl ?_
      refine Run.nil ?_
      refine pj_then ?_
      refine J_seq ?_
      refine J_seq ?_
      refine J_reg ?_
      refine st (s_move rfl) rfl ?_
      refine st (s_fieldAddr rfl) rfl ?_
      refine st (s_loadB 0 rfl rfl rfl) rfl ?_
      refine st (sT (by assumption) (s_lookup 1 rfl rfl rfl)) rfl ?_
      refine st (s_move rfl) rfl ?_
      refine sg0 rfl rfl rfl rfl ?_
      refine sg0 rfl rfl rfl rfl ?_
      refine sg0 rfl rfl rfl rfl ?_
      refine sg0 rfl rfl rfl rfl ?_
      refine st (s_pickT rfl rfl) rfl ?_
      refine st (s_move rfl) rfl ?_
      refine sg0 rfl rfl rfl rfl ?_
      refine sg0 rfl rfl rfl rfl ?_
      refine sg0 rfl rfl rfl rfl ?_
      refine sg0 rfl rfl rfl rfl ?_
      refine sg0 rfl rfl rfl rfl ?_
      refine st (s_pickT rfl rfl) rfl ?_
      refine Run.nil ?_
      refine pj_then ?_
      refine J_cond1 rfl ?_
      refine J_seq ?_
      refine J_reg ?_
      refine st (s_assign rfl) rfl ?_
      refine Run.nil ?_
      refine pj_then ?_
      refine J_ret ?_
      refine pr_then ?_
      refine pr_block ?_
      refine pr_then ?_
      refine pr_then ?_
      refine pr_block ?_
      refine pr_then ?_
      refine retc1 Try.results44 (.tmp rfl (VT.le_refl _))
    · rw [if_neg c1] at hv
      cases c2 : primeB (l.getD i (0, 0)).1
      · rw [if_pos c2] at hv
        rw [← hv]
        rw [c2] at hpr
        refine J_seq ?_
        refine J_reg ?_
        refine st (sT (by omega) (s_lt rfl rfl)) rfl ?_
        refine Run.nil ?_
        refine pj_then ?_
        refine J_seq ?_
        refine J_cond1 rfl ?_
        refine J_skip ?_
        refine pj_then ?_
        refine J_seq ?_
        refine J_block ?_
        refine J_seq ?_
        refine J_reg ?_
        refine st (s_indexIN rfl rfl (by omega)) rfl ?_
        refine st (s_load rfl) rfl ?_
        refine a_allocS (T := 48) rfl rfl rfl (fun b5 => ?_)
        refine a_storeW 0 rfl rfl rfl rfl ?_
        refine Run.nil ?_
        refine pj_then ?_
        refine J_seq ?_
        refine J_seq ?_
        refine J_reg ?_
        refine st (s_move rfl) rfl ?_
        refine st (s_fieldAddr rfl) rfl ?_
        refine st (s_loadB 0 rfl rfl rfl) rfl ?_
        refine st (sF (by assumption) (s_lookup 1 rfl rfl rfl)) rfl ?_
        refine st (s_move rfl) rfl ?_
        refine sg1 rfl rfl (s_fieldAddr rfl) rfl ?_
        refine sg1 rfl rfl (s_loadB 0 rfl rfl rfl) rfl ?_
        refine sg1 rfl rfl (s_callk (hpr ) rfl ⟨VT.le_refl _, trivial⟩) rfl ?_
        refine sg1 rfl rfl (s_not rfl) rfl ?_
        refine st (s_pickF rfl rfl) rfl ?_
        refine st (s_move rfl) rfl ?_
        refine sg0 rfl rfl rfl rfl ?_
        refine sg0 rfl rfl rfl rfl ?_
        refine sg0 rfl rfl rfl rfl ?_
        refine sg0 rfl rfl rfl rfl ?_
        refine sg0 rfl rfl rfl rfl ?_
        refine st (s_pickT rfl rfl) rfl ?_
        refine Run.nil ?_
        refine pj_then ?_
        refine J_cond1 rfl ?_
        refine J_seq ?_
        refine J_reg ?_
        refine st (s_assign rfl) rfl ?_
        refine Run.nil ?_
        refine pj_then ?_
        refine J_ret ?_
        refine pr_then ?_
        refine pr_block ?_
        refine pr_then ?_
        refine pr_then ?_
        refine pr_block ?_
        refine pr_then ?_
        refine retc1 Try.results44 (.tmp rfl (VT.le_refl _))
      · rw [if_neg (by rw [c2]; decide)] at hv
        rw [c2] at hpr
        by_cases c3 : (l.getD i (0, 0)).1 ≤ (l.getD i (0, 0)).2
        · rw [if_pos c3] at hv
          rw [← hv]
          refine J_seq ?_
          refine J_reg ?_
          refine st (sT (by omega) (s_lt rfl rfl)) rfl ?_
          refine Run.nil ?_
          refine pj_then ?_
          refine J_seq ?_
          refine J_cond1 rfl ?_
          refine J_skip ?_
          refine pj_then ?_
          refine J_seq ?_
          refine J_block ?_
          refine J_seq ?_
          refine J_reg ?_
          refine st (s_indexIN rfl rfl (by omega)) rfl ?_
          refine st (s_load rfl) rfl ?_
          refine a_allocS (T := 48) rfl rfl rfl (fun b5 => ?_)
          refine a_storeW 0 rfl rfl rfl rfl ?_
          refine Run.nil ?_
          refine pj_then ?_
          refine J_seq ?_
          refine J_seq ?_
          refine J_reg ?_
          refine st (s_move rfl) rfl ?_
          refine st (s_fieldAddr rfl) rfl ?_
          refine st (s_loadB 0 rfl rfl rfl) rfl ?_
          refine st (sF (by assumption) (s_lookup 1 rfl rfl rfl)) rfl ?_
          refine st (s_move rfl) rfl ?_
          refine sg1 rfl rfl (s_fieldAddr rfl) rfl ?_
          refine sg1 rfl rfl (s_loadB 0 rfl rfl rfl) rfl ?_
          refine sg1 rfl rfl (s_callk (hpr ) rfl ⟨VT.le_refl _, trivial⟩) rfl ?_
          refine sg1 rfl rfl (s_not rfl) rfl ?_
          refine st (s_pickF rfl rfl) rfl ?_
          refine st (s_move rfl) rfl ?_
          refine sg1 rfl rfl (s_fieldAddr rfl) rfl ?_
          refine sg1 rfl rfl (s_loadB 0 rfl rfl rfl) rfl ?_
          refine sg1 rfl rfl (s_fieldAddr rfl) rfl ?_
          refine sg1 rfl rfl (s_loadB 0 rfl rfl rfl) rfl ?_
          refine sg1 rfl rfl (sT (by omega) (s_ge rfl rfl)) rfl ?_
          refine st (s_pickF rfl rfl) rfl ?_
          refine Run.nil ?_
          refine pj_then ?_
          refine J_cond1 rfl ?_
          refine J_seq ?_
          refine J_reg ?_
          refine st (s_assign rfl) rfl ?_
          refine Run.nil ?_
          refine pj_then ?_
          refine J_ret ?_
          refine pr_then ?_
          refine pr_block ?_
          refine pr_then ?_
          refine pr_then ?_
          refine pr_block ?_
          refine pr_then ?_
          refine retc1 Try.results44 (.tmp rfl (VT.le_refl _))
        · rw [if_neg c3] at hv
          refine J_seq ?_
          refine J_reg ?_
          refine st (sT (by omega) (s_lt rfl rfl)) rfl ?_
          refine Run.nil ?_
          refine pj_then ?_
          refine J_seq ?_
          refine J_cond1 rfl ?_
          refine J_skip ?_
          refine pj_then ?_
          refine J_seq ?_
          refine J_block ?_
          refine J_seq ?_
          refine J_reg ?_
          refine st (s_indexIN rfl rfl (by omega)) rfl ?_
          refine st (s_load rfl) rfl ?_
          refine a_allocS (T := 48) rfl rfl rfl (fun b5 => ?_)
          refine a_storeW 0 rfl rfl rfl rfl ?_
          refine Run.nil ?_
          refine pj_then ?_
          refine J_seq ?_
          refine J_seq ?_
          refine J_reg ?_
          refine st (s_move rfl) rfl ?_
          refine st (s_fieldAddr rfl) rfl ?_
          refine st (s_loadB 0 rfl rfl rfl) rfl ?_
          refine st (sF (by assumption) (s_lookup 1 rfl rfl rfl)) rfl ?_
          refine st (s_move rfl) rfl ?_
          refine sg1 rfl rfl (s_fieldAddr rfl) rfl ?_
          refine sg1 rfl rfl (s_loadB 0 rfl rfl rfl) rfl ?_
          refine sg1 rfl rfl (s_callk (hpr ) rfl ⟨VT.le_refl _, trivial⟩) rfl ?_
          refine sg1 rfl rfl (s_not rfl) rfl ?_
          refine st (s_pickF rfl rfl) rfl ?_
          refine st (s_move rfl) rfl ?_
          refine sg1 rfl rfl (s_fieldAddr rfl) rfl ?_
          refine sg1 rfl rfl (s_loadB 0 rfl rfl rfl) rfl ?_
          refine sg1 rfl rfl (s_fieldAddr rfl) rfl ?_
          refine sg1 rfl rfl (s_loadB 0 rfl rfl rfl) rfl ?_
          refine sg1 rfl rfl (sF (by omega) (s_ge rfl rfl)) rfl ?_
          refine st (s_pickF rfl rfl) rfl ?_
          refine Run.nil ?_
          refine pj_then ?_
          refine J_cond0 rfl ?_
          refine J_skip ?_
          refine pj_then ?_
          refine J_reg ?_
          refine st (s_move rfl) rfl ?_
          refine st (s_fieldAddr rfl) rfl ?_
          refine st (s_loadB 0 rfl rfl rfl) rfl ?_
          (refine a_mapUpdate 1 rfl rfl rfl rfl ?_ rfl ?_; assumption)
          refine Run.nil ?_
          refine pn_block ?_
          refine pj_then ?_
          refine J_reg ?_
          refine st (s_addN _ 1 rfl rfl (by omega)) rfl ?_
          refine st (s_move rfl) rfl ?_
          refine Run.nil ?_
          refine pj_roundM (i + 1) (⟨by omega, hv⟩) (by omega) (by repeat (first | exact SubG.refl _ | exact SubG.nil | refine SubG.cons rfl (VT.le_refl _) ?_ | (refine SubG.cons rfl (one_le ?_) ?_; (congr 1; first | omega | (simp; omega) | simp)))) (.drop (.keep (map_eq (fstN_succ hc)) (.nil)))
  · have hl : i = l.length := by omega
    rw [hl, List.drop_length] at hv
    rw [← hv]
    refine J_seq ?_
    refine J_reg ?_
    refine st (sF (by omega) (s_lt rfl rfl)) rfl ?_
    refine Run.nil ?_
    refine pj_then ?_
    refine J_seq ?_
    refine J_cond0 rfl ?_
    refine J_exit ?_
    refine px_then ?_
    refine px_then ?_
    refine px_block ?_
    refine pj_then ?_
    refine J_seq ?_
    refine J_reg ?_
    refine st (s_assign rfl) rfl ?_
    refine Run.nil ?_
    refine pj_then ?_
    refine J_ret ?_
    refine retc1 Try.results44 (.tmp rfl (VT.le_refl _))
end Tor
end

section
set_option linter.unusedVariables false
set_option linter.unusedSimpArgs false
namespace Tor
open Go Go.RowKit Go.Proofs
/-- No divisor from 2 up to the square root. -/
def Trial (n : Nat) : Prop := ∀ d, 2 ≤ d → d * d ≤ n → n % d ≠ 0
/-- The test of a run of 2^k divisors from d on. -/
def trialB (n : Nat) : Nat → Nat → Bool
  | 0, d => Nat.ble (n + 1) (d * d) || !(Nat.beq (n % d) 0)
  | k + 1, d => trialB n k d && trialB n k (d + 2 ^ k)
theorem trialB_ok {n : Nat} : ∀ {k d : Nat}, trialB n k d = true → ∀ e, d ≤ e → e < d + 2 ^ k → e * e ≤ n → n % e ≠ 0
  | 0, d, h, e, h1, h2, h3 => by
    have : e = d := by simp at h2; omega
    subst this
    simp only [trialB, Bool.or_eq_true, Bool.not_eq_true'] at h
    rcases h with h | h
    · have := Nat.le_of_ble_eq_true h; omega
    · intro hz; rw [hz] at h; cases h
  | k + 1, d, h, e, h1, h2, h3 => by
    simp only [trialB, Bool.and_eq_true] at h
    rw [Nat.pow_succ] at h2
    rcases Nat.lt_or_ge e (d + 2 ^ k) with hl | hl
    · exact trialB_ok h.1 e h1 hl h3
    · exact trialB_ok h.2 e hl (by omega) h3
theorem trial_of {n k : Nat} (h : trialB n k 2 = true) (hn : n < (2 + 2 ^ k) * (2 + 2 ^ k)) : Trial n := fun d h1 h2 => by
  rcases Nat.lt_or_ge d (2 + 2 ^ k) with hl | hl
  · exact trialB_ok h d h1 hl h2
  · have := Nat.mul_le_mul hl hl; omega
def somes : List Nat := [2, 3, 5, 7, 11, 13, 17, 19, 23, 29, 31, 37, 41, 43, 47, 65537, 2147483629, 2147483647]
theorem trial_a : trialB 2147483629 16 2 = true := by decide +kernel
theorem trial_b : trialB 2147483647 16 2 = true := by decide +kernel
theorem trial_c : trialB 65537 8 2 = true := by decide +kernel
theorem somes_trial : ∀ p ∈ somes, Trial p := by
  have h : (([2, 3, 5, 7, 11, 13, 17, 19, 23, 29, 31, 37, 41, 43, 47] : List Nat).all fun p => trialB p 3 2 && decide (p < 100)) = true := by decide +kernel
  intro p hp
  have hs : somes = [2, 3, 5, 7, 11, 13, 17, 19, 23, 29, 31, 37, 41, 43, 47] ++ [65537, 2147483629, 2147483647] := rfl
  rw [hs] at hp
  rcases List.mem_append.1 hp with hp | hp
  · have := List.all_eq_true.1 h p hp
    simp only [Bool.and_eq_true, decide_eq_true_eq] at this
    exact trial_of (k := 3) this.1 (by omega)
  · rcases List.mem_cons.1 hp with rfl | hp
    · exact trial_of (k := 8) trial_c (by decide)
    · rcases List.mem_cons.1 hp with rfl | hp
      · exact trial_of (k := 16) trial_a (by decide)
      · rw [List.mem_singleton.1 hp]
        exact trial_of (k := 16) trial_b (by decide)
theorem somes_at : ∀ q, q < 18 → [one (.int .u64 2147483647), one (.int .u64 2147483629), one (.int .u64 65537), one (.int .u64 47), one (.int .u64 43), one (.int .u64 41), one (.int .u64 37), one (.int .u64 31), one (.int .u64 29), one (.int .u64 23), one (.int .u64 19), one (.int .u64 17), one (.int .u64 13), one (.int .u64 11), one (.int .u64 7), one (.int .u64 5), one (.int .u64 3), one (.int .u64 2)].reverse.getD q anyT = one (.int .u64 (somes.getD q 0 : Nat))
  | 0, _ => rfl | 1, _ => rfl | 2, _ => rfl | 3, _ => rfl | 4, _ => rfl | 5, _ => rfl | 6, _ => rfl | 7, _ => rfl | 8, _ => rfl | 9, _ => rfl
  | 10, _ => rfl | 11, _ => rfl | 12, _ => rfl | 13, _ => rfl | 14, _ => rfl | 15, _ => rfl | 16, _ => rfl | 17, _ => rfl
  | _ + 18, h => absurd h (by omega)
attribute [local irreducible] Tor.J Tor.PJ Tor.StepO Tor.one Tor.slT Tor.ptrT Tor.aggT Tor.tupT Tor.exT Tor.andT Tor.gT Tor.eP Tor.boxO Tor.sliO Tor.slV Tor.VT.le Tor.Ret Tor.anyT Tor.mapO Tor.metT
set_option maxHeartbeats 4000000 in
theorem rPrime_ok (n : Nat) (h2 : 2 ≤ n) (hn : n < 2147483648) (hT : Trial n) : Ok Try.prog 71 [one (.int .u64 (n : Int))] (one (.bool true)) := by
  refine Ok.enter Try.func71 rfl Try.ntmps71 rfl (fun w O => ?_)
  refine J_seq ?_
  refine J_reg ?_
  refine st (s_assign rfl) rfl ?_
  refine Run.nil ?_
  refine pj_then ?_
  refine J_seq ?_
  refine J_seq ?_
  refine J_reg ?_
  refine st (s_move rfl) rfl ?_
  refine st (sF (by omega) (s_lt rfl rfl)) rfl ?_
  refine st (s_move rfl) rfl ?_
  refine sg1 rfl rfl (s_move rfl) rfl ?_
  refine sg1 rfl rfl (sF (by omega) (s_ge rfl rfl)) rfl ?_
  refine st (s_pickF rfl rfl) rfl ?_
  refine Run.nil ?_
  refine pj_then ?_
  refine J_cond0 rfl ?_
  refine J_skip ?_
  refine pj_then ?_
  refine J_seq ?_
  refine J_seq ?_
  refine J_reg ?_
  refine st (s_assign rfl) rfl ?_
  refine Run.nil ?_
  refine pj_then ?_
  refine J_block ?_
  refine J_sub (Γ' := [(0, _), (2, _), (3, _)]) (SubG.cons rfl (VT.le_refl _) (SubG.cons rfl (VT.le_refl _) (SubG.cons rfl (VT.le_refl _) (SubG.nil)))) (SubM.refl _) ?_
  refine J_loopA (σ := Nat) (Γk := [(0, _)]) (SubG.cons rfl (VT.le_refl _) (SubG.nil)) (fun d => [(3, one (.int .u64 (d : Nat)))]) (fun d M0 => M0) (fun d => 2 ≤ d ∧ d ≤ 65536) (fun d => 65537 - d) (2) (⟨by decide, by decide⟩) (by repeat (first | exact SubG.refl _ | exact SubG.nil | refine SubG.cons rfl (VT.le_refl _) ?_ | (refine SubG.cons rfl (one_le ?_) ?_; (congr 1; first | omega | (simp; omega) | simp)))) (.nil) (fun d hd => ?_)
  refine J_norm (Γ' := [(3, _), (0, _)]) (M' := []) rfl rfl ?_
  obtain ⟨d1, d2⟩ := hd
  have hb := Nat.mul_le_mul d2 d2
  by_cases hc : d * d ≤ n
  · have hm := hT d d1 hc
    have hlt : d < 65536 := by
      rcases Nat.lt_or_ge d 65536 with h | h
      · exact h
      · have := Nat.mul_le_mul h h; omega
    have hm2 : ¬ n % d = 0 := hm
    refine J_seq ?_
    refine J_seq ?_
    refine J_reg ?_
    refine st (s_move rfl) rfl ?_
    refine st (s_move rfl) rfl ?_
    refine st (s_mulU rfl rfl (by omega)) rfl ?_
    refine st (s_move rfl) rfl ?_
    refine st (sT (by omega) (s_le rfl rfl)) rfl ?_
    refine Run.nil ?_
    refine pj_then ?_
    refine J_cond1 rfl ?_
    refine J_skip ?_
    refine pj_then ?_
    refine J_seq ?_
    refine J_block ?_
    refine J_seq ?_
    refine J_reg ?_
    refine st (s_move rfl) rfl ?_
    refine st (s_move rfl) rfl ?_
    refine st (s_remN _ rfl rfl rfl (by omega)) rfl ?_
    refine st (sF (by omega) (s_eq rfl rfl)) rfl ?_
    refine Run.nil ?_
    refine pj_then ?_
    refine J_cond0 rfl ?_
    refine J_skip ?_
    refine pn_block ?_
    refine pj_then ?_
    refine J_reg ?_
    refine st (s_move rfl) rfl ?_
    refine st (s_addU (b := 1) rfl rfl (by omega)) rfl ?_
    refine st (s_assign rfl) rfl ?_
    refine Run.nil ?_
    refine pj_roundM (d + 1) (⟨by omega, by omega⟩) (by omega) (by repeat (first | exact SubG.refl _ | exact SubG.nil | refine SubG.cons rfl (VT.le_refl _) ?_ | (refine SubG.cons rfl (one_le ?_) ?_; (congr 1; first | omega | (simp; omega) | simp)))) (.nil)
  · refine J_seq ?_
    refine J_seq ?_
    refine J_reg ?_
    refine st (s_move rfl) rfl ?_
    refine st (s_move rfl) rfl ?_
    refine st (s_mulU rfl rfl (by omega)) rfl ?_
    refine st (s_move rfl) rfl ?_
    refine st (sF (by omega) (s_le rfl rfl)) rfl ?_
    refine Run.nil ?_
    refine pj_then ?_
    refine J_cond0 rfl ?_
    refine J_exit ?_
    refine px_then ?_
    refine px_then ?_
    refine px_block ?_
    refine pj_then ?_
    refine J_seq ?_
    refine J_reg ?_
    refine st (s_assign rfl) rfl ?_
    refine Run.nil ?_
    refine pj_then ?_
    refine J_ret ?_
    refine retc1 Try.results71 (.tmp rfl (VT.le_refl _))
set_option maxHeartbeats 4000000 in
theorem whole_ok (n : Nat) (hn : n < 18446744073709551616) : Ok Try.prog 56 [one (.int .u64 (n : Int))] (bigT (n : Int)) := by
  have hm := rMade_ok false n
  rw [if_neg (by decide)] at hm
  have h2 := two_natS n hn
  refine Ok.enter Try.func56 rfl Try.ntmps56 rfl (fun w O => ?_)
  refine J_seq ?_
  refine J_reg ?_
  refine a_alloc (T := 29) rfl (ltN rfl) (fun b2 => ?_)
  refine Run.nil ?_
  refine pj_then ?_
  refine J_seq ?_
  refine J_reg ?_
  refine st (s_move rfl) rfl ?_
  refine st (s_toU32 rfl) rfl ?_
  refine st (s_move rfl) rfl ?_
  refine st (s_shr32 rfl) rfl ?_
  refine st (s_toU32 rfl) rfl ?_
  refine stS rfl rfl rfl rfl ?_
  refine PartsK.cons rfl ?_
  refine PartsK.cons rfl ?_
  refine PartsK.nil ?_
  refine st (s_callk (hm ) rfl ⟨(h2), VT.le_refl _, trivial⟩) rfl ?_
  refine a_storeB 0 rfl rfl rfl rfl rfl (leN rfl) rfl ?_
  refine Run.nil ?_
  refine pj_then ?_
  refine J_ret ?_
  refine retc1 Try.results56 (.cellB 0 rfl rfl rfl (VT.le_refl _))
set_option maxHeartbeats 4000000 in
theorem rest_ok (a m : Int) (hm : m ≠ 0) (ha : small0 a) (hms : small0 m) : Ok Try.prog 57 [bigT a, bigT m] (bigT (a % m)) := by
  refine Ok.enter Try.func57 rfl Try.ntmps57 rfl (fun w O => ?_)
  refine J_seq ?_
  refine J_reg ?_
  refine a_boxS rfl rfl (ltN rfl) (fun b2 => ?_)
  refine a_boxS rfl rfl (ltN rfl) (fun b3 => ?_)
  refine a_alloc (T := 29) rfl (ltN rfl) (fun b4 => ?_)
  refine Run.nil ?_
  refine pj_then ?_
  refine J_seq ?_
  refine J_reg ?_
  refine st (s_loadW 2 rfl rfl) rfl ?_
  refine st (s_loadW 1 rfl rfl) rfl ?_
  refine st (s_callk (rDivMod_ok _ _ (by assumption) (by assumption) (by assumption)) rfl ⟨VT.le_refl _, VT.le_refl _, trivial⟩) rfl ?_
  refine st (s_move rfl) rfl ?_
  refine st (s_extract rfl rfl) rfl ?_
  refine st (s_extract rfl rfl) rfl ?_
  refine st (s_extract rfl rfl) rfl ?_
  refine a_alloc (T := 29) rfl (ltN rfl) (fun b5 => ?_)
  refine a_alloc (T := 29) rfl (ltN rfl) (fun b6 => ?_)
  refine a_storeB 1 rfl rfl rfl rfl rfl (leN rfl) rfl ?_
  refine a_storeB 0 rfl rfl rfl rfl rfl (leN rfl) rfl ?_
  refine st (s_assign rfl) rfl ?_
  refine Run.nil ?_
  refine pj_then ?_
  refine J_seq ?_
  refine J_reg ?_
  refine st (s_loadB 0 rfl rfl rfl) rfl ?_
  refine a_storeB 2 rfl rfl rfl rfl rfl (leN rfl) rfl ?_
  refine Run.nil ?_
  refine pj_then ?_
  refine J_ret ?_
  refine retc1 Try.results57 (.cellB 2 rfl rfl rfl (VT.le_refl _))
set_option maxHeartbeats 4000000 in
theorem Some_ok : Ok Try.prog 42 [] (slT .one 18 (fun i => one (.int .u64 (somes.getD i 0 : Nat)))) := by
  refine Ok.enter Try.func42 rfl Try.ntmps42 rfl (fun w O => ?_)
  refine J_seq ?_
  refine J_reg ?_
  refine st (s_assign rfl) rfl ?_
  refine Run.nil ?_
  refine pj_then ?_
  refine J_seq ?_
  refine J_reg ?_
  refine stS rfl rfl rfl rfl ?_
  refine PartsK.cons rfl ?_
  refine PartsK.cons rfl ?_
  refine PartsK.cons rfl ?_
  refine PartsK.cons rfl ?_
  refine PartsK.cons rfl ?_
  refine PartsK.cons rfl ?_
  refine PartsK.cons rfl ?_
  refine PartsK.cons rfl ?_
  refine PartsK.cons rfl ?_
  refine PartsK.cons rfl ?_
  refine PartsK.cons rfl ?_
  refine PartsK.cons rfl ?_
  refine PartsK.cons rfl ?_
  refine PartsK.cons rfl ?_
  refine PartsK.cons rfl ?_
  refine PartsK.cons rfl ?_
  refine PartsK.cons rfl ?_
  refine PartsK.cons rfl ?_
  refine PartsK.nil ?_
  refine st (s_assign rfl) rfl ?_
  refine Run.nil ?_
  refine pj_then ?_
  refine J_ret ?_
  refine retc1 Try.results42 (.tmp rfl (slT_le' rfl (fun q hq => somes_at q hq)))
end Tor
end
