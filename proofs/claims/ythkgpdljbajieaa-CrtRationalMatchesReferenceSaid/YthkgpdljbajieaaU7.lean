/-
  Proofs that laws of this seat return true for every input, and that their arguments read afterwards as before.
  No condition.
-/
import Derived.Test.YthkgpdljbajieaaU6
import Derived.Test.YthkgpdljbajieaaRows
section
set_option linter.unusedVariables false
set_option linter.unusedSimpArgs false
namespace Tor
open Go Go.RowKit Go.Proofs
/-- The numerator for a denominator. -/
def cenN (a : Int) (m s : Nat) (d : Int) : Int := if (s : Int) < a * d % (m : Int) then a * d % (m : Int) - (m : Int) else a * d % (m : Int)
def goodD (a : Int) (m s : Nat) (d : Int) : Prop := (cenN a m s d).natAbs ≤ s ∧ Nat.gcd d.natAbs m = 1
theorem cenN_dvd (a : Int) (m s : Nat) (d : Int) : (m : Int) ∣ cenN a m s d - a * d := by
  have h := Int.dvd_self_sub_emod (x := a * d) (m := (m : Int))
  unfold cenN
  split
  · have e : a * d % (m : Int) - (m : Int) - a * d = -(a * d - a * d % (m : Int)) - (m : Int) := by omega
    rw [e]; exact Int.dvd_sub (Int.dvd_neg.2 h) (Int.dvd_refl _)
  · have e : a * d % (m : Int) - a * d = -(a * d - a * d % (m : Int)) := by omega
    rw [e]; exact Int.dvd_neg.2 h
theorem cenN_le (a : Int) (m s : Nat) (d : Int) (hm : 0 < m) : (cenN a m s d).natAbs ≤ m := by
  have n1 := Int.emod_nonneg (a * d) (show (m : Int) ≠ 0 by omega)
  have n2 := Int.emod_lt_of_pos (a * d) (show 0 < (m : Int) by omega)
  unfold cenN; split <;> omega
theorem ratE_some {a d : Int} {m s : Nat} (hm : 2 * (s * s) < m) (hsm : s < m) (hd : d ≤ s) (hd0 : 0 < d) (hg : goodD a m s d) : ratE a m s = some (Rat.divInt (cenN a m s d) d) :=
  ratE_of hm hsm hg.1 (by omega) hd0 hg.2 (cenN_dvd a m s d)
theorem ratE_none {a : Int} {m s : Nat} (hm : 2 * s < m) (h : ∀ d : Int, 0 < d → d ≤ s → ¬ goodD a m s d) : ratE a m s = none := by
  cases hE : ratE a m s with
  | none => rfl
  | some f =>
    exfalso
    obtain ⟨k1, k2, k3, k4⟩ := ratCond_iff.1 (ratE_cond hE)
    have hd0 := f.den_nz
    refine h (f.den : Int) (by omega) (by omega) ⟨?_, by rw [Int.natAbs_natCast]; exact k3⟩
    have e : (f.num - a * f.den) % (m : Int) = 0 := k4
    have e2 : a * f.den % (m : Int) = f.num % (m : Int) := (Int.emod_emod_of_dvd _ (Int.dvd_refl _)).symm.trans (by
      obtain ⟨k, hk⟩ := Int.dvd_of_emod_eq_zero e
      rw [Int.emod_emod, show f.num = a * f.den + (m : Int) * k by omega, Int.add_mul_emod_self_left])
    unfold cenN
    rw [e2]
    rcases Int.lt_or_le f.num 0 with c | c
    · have : f.num % (m : Int) = f.num + m := by
        rw [← Int.add_emod_right]; exact Int.emod_eq_of_lt (by omega) (by omega)
      rw [this]; split <;> omega
    · rw [Int.emod_eq_of_lt c (by omega)]; split <;> omega
theorem sq_lt {m s : Nat} (hm : 2 ≤ m) (h1 : s * s ≤ (m - 1) / 2) : 2 * (s * s) < m ∧ 2 * s < m := by
  refine ⟨by omega, ?_⟩
  rcases Nat.eq_zero_or_pos s with h | h
  · omega
  · have := Nat.le_mul_of_pos_right s h
    omega
theorem bound707 {s : Nat} (h : s * s ≤ 500000) : s ≤ 707 := by
  rcases Nat.lt_or_ge 707 s with c | c
  · have : 708 * 708 ≤ s * s := Nat.mul_le_mul c c
    omega
  · exact c
attribute [local irreducible] Tor.J Tor.PJ Tor.StepO Tor.one Tor.slT Tor.ptrT Tor.aggT Tor.tupT Tor.exT Tor.andT Tor.gT Tor.eP Tor.boxO Tor.sliO Tor.slV Tor.VT.le Tor.Ret Tor.anyT Tor.mapO Tor.metT
set_option maxHeartbeats 4000000 in
theorem rRational1_ok (a m : Int) (hm : m < 2) (hs : small m) : Ok Try.prog 31 [bigT a, bigT m] (tupT [fracT 0 0, one (.int .i64 1)]) := by
  have h1 := rOf_ok 1 (by decide) (by decide)
  have h2 := rOf_ok 2 (by decide) (by decide)
  have s2 : small 2 := small_lt (by decide +kernel)
  have hcm := rCmpI_ok m 2 hs s2
  have hc : cmpI m 2 < 0 := by unfold cmpI; rw [if_pos hm]; decide
  unfold fracT
  refine Ok.enter Try.func31 rfl Try.ntmps31 rfl (fun w O => ?_)
  refine J_seq ?_
  refine J_reg ?_
  refine a_boxS rfl rfl (ltN rfl) (fun b2 => ?_)
  refine a_boxS rfl rfl (ltN rfl) (fun b3 => ?_)
  refine a_allocS (T := 59) rfl rfl rfl (fun b4 => ?_)
  refine st (s_assign rfl) rfl ?_
  refine Run.nil ?_
  refine pj_then ?_
  refine J_seq ?_
  refine J_reg ?_
  refine st (s_callk (h1 ) rfl ⟨VT.le_refl _, trivial⟩) rfl ?_
  refine a_alloc (T := 29) rfl (ltN rfl) (fun b6 => ?_)
  refine a_storeB 0 rfl rfl rfl rfl rfl (leN rfl) rfl ?_
  refine Run.nil ?_
  refine pj_then ?_
  refine J_seq ?_
  refine J_seq ?_
  refine J_regd 4 mixed (by kernel_rfl) (by decide) ?_
  refine st (s_loadW 2 rfl rfl) rfl ?_
  refine st (s_callk (h2 ) rfl ⟨VT.le_refl _, trivial⟩) rfl ?_
  refine st (s_callk (hcm ) rfl ⟨VT.le_refl _, VT.le_refl _, trivial⟩) rfl ?_
  refine st (sT (by assumption) (s_lt rfl rfl)) rfl ?_
  refine Run.nil ?_
  refine Run.nil ?_
  refine pj_then ?_
  refine J_cond1 rfl ?_
  refine J_seq ?_
  refine J_reg ?_
  refine stB rfl rfl rfl ?_
  refine BuildK.nil ?_
  refine a_storeW 1 rfl rfl rfl rfl ?_
  refine st (s_assign rfl) rfl ?_
  refine Run.nil ?_
  refine pj_then ?_
  refine J_ret ?_
  refine pr_then ?_
  refine retc2 Try.results31 (.cellW 1 rfl rfl (frac00)) (.tmp rfl (VT.le_refl _))
set_option maxHeartbeats 8000000 in
theorem rRational_ok (a : Int) (m s : Nat) (hm : 2 ≤ m) (hm6 : m ≤ 1000000) (ha : a.natAbs < 2 ^ 800) (hs1 : s * s ≤ (m - 1) / 2) (hs2 : (m - 1) / 2 < (s + 1) * (s + 1)) :
    Ok Try.prog 31 [bigT a, bigT (m : Int)] (tupT [ratO (ratE a m s), one (.int .i64 (if (ratE a m s).isSome then 0 else 41))]) := by
  have h1 := rOf_ok 1 (by decide) (by decide)
  have h2 := rOf_ok 2 (by decide) (by decide)
  have s2 : small 2 := small_lt (by decide +kernel)
  have hm8 : m < 2 ^ 800 := Nat.lt_of_le_of_lt hm6 (Nat.lt_of_lt_of_le (show 1000000 < 2 ^ 20 by decide) (pw_mono 20 800 (by decide)))
  have sM : small0 (m : Int) := small0_lt (Nat.lt_of_lt_of_le hm8 (pw_mono 800 2048 (by decide)))
  have sa : small0 a := small0_lt (Nat.lt_of_lt_of_le ha (pw_mono 800 2048 (by decide)))
  have hcm := rCmpI_ok (m : Int) 2 sM.small s2
  have hc : ¬ cmpI (m : Int) 2 < 0 := by unfold cmpI; split <;> (try split) <;> omega
  have hli := rLimit_ok m s hm hm8 hs1 hs2
  obtain ⟨t1, t2⟩ := sq_lt hm hs1
  have t3 := bound707 (s := s) (by omega)
  have ss : small0 (s : Int) := small0_abs sM (by omega)
  refine Ok.enter Try.func31 rfl Try.ntmps31 rfl (fun w O => ?_)
  refine J_seq ?_
  refine J_reg ?_
  refine a_boxS rfl rfl (ltN rfl) (fun b2 => ?_)
  refine a_boxS rfl rfl (ltN rfl) (fun b3 => ?_)
  refine a_allocS (T := 59) rfl rfl rfl (fun b4 => ?_)
  refine st (s_assign rfl) rfl ?_
  refine Run.nil ?_
  refine pj_then ?_
  refine J_seq ?_
  refine J_reg ?_
  refine st (s_callk (h1 ) rfl ⟨VT.le_refl _, trivial⟩) rfl ?_
  refine a_alloc (T := 29) rfl (ltN rfl) (fun b6 => ?_)
  refine a_storeB 0 rfl rfl rfl rfl rfl (leN rfl) rfl ?_
  refine Run.nil ?_
  refine pj_then ?_
  refine J_seq ?_
  refine J_seq ?_
  refine J_regd 4 mixed (by kernel_rfl) (by decide) ?_
  refine st (s_loadW 2 rfl rfl) rfl ?_
  refine st (s_callk (h2 ) rfl ⟨VT.le_refl _, trivial⟩) rfl ?_
  refine st (s_callk (hcm ) rfl ⟨VT.le_refl _, VT.le_refl _, trivial⟩) rfl ?_
  refine st (sF (by assumption) (s_lt rfl rfl)) rfl ?_
  refine Run.nil ?_
  refine Run.nil ?_
  refine pj_then ?_
  refine J_cond0 rfl ?_
  refine J_skip ?_
  refine pj_then ?_
  refine J_seq ?_
  refine J_reg ?_
  refine st (s_loadW 2 rfl rfl) rfl ?_
  refine st (s_callk (hli ) rfl ⟨VT.le_refl _, trivial⟩) rfl ?_
  refine a_alloc (T := 29) rfl (ltN rfl) (fun b7 => ?_)
  refine a_storeB 0 rfl rfl rfl rfl rfl (leN rfl) rfl ?_
  refine Run.nil ?_
  refine pj_then ?_
  refine J_seq ?_
  refine J_seq ?_
  refine J_reg ?_
  refine st (s_assign rfl) rfl ?_
  refine Run.nil ?_
  refine pj_then ?_
  refine J_block ?_
  refine J_sub (Γ' := [(2, _), (3, _), (4, _), (5, _), (6, _), (7, _), (8, _)]) (SubG.cons rfl (VT.le_refl _) (SubG.cons rfl (VT.le_refl _) (SubG.cons rfl (VT.le_refl _) (SubG.cons rfl (VT.le_refl _) (SubG.cons rfl (VT.le_refl _) (SubG.cons rfl (VT.le_refl _) (SubG.cons rfl (VT.le_refl _) (SubG.nil)))))))) (SubM.refl _) ?_
  refine J_loopA (σ := Nat) (Γk := [(2, _), (3, _), (4, _), (6, _), (7, _)]) (SubG.cons rfl (VT.le_refl _) (SubG.cons rfl (VT.le_refl _) (SubG.cons rfl (VT.le_refl _) (SubG.cons rfl (VT.le_refl _) (SubG.cons rfl (VT.le_refl _) (SubG.nil)))))) (fun d => [(8, one (.int .i64 (d : Int)))]) (fun d M0 => M0) (fun d => 1 ≤ d ∧ d ≤ s + 1 ∧ ∀ e : Int, 0 < e → e < d → ¬ goodD a m s e) (fun d => s + 1 - d) (1) (⟨by omega, by omega, fun e h h' => by omega⟩) (by repeat (first | exact SubG.refl _ | exact SubG.nil | refine SubG.cons rfl (VT.le_refl _) ?_ | (refine SubG.cons rfl (one_le ?_) ?_; (congr 1; first | omega | (simp; omega) | simp)))) (.keep (Own.le_refl _) (.keep (Own.le_refl _) (.keep (Own.le_refl _) (.keep (Own.le_refl _) (.keep (Own.le_refl _) (.nil)))))) (fun d hd => ?_)
  refine J_norm (Γ' := [(8, _), (2, _), (3, _), (4, _), (6, _), (7, _)]) (M' := [_, _, _, _, _]) rfl rfl ?_
  obtain ⟨d1, d2, d3⟩ := hd
  have hod := rOf_ok (d : Int) (by omega) (by omega)
  have sd : small0 (d : Int) := small0_abs sM (by omega)
  have hcd := rCmpI_ok (d : Int) (s : Int) sd.small ss.small
  by_cases c : d ≤ s
  · have hcc : cmpI (d : Int) (s : Int) ≤ 0 := by unfold cmpI; split <;> (try split) <;> omega
    have lmu : (a * (d : Int)).natAbs ≤ 2 ^ 1600 := by
      rw [Int.natAbs_mul]
      exact mul800 (Nat.le_of_lt ha) (by rw [Int.natAbs_natCast]; exact Nat.le_trans (show d ≤ 1000000 by omega) (Nat.le_trans (show 1000000 ≤ 2 ^ 20 by decide) (pw_mono 20 800 (by decide))))
    have smu : small0 (a * (d : Int)) := small0_lt (Nat.lt_of_le_of_lt lmu (Nat.pow_lt_pow_right (a := 2) (m := 1600) (n := 2048) (by decide) (by decide)))
    have hmu := rMulI_ok a (d : Int) sa.small sd.small
    have hre := rest_ok (a * (d : Int)) (m : Int) (by omega) smu sM
    have n1 := Int.emod_nonneg (a * (d : Int)) (show (m : Int) ≠ 0 by omega)
    have n2 := Int.emod_lt_of_pos (a * (d : Int)) (show 0 < (m : Int) by omega)
    have sre : small0 (a * (d : Int) % (m : Int)) := small0_abs sM (by omega)
    have hct := rCmpI_ok (a * (d : Int) % (m : Int)) (s : Int) sre.small ss.small
    have hst := rSubI_ok (a * (d : Int) % (m : Int)) (m : Int) sre.small sM.small
    have hle := cenN_le a m s d (by omega)
    have scn : small0 (cenN a m s d) := small0_abs sM (by omega)
    have hab := rAbsI_ok (cenN a m s d) scn.small
    have hcn := rCmpI_ok ((cenN a m s d).natAbs : Int) (s : Int) (small_abs' sM.small (by omega)) ss.small
    have hgc := rGcd_ok (d : Int) (m : Int) sd sM
    rw [Int.natAbs_natCast, Int.natAbs_natCast] at hgc
    by_cases c1 : (s : Int) < a * (d : Int) % (m : Int)
    · have ct : 0 < cmpI (a * (d : Int) % (m : Int)) (s : Int) := by unfold cmpI; rw [if_neg (by omega), if_pos c1]; decide
      have ce : cenN a m s d = a * (d : Int) % (m : Int) - (m : Int) := by unfold cenN; rw [if_pos c1]
      by_cases g1 : (cenN a m s d).natAbs ≤ s
      · have g1' : cmpI ((cenN a m s d).natAbs : Int) (s : Int) ≤ 0 := by unfold cmpI; split <;> (try split) <;> omega
        by_cases g2 : Nat.gcd d m = 1
        · rw [g2] at hgc
          have hsa := rSame_ok ((1 : Nat) : Int) 1
          rw [show decide (((1 : Nat) : Int) = 1) = true from rfl] at hsa
          rw [ratE_some t1 (by omega) (show (d : Int) ≤ s by omega) (by omega) ⟨g1, by rw [Int.natAbs_natCast]; exact g2⟩]
          rw [Option.isSome_some, if_pos rfl]
          unfold ratO
          have hof := rqOf_ok (cenN a m s d) (d : Int) (by omega) scn sd
          rw [ce] at hof hab hcn g1' ⊢
          refine J_seq ?_
          refine J_seq ?_
          refine J_regd 9 mixed (by kernel_rfl) (by decide) ?_
          refine st (s_move rfl) rfl ?_
          refine st (sT (by omega) (s_le rfl rfl)) rfl ?_
          refine st (s_move rfl) rfl ?_
          refine sg1 rfl rfl (s_move rfl) rfl ?_
          refine sg1 rfl rfl (s_callk (hod ) rfl ⟨VT.le_refl _, trivial⟩) rfl ?_
          refine sg1 rfl rfl (s_loadB 0 rfl rfl rfl) rfl ?_
          refine sg1 rfl rfl (s_callk (hcd ) rfl ⟨VT.le_refl _, VT.le_refl _, trivial⟩) rfl ?_
          refine sg1 rfl rfl (sT (by assumption) (s_le rfl rfl)) rfl ?_
          refine st (s_pickT rfl rfl) rfl ?_
          refine Run.nil ?_
          refine Run.nil ?_
          refine pj_then ?_
          refine J_cond1 rfl ?_
          refine J_skip ?_
          refine pj_then ?_
          refine J_seq ?_
          refine J_block ?_
          refine J_seq ?_
          refine J_regU2 mixed (by kernel_rfl) (by kernel_rfl) ?_
          refine ux (fun B => s_loadW 4 rfl rfl) rfl rfl ?_
          refine ux (fun B => s_move rfl) rfl rfl ?_
          refine uxk (hod ) rfl ⟨VT.le_refl _, trivial⟩ rfl ?_
          refine uxk (hmu ) rfl ⟨VT.le_refl _, VT.le_refl _, trivial⟩ rfl ?_
          refine ux (fun B => s_loadW 3 rfl rfl) rfl rfl ?_
          refine uxk (hre ) rfl ⟨VT.le_refl _, VT.le_refl _, trivial⟩ rfl ?_
          refine ua rfl ?_
          refine us rfl ?_
          refine RunU.nil (fun γ => ?_)
          refine PJ_normM (M' := [_, _, _, _, _, _]) rfl ?_
          refine pj_then ?_
          refine J_seq ?_
          refine J_seq ?_
          refine J_reg ?_
          refine st (s_loadB 0 rfl rfl rfl) rfl ?_
          refine st (s_loadB 1 rfl rfl rfl) rfl ?_
          refine st (s_callk (hct ) rfl ⟨VT.le_refl _, VT.le_refl _, trivial⟩) rfl ?_
          refine st (sT (by assumption) (s_gt rfl rfl)) rfl ?_
          refine Run.nil ?_
          refine pj_then ?_
          refine J_cond1 rfl ?_
          refine J_reg ?_
          refine st (s_loadB 0 rfl rfl rfl) rfl ?_
          refine st (s_loadW 4 rfl rfl) rfl ?_
          refine st (s_callk (hst ) rfl ⟨VT.le_refl _, VT.le_refl _, trivial⟩) rfl ?_
          refine a_storeB 0 rfl rfl rfl rfl rfl (leN rfl) rfl ?_
          refine Run.nil ?_
          refine pj_then ?_
          refine J_seq ?_
          refine J_regd 13 mixed (by kernel_rfl) (by decide) ?_
          refine st (s_loadB 0 rfl rfl rfl) rfl ?_
          refine st (s_callk (hab ) rfl ⟨VT.le_refl _, trivial⟩) rfl ?_
          refine st (s_loadB 1 rfl rfl rfl) rfl ?_
          refine st (s_callk (hcn ) rfl ⟨VT.le_refl _, VT.le_refl _, trivial⟩) rfl ?_
          refine st (sT (by assumption) (s_le rfl rfl)) rfl ?_
          refine st (s_move rfl) rfl ?_
          refine sg1 rfl rfl (s_move rfl) rfl ?_
          refine sg1 rfl rfl (s_callk (hod ) rfl ⟨VT.le_refl _, trivial⟩) rfl ?_
          refine sg1 rfl rfl (s_loadW 4 rfl rfl) rfl ?_
          refine sg1 rfl rfl (s_callk (hgc ) rfl ⟨VT.le_refl _, VT.le_refl _, trivial⟩) rfl ?_
          refine sg1 rfl rfl (s_loadB 2 rfl rfl rfl) rfl ?_
          refine sg1 rfl rfl (s_callk (hsa ) rfl ⟨VT.le_refl _, VT.le_refl _, trivial⟩) rfl ?_
          refine st (s_pickT rfl rfl) rfl ?_
          refine Run.nil ?_
          refine Run.nil ?_
          refine pj_then ?_
          refine J_cond1 rfl ?_
          refine J_seq ?_
          refine J_regU2 mixed (by kernel_rfl) (by kernel_rfl) ?_
          refine ux (fun B => s_loadB 0 rfl rfl rfl) rfl rfl ?_
          refine ux (fun B => s_move rfl) rfl rfl ?_
          refine uxk (hod ) rfl ⟨VT.le_refl _, trivial⟩ rfl ?_
          refine uxk (hof ) rfl ⟨VT.le_refl _, VT.le_refl _, trivial⟩ rfl ?_
          refine ux (fun B => s_move rfl) rfl rfl ?_
          refine ux (fun B => s_extract rfl rfl) rfl rfl ?_
          refine ux (fun B => s_extract rfl rfl) rfl rfl ?_
          refine ua rfl ?_
          refine us rfl ?_
          refine ux (fun B => s_assign rfl) rfl rfl ?_
          refine RunU.nil (fun γ => ?_)
          refine PJ_normM (M' := [_, _, _, _, _, _, _]) rfl ?_
          refine PJ_sub (SubG.refl _) (.keep box_flat (SubM.refl _)) ?_
          refine pj_then ?_
          refine J_seq ?_
          refine J_reg ?_
          refine st (s_loadW 0 rfl rfl) rfl ?_
          refine a_storeW 4 rfl rfl rfl rfl ?_
          refine st (s_assign rfl) rfl ?_
          refine Run.nil ?_
          refine pj_then ?_
          refine J_ret ?_
          refine pr_block ?_
          refine pr_then ?_
          refine pr_then ?_
          refine pr_block ?_
          refine pr_then ?_
          refine retc2 Try.results31 (.cellW 4 rfl rfl (VT.le_refl _)) (.tmp rfl (VT.le_refl _))
        · have hsa := rSame_ok ((Nat.gcd d m : Nat) : Int) 1
          rw [decide_eq_false (by omega)] at hsa
          have nx : ∀ e : Int, 0 < e → e < ((d + 1 : Nat) : Int) → ¬ goodD a m s e := fun e h h' => by
            by_cases k : e = (d : Int)
            · subst k; exact fun q => g2 (by have := q.2; rwa [Int.natAbs_natCast] at this)
            · exact d3 e h (by omega)
          rw [ce] at hab hcn g1'
          refine J_seq ?_
          refine J_seq ?_
          refine J_regd 9 mixed (by kernel_rfl) (by decide) ?_
          refine st (s_move rfl) rfl ?_
          refine st (sT (by omega) (s_le rfl rfl)) rfl ?_
          refine st (s_move rfl) rfl ?_
          refine sg1 rfl rfl (s_move rfl) rfl ?_
          refine sg1 rfl rfl (s_callk (hod ) rfl ⟨VT.le_refl _, trivial⟩) rfl ?_
          refine sg1 rfl rfl (s_loadB 0 rfl rfl rfl) rfl ?_
          refine sg1 rfl rfl (s_callk (hcd ) rfl ⟨VT.le_refl _, VT.le_refl _, trivial⟩) rfl ?_
          refine sg1 rfl rfl (sT (by assumption) (s_le rfl rfl)) rfl ?_
          refine st (s_pickT rfl rfl) rfl ?_
          refine Run.nil ?_
          refine Run.nil ?_
          refine pj_then ?_
          refine J_cond1 rfl ?_
          refine J_skip ?_
          refine pj_then ?_
          refine J_seq ?_
          refine J_block ?_
          refine J_seq ?_
          refine J_regU2 mixed (by kernel_rfl) (by kernel_rfl) ?_
          refine ux (fun B => s_loadW 4 rfl rfl) rfl rfl ?_
          refine ux (fun B => s_move rfl) rfl rfl ?_
          refine uxk (hod ) rfl ⟨VT.le_refl _, trivial⟩ rfl ?_
          refine uxk (hmu ) rfl ⟨VT.le_refl _, VT.le_refl _, trivial⟩ rfl ?_
          refine ux (fun B => s_loadW 3 rfl rfl) rfl rfl ?_
          refine uxk (hre ) rfl ⟨VT.le_refl _, VT.le_refl _, trivial⟩ rfl ?_
          refine ua rfl ?_
          refine us rfl ?_
          refine RunU.nil (fun γ => ?_)
          refine PJ_normM (M' := [_, _, _, _, _, _]) rfl ?_
          refine pj_then ?_
          refine J_seq ?_
          refine J_seq ?_
          refine J_reg ?_
          refine st (s_loadB 0 rfl rfl rfl) rfl ?_
          refine st (s_loadB 1 rfl rfl rfl) rfl ?_
          refine st (s_callk (hct ) rfl ⟨VT.le_refl _, VT.le_refl _, trivial⟩) rfl ?_
          refine st (sT (by assumption) (s_gt rfl rfl)) rfl ?_
          refine Run.nil ?_
          refine pj_then ?_
          refine J_cond1 rfl ?_
          refine J_reg ?_
          refine st (s_loadB 0 rfl rfl rfl) rfl ?_
          refine st (s_loadW 4 rfl rfl) rfl ?_
          refine st (s_callk (hst ) rfl ⟨VT.le_refl _, VT.le_refl _, trivial⟩) rfl ?_
          refine a_storeB 0 rfl rfl rfl rfl rfl (leN rfl) rfl ?_
          refine Run.nil ?_
          refine pj_then ?_
          refine J_seq ?_
          refine J_regd 13 mixed (by kernel_rfl) (by decide) ?_
          refine st (s_loadB 0 rfl rfl rfl) rfl ?_
          refine st (s_callk (hab ) rfl ⟨VT.le_refl _, trivial⟩) rfl ?_
          refine st (s_loadB 1 rfl rfl rfl) rfl ?_
          refine st (s_callk (hcn ) rfl ⟨VT.le_refl _, VT.le_refl _, trivial⟩) rfl ?_
          refine st (sT (by assumption) (s_le rfl rfl)) rfl ?_
          refine st (s_move rfl) rfl ?_
          refine sg1 rfl rfl (s_move rfl) rfl ?_
          refine sg1 rfl rfl (s_callk (hod ) rfl ⟨VT.le_refl _, trivial⟩) rfl ?_
          refine sg1 rfl rfl (s_loadW 4 rfl rfl) rfl ?_
          refine sg1 rfl rfl (s_callk (hgc ) rfl ⟨VT.le_refl _, VT.le_refl _, trivial⟩) rfl ?_
          refine sg1 rfl rfl (s_loadB 2 rfl rfl rfl) rfl ?_
          refine sg1 rfl rfl (s_callk (hsa ) rfl ⟨VT.le_refl _, VT.le_refl _, trivial⟩) rfl ?_
          refine st (s_pickT rfl rfl) rfl ?_
          refine Run.nil ?_
          refine Run.nil ?_
          refine pj_then ?_
          refine J_cond0 rfl ?_
          refine J_skip ?_
          refine pn_block ?_
          refine pj_then ?_
          refine J_reg ?_
          refine st (s_move rfl) rfl ?_
          refine st (s_addN _ 1 rfl rfl (by omega)) rfl ?_
          refine st (s_assign rfl) rfl ?_
          refine Run.nil ?_
          refine pj_roundM (d + 1) (⟨by omega, by omega, nx⟩) (by omega) (by repeat (first | exact SubG.refl _ | exact SubG.nil | refine SubG.cons rfl (VT.le_refl _) ?_ | (refine SubG.cons rfl (one_le ?_) ?_; (congr 1; first | omega | (simp; omega) | simp)))) (.drop (.keep (Own.le_refl _) (.keep (Own.le_refl _) (.keep (Own.le_refl _) (.keep (Own.le_refl _) (.keep (Own.le_refl _) (.nil)))))))
      · have g1' : ¬ cmpI ((cenN a m s d).natAbs : Int) (s : Int) ≤ 0 := by unfold cmpI; rw [if_neg (by omega), if_pos (by omega)]; decide
        have nx : ∀ e : Int, 0 < e → e < ((d + 1 : Nat) : Int) → ¬ goodD a m s e := fun e h h' => by
          by_cases k : e = (d : Int)
          · subst k; exact fun q => g1 q.1
          · exact d3 e h (by omega)
        rw [ce] at hab hcn g1'
        refine J_seq ?_
        refine J_seq ?_
        refine J_regd 9 mixed (by kernel_rfl) (by decide) ?_
        refine st (s_move rfl) rfl ?_
        refine st (sT (by omega) (s_le rfl rfl)) rfl ?_
        refine st (s_move rfl) rfl ?_
        refine sg1 rfl rfl (s_move rfl) rfl ?_
        refine sg1 rfl rfl (s_callk (hod ) rfl ⟨VT.le_refl _, trivial⟩) rfl ?_
        refine sg1 rfl rfl (s_loadB 0 rfl rfl rfl) rfl ?_
        refine sg1 rfl rfl (s_callk (hcd ) rfl ⟨VT.le_refl _, VT.le_refl _, trivial⟩) rfl ?_
        refine sg1 rfl rfl (sT (by assumption) (s_le rfl rfl)) rfl ?_
        refine st (s_pickT rfl rfl) rfl ?_
        refine Run.nil ?_
        refine Run.nil ?_
        refine pj_then ?_
        refine J_cond1 rfl ?_
        refine J_skip ?_
        refine pj_then ?_
        refine J_seq ?_
        refine J_block ?_
        refine J_seq ?_
        refine J_regU2 mixed (by kernel_rfl) (by kernel_rfl) ?_
        refine ux (fun B => s_loadW 4 rfl rfl) rfl rfl ?_
        refine ux (fun B => s_move rfl) rfl rfl ?_
        refine uxk (hod ) rfl ⟨VT.le_refl _, trivial⟩ rfl ?_
        refine uxk (hmu ) rfl ⟨VT.le_refl _, VT.le_refl _, trivial⟩ rfl ?_
        refine ux (fun B => s_loadW 3 rfl rfl) rfl rfl ?_
        refine uxk (hre ) rfl ⟨VT.le_refl _, VT.le_refl _, trivial⟩ rfl ?_
        refine ua rfl ?_
        refine us rfl ?_
        refine RunU.nil (fun γ => ?_)
        refine PJ_normM (M' := [_, _, _, _, _, _]) rfl ?_
        refine pj_then ?_
        refine J_seq ?_
        refine J_seq ?_
        refine J_reg ?_
        refine st (s_loadB 0 rfl rfl rfl) rfl ?_
        refine st (s_loadB 1 rfl rfl rfl) rfl ?_
        refine st (s_callk (hct ) rfl ⟨VT.le_refl _, VT.le_refl _, trivial⟩) rfl ?_
        refine st (sT (by assumption) (s_gt rfl rfl)) rfl ?_
        refine Run.nil ?_
        refine pj_then ?_
        refine J_cond1 rfl ?_
        refine J_reg ?_
        refine st (s_loadB 0 rfl rfl rfl) rfl ?_
        refine st (s_loadW 4 rfl rfl) rfl ?_
        refine st (s_callk (hst ) rfl ⟨VT.le_refl _, VT.le_refl _, trivial⟩) rfl ?_
        refine a_storeB 0 rfl rfl rfl rfl rfl (leN rfl) rfl ?_
        refine Run.nil ?_
        refine pj_then ?_
        refine J_seq ?_
        refine J_regd 13 mixed (by kernel_rfl) (by decide) ?_
        refine st (s_loadB 0 rfl rfl rfl) rfl ?_
        refine st (s_callk (hab ) rfl ⟨VT.le_refl _, trivial⟩) rfl ?_
        refine st (s_loadB 1 rfl rfl rfl) rfl ?_
        refine st (s_callk (hcn ) rfl ⟨VT.le_refl _, VT.le_refl _, trivial⟩) rfl ?_
        refine st (sF (by assumption) (s_le rfl rfl)) rfl ?_
        refine st (s_move rfl) rfl ?_
        refine sg0 rfl rfl rfl rfl ?_
        refine sg0 rfl rfl rfl rfl ?_
        refine sg0 rfl rfl rfl rfl ?_
        refine sg0 rfl rfl rfl rfl ?_
        refine sg0 rfl rfl rfl rfl ?_
        refine sg0 rfl rfl rfl rfl ?_
        refine st (s_pickF rfl rfl) rfl ?_
        refine Run.nil ?_
        refine Run.nil ?_
        refine pj_then ?_
        refine J_cond0 rfl ?_
        refine J_skip ?_
        refine pn_block ?_
        refine pj_then ?_
        refine J_reg ?_
        refine st (s_move rfl) rfl ?_
        refine st (s_addN _ 1 rfl rfl (by omega)) rfl ?_
        refine st (s_assign rfl) rfl ?_
        refine Run.nil ?_
        refine pj_roundM (d + 1) (⟨by omega, by omega, nx⟩) (by omega) (by repeat (first | exact SubG.refl _ | exact SubG.nil | refine SubG.cons rfl (VT.le_refl _) ?_ | (refine SubG.cons rfl (one_le ?_) ?_; (congr 1; first | omega | (simp; omega) | simp)))) (.drop (.keep (Own.le_refl _) (.keep (Own.le_refl _) (.keep (Own.le_refl _) (.keep (Own.le_refl _) (.keep (Own.le_refl _) (.nil)))))))
    · have ct : ¬ 0 < cmpI (a * (d : Int) % (m : Int)) (s : Int) := by unfold cmpI; split <;> (try split) <;> omega
      have ce : cenN a m s d = a * (d : Int) % (m : Int) := by unfold cenN; rw [if_neg c1]
      by_cases g1 : (cenN a m s d).natAbs ≤ s
      · have g1' : cmpI ((cenN a m s d).natAbs : Int) (s : Int) ≤ 0 := by unfold cmpI; split <;> (try split) <;> omega
        by_cases g2 : Nat.gcd d m = 1
        · rw [g2] at hgc
          have hsa := rSame_ok ((1 : Nat) : Int) 1
          rw [show decide (((1 : Nat) : Int) = 1) = true from rfl] at hsa
          rw [ratE_some t1 (by omega) (show (d : Int) ≤ s by omega) (by omega) ⟨g1, by rw [Int.natAbs_natCast]; exact g2⟩]
          rw [Option.isSome_some, if_pos rfl]
          unfold ratO
          have hof := rqOf_ok (cenN a m s d) (d : Int) (by omega) scn sd
          rw [ce] at hof hab hcn g1' ⊢
          refine J_seq ?_
          refine J_seq ?_
          refine J_regd 9 mixed (by kernel_rfl) (by decide) ?_
          refine st (s_move rfl) rfl ?_
          refine st (sT (by omega) (s_le rfl rfl)) rfl ?_
          refine st (s_move rfl) rfl ?_
          refine sg1 rfl rfl (s_move rfl) rfl ?_
          refine sg1 rfl rfl (s_callk (hod ) rfl ⟨VT.le_refl _, trivial⟩) rfl ?_
          refine sg1 rfl rfl (s_loadB 0 rfl rfl rfl) rfl ?_
          refine sg1 rfl rfl (s_callk (hcd ) rfl ⟨VT.le_refl _, VT.le_refl _, trivial⟩) rfl ?_
          refine sg1 rfl rfl (sT (by assumption) (s_le rfl rfl)) rfl ?_
          refine st (s_pickT rfl rfl) rfl ?_
          refine Run.nil ?_
          refine Run.nil ?_
          refine pj_then ?_
          refine J_cond1 rfl ?_
          refine J_skip ?_
          refine pj_then ?_
          refine J_seq ?_
          refine J_block ?_
          refine J_seq ?_
          refine J_regU2 mixed (by kernel_rfl) (by kernel_rfl) ?_
          refine ux (fun B => s_loadW 4 rfl rfl) rfl rfl ?_
          refine ux (fun B => s_move rfl) rfl rfl ?_
          refine uxk (hod ) rfl ⟨VT.le_refl _, trivial⟩ rfl ?_
          refine uxk (hmu ) rfl ⟨VT.le_refl _, VT.le_refl _, trivial⟩ rfl ?_
          refine ux (fun B => s_loadW 3 rfl rfl) rfl rfl ?_
          refine uxk (hre ) rfl ⟨VT.le_refl _, VT.le_refl _, trivial⟩ rfl ?_
          refine ua rfl ?_
          refine us rfl ?_
          refine RunU.nil (fun γ => ?_)
          refine PJ_normM (M' := [_, _, _, _, _, _]) rfl ?_
          refine pj_then ?_
          refine J_seq ?_
          refine J_seq ?_
          refine J_reg ?_
          refine st (s_loadB 0 rfl rfl rfl) rfl ?_
          refine st (s_loadB 1 rfl rfl rfl) rfl ?_
          refine st (s_callk (hct ) rfl ⟨VT.le_refl _, VT.le_refl _, trivial⟩) rfl ?_
          refine st (sF (by assumption) (s_gt rfl rfl)) rfl ?_
          refine Run.nil ?_
          refine pj_then ?_
          refine J_cond0 rfl ?_
          refine J_skip ?_
          refine pj_then ?_
          refine J_seq ?_
          refine J_regd 13 mixed (by kernel_rfl) (by decide) ?_
          refine st (s_loadB 0 rfl rfl rfl) rfl ?_
          refine st (s_callk (hab ) rfl ⟨VT.le_refl _, trivial⟩) rfl ?_
          refine st (s_loadB 1 rfl rfl rfl) rfl ?_
          refine st (s_callk (hcn ) rfl ⟨VT.le_refl _, VT.le_refl _, trivial⟩) rfl ?_
          refine st (sT (by assumption) (s_le rfl rfl)) rfl ?_
          refine st (s_move rfl) rfl ?_
          refine sg1 rfl rfl (s_move rfl) rfl ?_
          refine sg1 rfl rfl (s_callk (hod ) rfl ⟨VT.le_refl _, trivial⟩) rfl ?_
          refine sg1 rfl rfl (s_loadW 4 rfl rfl) rfl ?_
          refine sg1 rfl rfl (s_callk (hgc ) rfl ⟨VT.le_refl _, VT.le_refl _, trivial⟩) rfl ?_
          refine sg1 rfl rfl (s_loadB 2 rfl rfl rfl) rfl ?_
          refine sg1 rfl rfl (s_callk (hsa ) rfl ⟨VT.le_refl _, VT.le_refl _, trivial⟩) rfl ?_
          refine st (s_pickT rfl rfl) rfl ?_
          refine Run.nil ?_
          refine Run.nil ?_
          refine pj_then ?_
          refine J_cond1 rfl ?_
          refine J_seq ?_
          refine J_regU2 mixed (by kernel_rfl) (by kernel_rfl) ?_
          refine ux (fun B => s_loadB 0 rfl rfl rfl) rfl rfl ?_
          refine ux (fun B => s_move rfl) rfl rfl ?_
          refine uxk (hod ) rfl ⟨VT.le_refl _, trivial⟩ rfl ?_
          refine uxk (hof ) rfl ⟨VT.le_refl _, VT.le_refl _, trivial⟩ rfl ?_
          refine ux (fun B => s_move rfl) rfl rfl ?_
          refine ux (fun B => s_extract rfl rfl) rfl rfl ?_
          refine ux (fun B => s_extract rfl rfl) rfl rfl ?_
          refine ua rfl ?_
          refine us rfl ?_
          refine ux (fun B => s_assign rfl) rfl rfl ?_
          refine RunU.nil (fun γ => ?_)
          refine PJ_normM (M' := [_, _, _, _, _, _, _]) rfl ?_
          refine PJ_sub (SubG.refl _) (.keep box_flat (SubM.refl _)) ?_
          refine pj_then ?_
          refine J_seq ?_
          refine J_reg ?_
          refine st (s_loadW 0 rfl rfl) rfl ?_
          refine a_storeW 4 rfl rfl rfl rfl ?_
          refine st (s_assign rfl) rfl ?_
          refine Run.nil ?_
          refine pj_then ?_
          refine J_ret ?_
          refine pr_block ?_
          refine pr_then ?_
          refine pr_then ?_
          refine pr_block ?_
          refine pr_then ?_
          refine retc2 Try.results31 (.cellW 4 rfl rfl (VT.le_refl _)) (.tmp rfl (VT.le_refl _))
        · have hsa := rSame_ok ((Nat.gcd d m : Nat) : Int) 1
          rw [decide_eq_false (by omega)] at hsa
          have nx : ∀ e : Int, 0 < e → e < ((d + 1 : Nat) : Int) → ¬ goodD a m s e := fun e h h' => by
            by_cases k : e = (d : Int)
            · subst k; exact fun q => g2 (by have := q.2; rwa [Int.natAbs_natCast] at this)
            · exact d3 e h (by omega)
          rw [ce] at hab hcn g1'
          refine J_seq ?_
          refine J_seq ?_
          refine J_regd 9 mixed (by kernel_rfl) (by decide) ?_
          refine st (s_move rfl) rfl ?_
          refine st (sT (by omega) (s_le rfl rfl)) rfl ?_
          refine st (s_move rfl) rfl ?_
          refine sg1 rfl rfl (s_move rfl) rfl ?_
          refine sg1 rfl rfl (s_callk (hod ) rfl ⟨VT.le_refl _, trivial⟩) rfl ?_
          refine sg1 rfl rfl (s_loadB 0 rfl rfl rfl) rfl ?_
          refine sg1 rfl rfl (s_callk (hcd ) rfl ⟨VT.le_refl _, VT.le_refl _, trivial⟩) rfl ?_
          refine sg1 rfl rfl (sT (by assumption) (s_le rfl rfl)) rfl ?_
          refine st (s_pickT rfl rfl) rfl ?_
          refine Run.nil ?_
          refine Run.nil ?_
          refine pj_then ?_
          refine J_cond1 rfl ?_
          refine J_skip ?_
          refine pj_then ?_
          refine J_seq ?_
          refine J_block ?_
          refine J_seq ?_
          refine J_regU2 mixed (by kernel_rfl) (by kernel_rfl) ?_
          refine ux (fun B => s_loadW 4 rfl rfl) rfl rfl ?_
          refine ux (fun B => s_move rfl) rfl rfl ?_
          refine uxk (hod ) rfl ⟨VT.le_refl _, trivial⟩ rfl ?_
          refine uxk (hmu ) rfl ⟨VT.le_refl _, VT.le_refl _, trivial⟩ rfl ?_
          refine ux (fun B => s_loadW 3 rfl rfl) rfl rfl ?_
          refine uxk (hre ) rfl ⟨VT.le_refl _, VT.le_refl _, trivial⟩ rfl ?_
          refine ua rfl ?_
          refine us rfl ?_
          refine RunU.nil (fun γ => ?_)
          refine PJ_normM (M' := [_, _, _, _, _, _]) rfl ?_
          refine pj_then ?_
          refine J_seq ?_
          refine J_seq ?_
          refine J_reg ?_
          refine st (s_loadB 0 rfl rfl rfl) rfl ?_
          refine st (s_loadB 1 rfl rfl rfl) rfl ?_
          refine st (s_callk (hct ) rfl ⟨VT.le_refl _, VT.le_refl _, trivial⟩) rfl ?_
          refine st (sF (by assumption) (s_gt rfl rfl)) rfl ?_
          refine Run.nil ?_
          refine pj_then ?_
          refine J_cond0 rfl ?_
          refine J_skip ?_
          refine pj_then ?_
          refine J_seq ?_
          refine J_regd 13 mixed (by kernel_rfl) (by decide) ?_
          refine st (s_loadB 0 rfl rfl rfl) rfl ?_
          refine st (s_callk (hab ) rfl ⟨VT.le_refl _, trivial⟩) rfl ?_
          refine st (s_loadB 1 rfl rfl rfl) rfl ?_
          refine st (s_callk (hcn ) rfl ⟨VT.le_refl _, VT.le_refl _, trivial⟩) rfl ?_
          refine st (sT (by assumption) (s_le rfl rfl)) rfl ?_
          refine st (s_move rfl) rfl ?_
          refine sg1 rfl rfl (s_move rfl) rfl ?_
          refine sg1 rfl rfl (s_callk (hod ) rfl ⟨VT.le_refl _, trivial⟩) rfl ?_
          refine sg1 rfl rfl (s_loadW 4 rfl rfl) rfl ?_
          refine sg1 rfl rfl (s_callk (hgc ) rfl ⟨VT.le_refl _, VT.le_refl _, trivial⟩) rfl ?_
          refine sg1 rfl rfl (s_loadB 2 rfl rfl rfl) rfl ?_
          refine sg1 rfl rfl (s_callk (hsa ) rfl ⟨VT.le_refl _, VT.le_refl _, trivial⟩) rfl ?_
          refine st (s_pickT rfl rfl) rfl ?_
          refine Run.nil ?_
          refine Run.nil ?_
          refine pj_then ?_
          refine J_cond0 rfl ?_
          refine J_skip ?_
          refine pn_block ?_
          refine pj_then ?_
          refine J_reg ?_
          refine st (s_move rfl) rfl ?_
          refine st (s_addN _ 1 rfl rfl (by omega)) rfl ?_
          refine st (s_assign rfl) rfl ?_
          refine Run.nil ?_
          refine pj_roundM (d + 1) (⟨by omega, by omega, nx⟩) (by omega) (by repeat (first | exact SubG.refl _ | exact SubG.nil | refine SubG.cons rfl (VT.le_refl _) ?_ | (refine SubG.cons rfl (one_le ?_) ?_; (congr 1; first | omega | (simp; omega) | simp)))) (.drop (.keep (Own.le_refl _) (.keep (Own.le_refl _) (.keep (Own.le_refl _) (.keep (Own.le_refl _) (.keep (Own.le_refl _) (.nil)))))))
      · exfalso; omega
  · have hcc : ¬ cmpI (d : Int) (s : Int) ≤ 0 := by unfold cmpI; rw [if_neg (by omega), if_pos (by omega)]; decide
    rw [ratE_none t2 (fun e h h' => d3 e h (by omega))]
    unfold ratO fracT
    refine J_seq ?_
    refine J_seq ?_
    refine J_regd 9 mixed (by kernel_rfl) (by decide) ?_
    refine st (s_move rfl) rfl ?_
    refine st (sT (by omega) (s_le rfl rfl)) rfl ?_
    refine st (s_move rfl) rfl ?_
    refine sg1 rfl rfl (s_move rfl) rfl ?_
    refine sg1 rfl rfl (s_callk (hod ) rfl ⟨VT.le_refl _, trivial⟩) rfl ?_
    refine sg1 rfl rfl (s_loadB 0 rfl rfl rfl) rfl ?_
    refine sg1 rfl rfl (s_callk (hcd ) rfl ⟨VT.le_refl _, VT.le_refl _, trivial⟩) rfl ?_
    refine sg1 rfl rfl (sF (by assumption) (s_le rfl rfl)) rfl ?_
    refine st (s_pickT rfl rfl) rfl ?_
    refine Run.nil ?_
    refine Run.nil ?_
    refine pj_then ?_
    refine J_cond0 rfl ?_
    refine J_exit ?_
    refine px_then ?_
    refine px_then ?_
    refine px_block ?_
    refine pj_then ?_
    refine J_seq ?_
    refine J_reg ?_
    refine stB rfl rfl rfl ?_
    refine BuildK.nil ?_
    refine a_storeW 2 rfl rfl rfl rfl ?_
    refine st (s_assign rfl) rfl ?_
    refine Run.nil ?_
    refine pj_then ?_
    refine J_ret ?_
    refine retc2 Try.results31 (.cellW 2 rfl rfl (frac00)) (.tmp rfl (VT.le_refl _))
set_option maxHeartbeats 8000000 in
theorem rmLaw_ok (x : List Nat) (xn : Bool) (k : Int) (hx : Limbs x) (hk1 : -2147483648 ≤ k) (hk2 : k ≤ 2147483647) : Ok Try.prog 8 [numP x xn, one (.int .i32 k)] (one (.bool true)) := by
  have hs := sanity_ok
  have hn1 := number_ok x xn 2 hx (by decide)
  have ha := numI_le (n := xn) (k := 2) hx
  generalize numI x xn 2 = a at *
  have sa : small0 a := small0_lt (Nat.lt_of_lt_of_le ha (pw_mono (32 * 2) 2048 (by decide)))
  have r1 : -1000000 ≤ Int.tmod k 1000001 := by
    have h := Int.lt_tmod_of_pos k (show (0 : Int) < 1000001 by decide)
    omega
  have r2 : Int.tmod k 1000001 ≤ 1000000 := by
    have h := Int.tmod_lt_of_pos k (show (0 : Int) < 1000001 by decide)
    omega
  unfold numP
  refine Ok.enter Try.func8 rfl Try.ntmps8 rfl (fun w O => ?_)
  have ho := rOf_ok (Int.tmod k 1000001) (by omega) (by omega)
  by_cases c : Int.tmod k 1000001 < 2
  · have sv : small (Int.tmod k 1000001) := small_lt (Nat.lt_of_lt_of_le (show (Int.tmod k 1000001).natAbs < 2 ^ 20 by omega) (pw_mono 20 2048 (by decide)))
    have hra := Rational1_ok a (Int.tmod k 1000001) c
    have hrb := rRational1_ok a (Int.tmod k 1000001) c sv
    unfold fracT at hra hrb
    refine J_seq ?_
    refine J_reg ?_
    refine a_boxS rfl rfl (ltN rfl) (fun b2 => ?_)
    refine st (s_assign rfl) rfl ?_
    refine Run.nil ?_
    refine pj_then ?_
    refine J_seq ?_
    refine J_reg ?_
    refine st (s_callk (hs ) rfl trivial) rfl ?_
    refine st (s_assign rfl) rfl ?_
    refine Run.nil ?_
    refine pj_then ?_
    refine J_seq ?_
    refine J_reg ?_
    refine st (s_loadW 0 rfl rfl) rfl ?_
    refine st (s_callk (hn1 ) rfl ⟨VT.le_refl _, VT.le_refl _, trivial⟩) rfl ?_
    refine st (s_move rfl) rfl ?_
    refine st (s_toI64 rfl (by omega) (by omega)) rfl ?_
    refine st (s_rem rfl rfl (by decide) rfl) rfl ?_
    refine st (s_callk (ho ) rfl ⟨VT.le_refl _, trivial⟩) rfl ?_
    refine a_alloc (T := 29) rfl (ltN rfl) (fun b6 => ?_)
    refine a_alloc (T := 29) rfl (ltN rfl) (fun b7 => ?_)
    refine a_storeB 1 rfl rfl rfl rfl rfl (leN rfl) rfl ?_
    refine a_storeB 0 rfl rfl rfl rfl rfl (leN rfl) rfl ?_
    refine Run.nil ?_
    refine pj_then ?_
    refine J_seq ?_
    refine J_reg ?_
    refine st (s_loadB 1 rfl rfl rfl) rfl ?_
    refine st (s_loadB 0 rfl rfl rfl) rfl ?_
    refine st (s_callk (hra ) rfl ⟨VT.le_refl _, VT.le_refl _, trivial⟩) rfl ?_
    refine st (s_move rfl) rfl ?_
    refine st (s_extract rfl rfl) rfl ?_
    refine st (s_extract rfl rfl) rfl ?_
    refine a_allocS (T := 59) rfl rfl rfl (fun b8 => ?_)
    refine a_storeW 0 rfl rfl rfl rfl ?_
    refine st (s_assign rfl) rfl ?_
    refine Run.nil ?_
    refine pj_then ?_
    refine J_seq ?_
    refine J_reg ?_
    refine st (s_loadB 2 rfl rfl rfl) rfl ?_
    refine st (s_loadB 1 rfl rfl rfl) rfl ?_
    refine st (s_callk (hrb ) rfl ⟨VT.le_refl _, VT.le_refl _, trivial⟩) rfl ?_
    refine st (s_move rfl) rfl ?_
    refine st (s_extract rfl rfl) rfl ?_
    refine st (s_extract rfl rfl) rfl ?_
    refine a_allocS (T := 59) rfl rfl rfl (fun b10 => ?_)
    refine a_storeW 0 rfl rfl rfl rfl ?_
    refine st (s_assign rfl) rfl ?_
    refine Run.nil ?_
    refine pj_then ?_
    refine J_seq ?_
    refine J_reg ?_
    refine st (s_move rfl) rfl ?_
    refine st (s_move rfl) rfl ?_
    refine st (sT (by omega) (s_eq rfl rfl)) rfl ?_
    refine st (s_move rfl) rfl ?_
    refine sg1 rfl rfl (s_move rfl) rfl ?_
    refine sg1 rfl rfl (sF (by omega) (s_eq rfl rfl)) rfl ?_
    refine sg1 rfl rfl (s_move rfl) rfl ?_
    refine sn0 rfl rfl rfl rfl rfl ?_
    refine sn0 rfl rfl rfl rfl rfl ?_
    refine sn0 rfl rfl rfl rfl rfl ?_
    refine sg1 rfl rfl (s_pickF rfl rfl) rfl ?_
    refine sg1 rfl rfl (s_move rfl) rfl ?_
    refine sg1 rfl rfl (s_move rfl) rfl ?_
    refine sg1 rfl rfl (sT (by omega) (s_ne rfl rfl)) rfl ?_
    refine sg1 rfl rfl (s_move rfl) rfl ?_
    refine sg1 rfl rfl (s_fieldAddr rfl) rfl ?_
    refine sg1 rfl rfl (s_fieldAddr rfl) rfl ?_
    refine sg1 rfl rfl (s_loadBP 1 2 1 rfl rfl rfl rfl rfl) rfl ?_
    refine sg1 rfl rfl (s_len rfl) rfl ?_
    refine sg1 rfl rfl (sT (rfl) (s_eq rfl rfl)) rfl ?_
    refine sg1 rfl rfl (s_pickT rfl rfl) rfl ?_
    refine sg1 rfl rfl (s_pickF rfl rfl) rfl ?_
    refine st (s_pickT rfl rfl) rfl ?_
    refine st (s_move rfl) rfl ?_
    refine sg1 rfl rfl (s_move rfl) rfl ?_
    refine st (s_pickT rfl rfl) rfl ?_
    refine st (s_assign rfl) rfl ?_
    refine Run.nil ?_
    refine pj_then ?_
    refine J_ret ?_
    refine retc1 Try.results8 (.tmp rfl (VT.le_refl _))
  · obtain ⟨m, hm⟩ : ∃ m : Nat, Int.tmod k 1000001 = (m : Int) := ⟨(Int.tmod k 1000001).toNat, by omega⟩
    rw [hm] at ho c r2
    obtain ⟨s, q1, q2⟩ := sqrt_ex ((m - 1) / 2)
    have hm8 : m ≤ 2 ^ 800 := Nat.le_trans (show m ≤ 2 ^ 20 by omega) (pw_mono 20 800 (by decide))
    have ha8 : a.natAbs < 2 ^ 800 := Nat.lt_of_lt_of_le ha (pw_mono (32 * 2) 800 (by decide))
    have hra := Rational_ok a m s (by omega) hm8 (Nat.le_of_lt ha8) q1 q2
    have hrb := rRational_ok a m s (by omega) (by omega) ha8 q1 q2
    cases hE : ratE a m s with
    | none =>
      rw [hE] at hra hrb
      unfold ratO fracT at hra hrb
      rw [Option.isSome_none, if_neg (by decide), ← hm] at hra hrb
      rw [← hm] at ho
      refine J_seq ?_
      refine J_reg ?_
      refine a_boxS rfl rfl (ltN rfl) (fun b2 => ?_)
      refine st (s_assign rfl) rfl ?_
      refine Run.nil ?_
      refine pj_then ?_
      refine J_seq ?_
      refine J_reg ?_
      refine st (s_callk (hs ) rfl trivial) rfl ?_
      refine st (s_assign rfl) rfl ?_
      refine Run.nil ?_
      refine pj_then ?_
      refine J_seq ?_
      refine J_reg ?_
      refine st (s_loadW 0 rfl rfl) rfl ?_
      refine st (s_callk (hn1 ) rfl ⟨VT.le_refl _, VT.le_refl _, trivial⟩) rfl ?_
      refine st (s_move rfl) rfl ?_
      refine st (s_toI64 rfl (by omega) (by omega)) rfl ?_
      refine st (s_rem rfl rfl (by decide) rfl) rfl ?_
      refine st (s_callk (ho ) rfl ⟨VT.le_refl _, trivial⟩) rfl ?_
      refine a_alloc (T := 29) rfl (ltN rfl) (fun b6 => ?_)
      refine a_alloc (T := 29) rfl (ltN rfl) (fun b7 => ?_)
      refine a_storeB 1 rfl rfl rfl rfl rfl (leN rfl) rfl ?_
      refine a_storeB 0 rfl rfl rfl rfl rfl (leN rfl) rfl ?_
      refine Run.nil ?_
      refine pj_then ?_
      refine J_seq ?_
      refine J_reg ?_
      refine st (s_loadB 1 rfl rfl rfl) rfl ?_
      refine st (s_loadB 0 rfl rfl rfl) rfl ?_
      refine st (s_callk (hra ) rfl ⟨VT.le_refl _, VT.le_refl _, trivial⟩) rfl ?_
      refine st (s_move rfl) rfl ?_
      refine st (s_extract rfl rfl) rfl ?_
      refine st (s_extract rfl rfl) rfl ?_
      refine a_allocS (T := 59) rfl rfl rfl (fun b8 => ?_)
      refine a_storeW 0 rfl rfl rfl rfl ?_
      refine st (s_assign rfl) rfl ?_
      refine Run.nil ?_
      refine pj_then ?_
      refine J_seq ?_
      refine J_reg ?_
      refine st (s_loadB 2 rfl rfl rfl) rfl ?_
      refine st (s_loadB 1 rfl rfl rfl) rfl ?_
      refine st (s_callk (hrb ) rfl ⟨VT.le_refl _, VT.le_refl _, trivial⟩) rfl ?_
      refine st (s_move rfl) rfl ?_
      refine st (s_extract rfl rfl) rfl ?_
      refine st (s_extract rfl rfl) rfl ?_
      refine a_allocS (T := 59) rfl rfl rfl (fun b10 => ?_)
      refine a_storeW 0 rfl rfl rfl rfl ?_
      refine st (s_assign rfl) rfl ?_
      refine Run.nil ?_
      refine pj_then ?_
      refine J_seq ?_
      refine J_reg ?_
      refine st (s_move rfl) rfl ?_
      refine st (s_move rfl) rfl ?_
      refine st (sT (by omega) (s_eq rfl rfl)) rfl ?_
      refine st (s_move rfl) rfl ?_
      refine sg1 rfl rfl (s_move rfl) rfl ?_
      refine sg1 rfl rfl (sF (by omega) (s_eq rfl rfl)) rfl ?_
      refine sg1 rfl rfl (s_move rfl) rfl ?_
      refine sn0 rfl rfl rfl rfl rfl ?_
      refine sn0 rfl rfl rfl rfl rfl ?_
      refine sn0 rfl rfl rfl rfl rfl ?_
      refine sg1 rfl rfl (s_pickF rfl rfl) rfl ?_
      refine sg1 rfl rfl (s_move rfl) rfl ?_
      refine sg1 rfl rfl (s_move rfl) rfl ?_
      refine sg1 rfl rfl (sT (by omega) (s_ne rfl rfl)) rfl ?_
      refine sg1 rfl rfl (s_move rfl) rfl ?_
      refine sg1 rfl rfl (s_fieldAddr rfl) rfl ?_
      refine sg1 rfl rfl (s_fieldAddr rfl) rfl ?_
      refine sg1 rfl rfl (s_loadBP 1 2 1 rfl rfl rfl rfl rfl) rfl ?_
      refine sg1 rfl rfl (s_len rfl) rfl ?_
      refine sg1 rfl rfl (sT (rfl) (s_eq rfl rfl)) rfl ?_
      refine sg1 rfl rfl (s_pickT rfl rfl) rfl ?_
      refine sg1 rfl rfl (s_pickF rfl rfl) rfl ?_
      refine st (s_pickT rfl rfl) rfl ?_
      refine st (s_move rfl) rfl ?_
      refine sg1 rfl rfl (s_move rfl) rfl ?_
      refine st (s_pickT rfl rfl) rfl ?_
      refine st (s_assign rfl) rfl ?_
      refine Run.nil ?_
      refine pj_then ?_
      refine J_ret ?_
      refine retc1 Try.results8 (.tmp rfl (VT.le_refl _))
    | some f =>
      rw [hE] at hra hrb
      unfold ratO at hra hrb
      rw [Option.isSome_some, if_pos rfl, ← hm] at hra hrb
      rw [← hm] at ho
      dsimp only at hra hrb
      have hsf := rqSame_ok f f
      rw [decide_eq_true rfl] at hsf
      refine J_seq ?_
      refine J_reg ?_
      refine a_boxS rfl rfl (ltN rfl) (fun b2 => ?_)
      refine st (s_assign rfl) rfl ?_
      refine Run.nil ?_
      refine pj_then ?_
      refine J_seq ?_
      refine J_reg ?_
      refine st (s_callk (hs ) rfl trivial) rfl ?_
      refine st (s_assign rfl) rfl ?_
      refine Run.nil ?_
      refine pj_then ?_
      refine J_seq ?_
      refine J_reg ?_
      refine st (s_loadW 0 rfl rfl) rfl ?_
      refine st (s_callk (hn1 ) rfl ⟨VT.le_refl _, VT.le_refl _, trivial⟩) rfl ?_
      refine st (s_move rfl) rfl ?_
      refine st (s_toI64 rfl (by omega) (by omega)) rfl ?_
      refine st (s_rem rfl rfl (by decide) rfl) rfl ?_
      refine st (s_callk (ho ) rfl ⟨VT.le_refl _, trivial⟩) rfl ?_
      refine a_alloc (T := 29) rfl (ltN rfl) (fun b6 => ?_)
      refine a_alloc (T := 29) rfl (ltN rfl) (fun b7 => ?_)
      refine a_storeB 1 rfl rfl rfl rfl rfl (leN rfl) rfl ?_
      refine a_storeB 0 rfl rfl rfl rfl rfl (leN rfl) rfl ?_
      refine Run.nil ?_
      refine pj_then ?_
      refine J_seq ?_
      refine J_reg ?_
      refine st (s_loadB 1 rfl rfl rfl) rfl ?_
      refine st (s_loadB 0 rfl rfl rfl) rfl ?_
      refine st (s_callk (hra ) rfl ⟨VT.le_refl _, VT.le_refl _, trivial⟩) rfl ?_
      refine st (s_move rfl) rfl ?_
      refine st (s_extract rfl rfl) rfl ?_
      refine st (s_extract rfl rfl) rfl ?_
      refine a_allocS (T := 59) rfl rfl rfl (fun b8 => ?_)
      refine a_storeW 0 rfl rfl rfl rfl ?_
      refine st (s_assign rfl) rfl ?_
      refine Run.nil ?_
      refine pj_then ?_
      refine J_seq ?_
      refine J_reg ?_
      refine st (s_loadB 2 rfl rfl rfl) rfl ?_
      refine st (s_loadB 1 rfl rfl rfl) rfl ?_
      refine st (s_callk (hrb ) rfl ⟨VT.le_refl _, VT.le_refl _, trivial⟩) rfl ?_
      refine st (s_move rfl) rfl ?_
      refine st (s_extract rfl rfl) rfl ?_
      refine st (s_extract rfl rfl) rfl ?_
      refine a_allocS (T := 59) rfl rfl rfl (fun b10 => ?_)
      refine a_storeW 0 rfl rfl rfl rfl ?_
      refine st (s_assign rfl) rfl ?_
      refine Run.nil ?_
      refine pj_then ?_
      refine J_seq ?_
      refine J_reg ?_
      refine st (s_move rfl) rfl ?_
      refine st (s_move rfl) rfl ?_
      refine st (sT (by omega) (s_eq rfl rfl)) rfl ?_
      refine st (s_move rfl) rfl ?_
      refine sg1 rfl rfl (s_move rfl) rfl ?_
      refine sg1 rfl rfl (sT (by omega) (s_eq rfl rfl)) rfl ?_
      refine sg1 rfl rfl (s_move rfl) rfl ?_
      refine sg1 rfl rfl (s_loadW 1 rfl rfl) rfl ?_
      refine sg1 rfl rfl (s_loadW 0 rfl rfl) rfl ?_
      refine sg1 rfl rfl (s_callk (hsf ) rfl ⟨VT.le_refl _, VT.le_refl _, trivial⟩) rfl ?_
      refine sg1 rfl rfl (s_pickT rfl rfl) rfl ?_
      refine sg1 rfl rfl (s_move rfl) rfl ?_
      refine sn0 rfl rfl rfl rfl rfl ?_
      refine sn0 rfl rfl rfl rfl rfl ?_
      refine sn0 rfl rfl rfl rfl rfl ?_
      refine snU rfl rfl rfl rfl ?_
      refine snU rfl rfl rfl rfl ?_
      refine snU rfl rfl rfl rfl ?_
      refine snU rfl rfl rfl rfl ?_
      refine snU rfl rfl rfl rfl ?_
      refine sn0 rfl rfl rfl rfl rfl ?_
      refine sg1 rfl rfl (s_pickT rfl rfl) rfl ?_
      refine st (s_pickT rfl rfl) rfl ?_
      refine st (s_move rfl) rfl ?_
      refine sg1 rfl rfl (s_move rfl) rfl ?_
      refine st (s_pickT rfl rfl) rfl ?_
      refine st (s_assign rfl) rfl ?_
      refine Run.nil ?_
      refine pj_then ?_
      refine J_ret ?_
      refine retc1 Try.results8 (.tmp rfl (VT.le_refl _))
theorem rmLawY_ok (x : List Nat) (xn : Bool) (k : Int) (hx : (∀ d ∈ x, d < 4294967296) ∧ True) (hk : (IntKind.min .i32 ≤ k ∧ k ≤ IntKind.max .i32) ∧ True) : Ok Try.prog 8 [numP x xn, one (.int .i32 k)] (one (.bool true)) := rmLaw_ok x xn k hx.1 hk.1.1 hk.1.2
end Tor
end

section
set_option linter.unusedVariables false
set_option linter.unusedSimpArgs false
set_option maxRecDepth 100000
namespace Tor
open Go Go.RowKit Go.ChangeShapes Go.WideShapes Go.ChangeAt Go.Joins Go.Proofs
theorem rd_num {H : Type} {enc : TypeId × Value → H} {W : World} {base : Nat} {v : Value} {d : DataW H} {ps : List MemPlace} (hval : Value.okWide Try.prog W .any base 26 v) (hT : DataW.Trod enc Try.prog W 0 (fun _ => true) true 26 v d ps) (hw : ∀ x ∈ DataW.weights Try.prog 26 d, x ≤ reachBytes) :
    ∃ (l : List Nat) (n : Bool), (numP l n).p v (view W) ∧ (∀ x ∈ l, x < 4294967296) ∧ True := by
  obtain ⟨cs, rfl, h⟩ := arg_agg 8 (ts := [24, 4]) (by kernel_rfl) (.inl ⟨_, Try.underlying26⟩) hval hT hw
  obtain ⟨c0, r0, rfl, h0, g0⟩ := h
  obtain ⟨c1, r1, rfl, h1, g1⟩ := g0
  cases g1
  obtain ⟨l, k0, b0⟩ := leaf_limbs Try.underlying24 Try.underlying72 (by kernel_rfl) (of_decide_eq_true (by kernel_rfl)) h0
  obtain ⟨n, rfl⟩ := leaf_bool Try.underlying4 h1
  exact ⟨l, n, agg_p (φs := [limT l, one (.bool n)]) ⟨k0, slT_one k0, ⟨rfl, rfl, trivial⟩⟩, b0, trivial⟩
theorem rd_i32 {H : Type} {enc : TypeId × Value → H} {W : World} {base : Nat} {v : Value} {d : DataW H} {ps : List MemPlace} (hval : Value.okWide Try.prog W .any base 21 v) (hT : DataW.Trod enc Try.prog W 0 (fun _ => true) true 21 v d ps) (hw : ∀ x ∈ DataW.weights Try.prog 21 d, x ≤ reachBytes) :
    ∃ (k : Int), (one (.int .i32 k)).p v (view W) ∧ (IntKind.min .i32 ≤ k ∧ k ≤ IntKind.max .i32) ∧ True := by
  have h := arg_leaf (.inl ⟨_, Try.underlying21⟩) hval hT hw
  obtain ⟨k, rfl, b0⟩ := leaf_int Try.underlying21 h
  exact ⟨k, rfl, b0, trivial⟩
end Tor
namespace Go.Proofs.Ythkgpdljbajieaa
open Go.ChangeShapes Go.WideShapes Go.ChangeAt Go.RowKit Go.Joins Tor
theorem crtRationalMatchesReference_own : ownKnob Try.prog.godebug = none := by kernel_rfl
theorem crtRationalMatchesReference_laid : laidOutB Try.prog = true := by kernel_rfl
set_option maxRecDepth 100000 in
theorem crtRationalMatchesReference_lifted (os : Os) (started : os.Started) (H : Type) (enc : TypeId × Value → H) :
    ReturnsInHanded {} Try.checked os 8 .any (Rows.crtRationalMatchesReferenceSpec.pre6 enc Try.prog Try.f8 Rows.crtRationalMatchesReferenceRow.domain false) (Rows.crtRationalMatchesReferenceSpec.post enc Try.prog Try.f8 false true false false) := by
  refine returnsInHanded_of_change_sized (C := Try.checked) crtRationalMatchesReference_own started (by kernel_rfl) Try.func8
    (ChangeSpec.witness6 (enc := enc) (C := Try.checked) false ⟨#[], #[.agg #[.slice none 0 0, .bool false], .int .i32 0], []⟩ 8 (by kernel_rfl) (by kernel_rfl) (by kernel_rfl) (by kernel_rfl)) ?_
  intro W base args ds gs before hval0 hW hcnd hsz0 _
  have hval : ∀ (j : Nat) t v, Try.f8.params[j]? = some t → args[j]? = some v → Value.okWide Try.prog W .any base t v := hval0
  have hsz : (DataW.weightsEach Try.prog (Try.f8.params.toList ++ Rows.crtRationalMatchesReferenceSpec.plain.varTypes Try.prog) (ds ++ gs)).all (· ≤ reachBytes) = true := hsz0
  have hW' := hW
  obtain ⟨p, q, hA0, hV, rfl, hfz, hnd⟩ := hW
  have hA : DataW.TrodAll enc Try.prog W 0 (fun _ => true) true Try.f8.params.toList args.toList ds p := hA0
  rw [Try.params8] at hA hval hsz
  obtain ⟨v0, v1, d0, d1, p0, p1, rfl, rfl, rfl, h0, h1⟩ := trodAll_two hA
  obtain ⟨rfl, rfl⟩ := trodVars_none hV
  obtain ⟨l_0, n_0, x0, y0⟩ := rd_num (hval 0 26 _ rfl rfl) h0 (arg_weights hsz 0 rfl rfl)
  obtain ⟨k_1, x1, y1⟩ := rd_i32 (hval 1 21 _ rfl rfl) h1 (arg_weights hsz 1 rfl rfl)
  refine (Ok.outside (W := W) (args := #[v0, v1]) (rmLawY_ok l_0 n_0 k_1 y0 y1) (And.intro x0 (And.intro x1 (trivial)))).mono fun e W' ⟨v, he, hv, hw⟩ => ?_
  subst he
  have hv : v = .bool true := hv
  subst hv
  refine ⟨_, rfl, _, [], _, [], _, [], hW', trodAll_mk1 (shut_bool Try.underlying4 true), trodAll_mk2
    (Below.trod crtRationalMatchesReference_laid (by kernel_rfl) (of_decide_eq_true (by kernel_rfl)) h0 hw (fun x hx => by simpa using hW'.lt x (by simp only [List.mem_append] at hx ⊢; simp [hx])))
    (Below.trod crtRationalMatchesReference_laid (by kernel_rfl) (of_decide_eq_true (by kernel_rfl)) h1 hw (fun x hx => by simpa using hW'.lt x (by simp only [List.mem_append] at hx ⊢; simp [hx]))), rfl, hw.frame _, fun h => by cases h⟩
theorem crtRationalMatchesReference_holds : Rows.CrtRationalMatchesReferenceSaid :=
  OpenClaim.holds_of_wide 8 Try.f8 rfl rfl rfl rfl rfl rfl rfl ⟨rfl, rfl, rfl, rfl, rfl⟩ rfl rfl rfl rfl rfl (by kernel_rfl) Try.func8 (by kernel_rfl)
    (of_decide_eq_true (by kernel_rfl)) (by unfold Func.isWrapper; first | (rw [if_pos (by decide +kernel)]; kernel_rfl) | (rw [if_neg (by decide +kernel)]; exact ⟨rfl, rfl⟩))
    (fun os started H enc _ => crtRationalMatchesReference_lifted os started H enc)
end Go.Proofs.Ythkgpdljbajieaa
namespace Tor
end Tor
end
