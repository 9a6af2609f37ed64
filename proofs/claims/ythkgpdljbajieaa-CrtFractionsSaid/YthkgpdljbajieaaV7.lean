/-
  Proofs that laws of this seat return true for every input, and that their arguments read afterwards as before.
  No condition.
-/
import Derived.Test.YthkgpdljbajieaaV6
import Derived.Test.YthkgpdljbajieaaRows
section
set_option linter.unusedVariables false
set_option linter.unusedSimpArgs false
namespace Tor
open Go Go.RowKit Go.Proofs
theorem two_sq {m s : Nat} (hm : 2 ≤ m) (h1 : s * s ≤ (m - 1) / 2) : 2 * (s * s) < m ∧ s < m := by
  refine ⟨by omega, ?_⟩
  rcases Nat.eq_zero_or_pos s with h | h
  · omega
  · have := Nat.le_mul_of_pos_right s h
    omega
theorem frac_dvd {n d s m k : Int} (h : m ∣ s * d - 1) : m ∣ n - (n * s + m * k) * d := by
  have e : n - (n * s + m * k) * d = -(n * (s * d - 1)) - m * (k * d) := by grind
  rw [e]
  exact Int.dvd_sub (Int.dvd_neg.2 (Int.dvd_mul_of_dvd_right h)) (Int.dvd_mul_right _ _)
attribute [local irreducible] Tor.J Tor.PJ Tor.StepO Tor.one Tor.slT Tor.ptrT Tor.aggT Tor.tupT Tor.exT Tor.andT Tor.gT Tor.eP Tor.boxO Tor.sliO Tor.slV Tor.VT.le Tor.Ret Tor.anyT Tor.mapO Tor.metT
set_option maxHeartbeats 8000000 in
theorem fractionsLaw_ok (x : List Nat) (xn : Bool) (d : List Nat) (dn : Bool) (y : List Nat) (yn : Bool) (hx : Limbs x) (hd : Limbs d) (hy : Limbs y) : Ok Try.prog 10 [numP x xn, numP d dn, numP y yn] (one (.bool true)) := by
  have hs := sanity_ok
  have hn1 := number_ok y yn 6 hy (by decide)
  have hn2 := number_ok x xn 2 hx (by decide)
  have hn3 := number_ok d dn 2 hd (by decide)
  have hn4 := number_ok d dn 1 hd (by decide)
  have hb := numI_le (n := yn) (k := 6) hy
  have ha := numI_le (n := xn) (k := 2) hx
  have hc := numI_le (n := dn) (k := 2) hd
  have he := numI_le (n := dn) (k := 1) hd
  generalize numI y yn 6 = b at *
  generalize numI x xn 2 = a at *
  generalize numI d dn 2 = c at *
  generalize numI d dn 1 = e at *
  have sb : small0 b := small0_lt (Nat.lt_of_lt_of_le hb (pw_mono (32 * 6) 2048 (by decide)))
  have sa : small0 a := small0_lt (Nat.lt_of_lt_of_le ha (pw_mono (32 * 2) 2048 (by decide)))
  have sc : small0 c := small0_lt (Nat.lt_of_lt_of_le hc (pw_mono (32 * 2) 2048 (by decide)))
  have se : small0 e := small0_lt (Nat.lt_of_lt_of_le he (pw_mono (32 * 1) 2048 (by decide)))
  have hab := rAbsI_ok b sb.small
  have hac := rAbsI_ok c sc.small
  obtain ⟨m, hm⟩ : ∃ m, m = b.natAbs := ⟨_, rfl⟩
  obtain ⟨t, ht⟩ : ∃ t, t = c.natAbs := ⟨_, rfl⟩
  rw [← hm] at hab hb
  rw [← ht] at hac hc
  have sM : small0 (m : Int) := small0_abs sb (by omega)
  have st0 : small0 (t : Int) := small0_abs sc (by omega)
  have o2 := rOf_ok 2 (by decide) (by decide)
  have o1 := rOf_ok 1 (by decide) (by decide)
  have s2 : small 2 := small_lt (by decide +kernel)
  have s1 : small 1 := small_lt (by decide +kernel)
  have hc2 := rCmpI_ok (m : Int) 2 sM.small s2
  have hst := rSignI_ok (t : Int)
  have hm8 : m < 2 ^ 800 := Nat.lt_of_lt_of_le hb (pw_mono (32 * 6) 800 (by decide))
  unfold numP
  refine Ok.enter Try.func10 rfl Try.ntmps10 rfl (fun w O => ?_)
  by_cases c1 : m < 2
  · have hcc : cmpI (m : Int) 2 < 0 := by unfold cmpI; rw [if_pos (by omega)]; decide
    refine J_seq ?_
    refine J_reg ?_
    refine a_boxS rfl rfl (ltN rfl) (fun b3 => ?_)
    refine a_boxS rfl rfl (ltN rfl) (fun b4 => ?_)
    refine a_boxS rfl rfl (ltN rfl) (fun b5 => ?_)
    refine st (s_assign rfl) rfl ?_
    refine Run.nil ?_
    refine pj_then ?_
    refine J_seq ?_
    refine J_reg ?_
    refine st (s_callk (hs ) rfl trivial) rfl ?_
    refine st (s_assign rfl) rfl ?_
    refine Run.nil ?_
    refine pj_then ?_
    refine J_seq ?_
    refine J_regU2 mixed (by kernel_rfl) (by kernel_rfl) ?_
    refine ux (fun B => s_loadW 0 rfl rfl) rfl rfl ?_
    refine uxk (hn1 ) rfl ⟨VT.le_refl _, VT.le_refl _, trivial⟩ rfl ?_
    refine uxk (hab ) rfl ⟨VT.le_refl _, trivial⟩ rfl ?_
    refine ux (fun B => s_loadW 2 rfl rfl) rfl rfl ?_
    refine uxk (hn2 ) rfl ⟨VT.le_refl _, VT.le_refl _, trivial⟩ rfl ?_
    refine ux (fun B => s_loadW 1 rfl rfl) rfl rfl ?_
    refine uxk (hn3 ) rfl ⟨VT.le_refl _, VT.le_refl _, trivial⟩ rfl ?_
    refine uxk (hac ) rfl ⟨VT.le_refl _, trivial⟩ rfl ?_
    refine ua rfl ?_
    refine ua rfl ?_
    refine ua rfl ?_
    refine us rfl ?_
    refine us rfl ?_
    refine us rfl ?_
    refine RunU.nil (fun γ => ?_)
    refine PJ_normM (M' := [_, _, _, _, _, _]) rfl ?_
    refine pj_then ?_
    refine J_seq ?_
    refine J_seq ?_
    refine J_regd 9 mixed (by kernel_rfl) (by decide) ?_
    refine st (s_loadB 2 rfl rfl rfl) rfl ?_
    refine st (s_callk (o2 ) rfl ⟨VT.le_refl _, trivial⟩) rfl ?_
    refine st (s_callk (hc2 ) rfl ⟨VT.le_refl _, VT.le_refl _, trivial⟩) rfl ?_
    refine st (sT (by assumption) (s_lt rfl rfl)) rfl ?_
    refine st (s_move rfl) rfl ?_
    refine sg0 rfl rfl rfl rfl ?_
    refine sg0 rfl rfl rfl rfl ?_
    refine sg0 rfl rfl rfl rfl ?_
    refine st (s_pickT rfl rfl) rfl ?_
    refine Run.nil ?_
    refine Run.nil ?_
    refine pj_then ?_
    refine J_cond1 rfl ?_
    refine J_seq ?_
    refine J_reg ?_
    refine st (s_move rfl) rfl ?_
    refine st (s_assign rfl) rfl ?_
    refine Run.nil ?_
    refine pj_then ?_
    refine J_ret ?_
    refine pr_then ?_
    refine retc1 Try.results10 (.tmp rfl (VT.le_refl _))
  have hcc : ¬ cmpI (m : Int) 2 < 0 := by unfold cmpI; split <;> (try split) <;> omega
  by_cases c2 : t = 0
  · have hs0 : sgnI (t : Int) = 0 := by rw [c2]; rfl
    refine J_seq ?_
    refine J_reg ?_
    refine a_boxS rfl rfl (ltN rfl) (fun b3 => ?_)
    refine a_boxS rfl rfl (ltN rfl) (fun b4 => ?_)
    refine a_boxS rfl rfl (ltN rfl) (fun b5 => ?_)
    refine st (s_assign rfl) rfl ?_
    refine Run.nil ?_
    refine pj_then ?_
    refine J_seq ?_
    refine J_reg ?_
    refine st (s_callk (hs ) rfl trivial) rfl ?_
    refine st (s_assign rfl) rfl ?_
    refine Run.nil ?_
    refine pj_then ?_
    refine J_seq ?_
    refine J_regU2 mixed (by kernel_rfl) (by kernel_rfl) ?_
    refine ux (fun B => s_loadW 0 rfl rfl) rfl rfl ?_
    refine uxk (hn1 ) rfl ⟨VT.le_refl _, VT.le_refl _, trivial⟩ rfl ?_
    refine uxk (hab ) rfl ⟨VT.le_refl _, trivial⟩ rfl ?_
    refine ux (fun B => s_loadW 2 rfl rfl) rfl rfl ?_
    refine uxk (hn2 ) rfl ⟨VT.le_refl _, VT.le_refl _, trivial⟩ rfl ?_
    refine ux (fun B => s_loadW 1 rfl rfl) rfl rfl ?_
    refine uxk (hn3 ) rfl ⟨VT.le_refl _, VT.le_refl _, trivial⟩ rfl ?_
    refine uxk (hac ) rfl ⟨VT.le_refl _, trivial⟩ rfl ?_
    refine ua rfl ?_
    refine ua rfl ?_
    refine ua rfl ?_
    refine us rfl ?_
    refine us rfl ?_
    refine us rfl ?_
    refine RunU.nil (fun γ => ?_)
    refine PJ_normM (M' := [_, _, _, _, _, _]) rfl ?_
    refine pj_then ?_
    refine J_seq ?_
    refine J_seq ?_
    refine J_regd 9 mixed (by kernel_rfl) (by decide) ?_
    refine st (s_loadB 2 rfl rfl rfl) rfl ?_
    refine st (s_callk (o2 ) rfl ⟨VT.le_refl _, trivial⟩) rfl ?_
    refine st (s_callk (hc2 ) rfl ⟨VT.le_refl _, VT.le_refl _, trivial⟩) rfl ?_
    refine st (sF (by assumption) (s_lt rfl rfl)) rfl ?_
    refine st (s_move rfl) rfl ?_
    refine sg1 rfl rfl (s_loadB 0 rfl rfl rfl) rfl ?_
    refine sg1 rfl rfl (s_callk (hst ) rfl ⟨VT.le_refl _, trivial⟩) rfl ?_
    refine sg1 rfl rfl (sT (by assumption) (s_eq rfl rfl)) rfl ?_
    refine st (s_pickF rfl rfl) rfl ?_
    refine Run.nil ?_
    refine Run.nil ?_
    refine pj_then ?_
    refine J_cond1 rfl ?_
    refine J_seq ?_
    refine J_reg ?_
    refine st (s_move rfl) rfl ?_
    refine st (s_assign rfl) rfl ?_
    refine Run.nil ?_
    refine pj_then ?_
    refine J_ret ?_
    refine pr_then ?_
    refine retc1 Try.results10 (.tmp rfl (VT.le_refl _))
  have hs0 : sgnI (t : Int) ≠ 0 := by unfold sgnI; rw [if_neg (by omega)]; split <;> decide
  obtain ⟨s, q1, q2⟩ := sqrt_ex ((m - 1) / 2)
  obtain ⟨m2, hsm⟩ := two_sq (by omega) q1
  have hli := rLimit_ok m s (by omega) hm8 q1 q2
  have hss := rSignI_ok (s : Int)
  by_cases c3 : s = 0
  · have hs1 : sgnI (s : Int) = 0 := by rw [c3]; rfl
    refine J_seq ?_
    refine J_reg ?_
    refine a_boxS rfl rfl (ltN rfl) (fun b3 => ?_)
    refine a_boxS rfl rfl (ltN rfl) (fun b4 => ?_)
    refine a_boxS rfl rfl (ltN rfl) (fun b5 => ?_)
    refine st (s_assign rfl) rfl ?_
    refine Run.nil ?_
    refine pj_then ?_
    refine J_seq ?_
    refine J_reg ?_
    refine st (s_callk (hs ) rfl trivial) rfl ?_
    refine st (s_assign rfl) rfl ?_
    refine Run.nil ?_
    refine pj_then ?_
    refine J_seq ?_
    refine J_regU2 mixed (by kernel_rfl) (by kernel_rfl) ?_
    refine ux (fun B => s_loadW 0 rfl rfl) rfl rfl ?_
    refine uxk (hn1 ) rfl ⟨VT.le_refl _, VT.le_refl _, trivial⟩ rfl ?_
    refine uxk (hab ) rfl ⟨VT.le_refl _, trivial⟩ rfl ?_
    refine ux (fun B => s_loadW 2 rfl rfl) rfl rfl ?_
    refine uxk (hn2 ) rfl ⟨VT.le_refl _, VT.le_refl _, trivial⟩ rfl ?_
    refine ux (fun B => s_loadW 1 rfl rfl) rfl rfl ?_
    refine uxk (hn3 ) rfl ⟨VT.le_refl _, VT.le_refl _, trivial⟩ rfl ?_
    refine uxk (hac ) rfl ⟨VT.le_refl _, trivial⟩ rfl ?_
    refine ua rfl ?_
    refine ua rfl ?_
    refine ua rfl ?_
    refine us rfl ?_
    refine us rfl ?_
    refine us rfl ?_
    refine RunU.nil (fun γ => ?_)
    refine PJ_normM (M' := [_, _, _, _, _, _]) rfl ?_
    refine pj_then ?_
    refine J_seq ?_
    refine J_seq ?_
    refine J_regd 9 mixed (by kernel_rfl) (by decide) ?_
    refine st (s_loadB 2 rfl rfl rfl) rfl ?_
    refine st (s_callk (o2 ) rfl ⟨VT.le_refl _, trivial⟩) rfl ?_
    refine st (s_callk (hc2 ) rfl ⟨VT.le_refl _, VT.le_refl _, trivial⟩) rfl ?_
    refine st (sF (by assumption) (s_lt rfl rfl)) rfl ?_
    refine st (s_move rfl) rfl ?_
    refine sg1 rfl rfl (s_loadB 0 rfl rfl rfl) rfl ?_
    refine sg1 rfl rfl (s_callk (hst ) rfl ⟨VT.le_refl _, trivial⟩) rfl ?_
    refine sg1 rfl rfl (sF (by assumption) (s_eq rfl rfl)) rfl ?_
    refine st (s_pickF rfl rfl) rfl ?_
    refine Run.nil ?_
    refine Run.nil ?_
    refine pj_then ?_
    refine J_cond0 rfl ?_
    refine J_skip ?_
    refine pj_then ?_
    refine J_seq ?_
    refine J_reg ?_
    refine st (s_loadB 2 rfl rfl rfl) rfl ?_
    refine st (s_callk (hli ) rfl ⟨VT.le_refl _, trivial⟩) rfl ?_
    refine a_alloc (T := 29) rfl (ltN rfl) (fun b11 => ?_)
    refine a_storeB 0 rfl rfl rfl rfl rfl (leN rfl) rfl ?_
    refine Run.nil ?_
    refine pj_then ?_
    refine J_seq ?_
    refine J_seq ?_
    refine J_reg ?_
    refine st (s_loadB 0 rfl rfl rfl) rfl ?_
    refine st (s_callk (hss ) rfl ⟨VT.le_refl _, trivial⟩) rfl ?_
    refine st (sT (by assumption) (s_eq rfl rfl)) rfl ?_
    refine Run.nil ?_
    refine pj_then ?_
    refine J_cond1 rfl ?_
    refine J_seq ?_
    refine J_reg ?_
    refine st (s_move rfl) rfl ?_
    refine st (s_assign rfl) rfl ?_
    refine Run.nil ?_
    refine pj_then ?_
    refine J_ret ?_
    refine pr_then ?_
    refine retc1 Try.results10 (.tmp rfl (VT.le_refl _))
  have hs1 : sgnI (s : Int) ≠ 0 := by unfold sgnI; rw [if_neg (by omega)]; split <;> decide
  have ss : small0 (s : Int) := small0_abs sM (by omega)
  have had := rAddI_ok (s : Int) 1 ss.small s1
  have ss1 : small0 ((s : Int) + 1) := small0_abs sM (by omega)
  have hd1 := rDivMod_ok a ((s : Int) + 1) (by omega) sa ss1
  have hd2 := rDivMod_ok (t : Int) (s : Int) (by omega) st0 ss
  have n1 := Int.emod_nonneg a (show (s : Int) + 1 ≠ 0 by omega)
  have n2 := Int.emod_lt_of_pos a (show 0 < (s : Int) + 1 by omega)
  have n3 := Int.emod_nonneg (t : Int) (show (s : Int) ≠ 0 by omega)
  have n4 := Int.emod_lt_of_pos (t : Int) (show 0 < (s : Int) by omega)
  generalize a % ((s : Int) + 1) = n at *
  obtain ⟨u, hu⟩ : ∃ u : Nat, (t : Int) % (s : Int) = (u : Int) := ⟨((t : Int) % (s : Int)).toNat, by omega⟩
  rw [hu] at hd2 n3 n4
  have had2 := rAddI_ok (u : Int) 1 (small_abs' ss.small (by omega)) s1
  rw [show (u : Int) + 1 = ((u + 1 : Nat) : Int) from rfl] at had2
  have sn : small0 n := small0_abs ss (by omega)
  have sd : small0 ((u + 1 : Nat) : Int) := small0_abs ss (by omega)
  have hne := rNegI_ok n sn.small
  have sn' : small0 (-n) := small0_abs ss (by omega)
  have hex := rExt_ok (u + 1) m (by omega) (by omega) (by generalize 2 ^ 800 = z at *; omega) hm8
  obtain ⟨e1, e2, e3, e4⟩ := extR_spec (a := u + 1) (b := m) (by omega) (by omega)
  generalize extR (u + 1) m = R at *
  obtain ⟨R1, R2, R3⟩ := R
  dsimp only at *
  have hsa := rSame_ok (R1 : Int) 1
  by_cases c4 : R1 = 1
  · rw [decide_eq_true (by omega)] at hsa
    have hgc : Nat.gcd (u + 1) m = 1 := by omega
    rw [hgc] at e4
    have sR : small R2 := small_abs' sM.small (by omega)
    have hmk := rMulI_ok (m : Int) e sM.small se.small
    have lmk : ((m : Int) * e).natAbs < 2 ^ 384 := Nat.lt_of_le_of_lt (Nat.le_of_eq (Int.natAbs_mul (m : Int) e)) (Nat.lt_of_lt_of_le (Nat.mul_lt_mul'' (show (m : Int).natAbs < 2 ^ (32 * 6) by omega) (Nat.lt_of_lt_of_le he (pw_mono (32 * 1) (32 * 6) (by decide)))) (Nat.le_of_eq (pw_add (32 * 6) 384 rfl).symm))
    have smk : small ((m : Int) * e) := small_lt (Nat.lt_of_lt_of_le lmk (pw_mono 384 2048 (by decide)))
    cases xn
    · have lns : (n * R2).natAbs < 2 ^ 384 := Nat.lt_of_le_of_lt (Nat.le_of_eq (Int.natAbs_mul (n) R2)) (Nat.lt_of_lt_of_le (Nat.mul_lt_mul'' (show (n).natAbs < 2 ^ (32 * 6) by omega) (show R2.natAbs < 2 ^ (32 * 6) by omega)) (Nat.le_of_eq (pw_add (32 * 6) 384 rfl).symm))
      have sns : small (n * R2) := small_lt (Nat.lt_of_lt_of_le lns (pw_mono 384 2048 (by decide)))
      have hmu := rMulI_ok (n) R2 sn.small sR
      have hsum := rAddI_ok (n * R2) ((m : Int) * e) sns smk
      have lsum : (n * R2 + (m : Int) * e).natAbs ≤ 2 ^ 800 := Nat.le_trans (show (n * R2 + (m : Int) * e).natAbs ≤ 2 ^ 385 by
        have h385 := pw_two 384 385 rfl
        generalize 2 ^ 385 = z3 at *
        generalize 2 ^ 384 = z at *
        generalize n * R2 = v at *
        generalize (m : Int) * e = v' at *
        omega) (pw_mono 385 800 (by decide))
      have hra := Rational_ok (n * R2 + (m : Int) * e) m s (by omega) (Nat.le_of_lt hm8) lsum q1 q2
      have hE := ratE_of (a := n * R2 + (m : Int) * e) (n := n) (d := ((u + 1 : Nat) : Int)) (m := m) (s := s) m2 hsm (by omega) (by omega) (by omega) (by rw [Int.natAbs_natCast]; exact hgc) (frac_dvd e4)
      rw [hE] at hra
      unfold ratO at hra
      rw [Option.isSome_some, if_pos rfl] at hra
      have hof := rqOf_ok (n) ((u + 1 : Nat) : Int) (by omega) sn sd
      have hsf := rqSame_ok (Rat.divInt (n) ((u + 1 : Nat) : Int)) (Rat.divInt (n) ((u + 1 : Nat) : Int))
      rw [decide_eq_true rfl] at hsf
      refine J_seq ?_
      refine J_reg ?_
      refine a_boxS rfl rfl (ltN rfl) (fun b3 => ?_)
      refine a_boxS rfl rfl (ltN rfl) (fun b4 => ?_)
      refine a_boxS rfl rfl (ltN rfl) (fun b5 => ?_)
      refine st (s_assign rfl) rfl ?_
      refine Run.nil ?_
      refine pj_then ?_
      refine J_seq ?_
      refine J_reg ?_
      refine st (s_callk (hs ) rfl trivial) rfl ?_
      refine st (s_assign rfl) rfl ?_
      refine Run.nil ?_
      refine pj_then ?_
      refine J_seq ?_
      refine J_regU2 mixed (by kernel_rfl) (by kernel_rfl) ?_
      refine ux (fun B => s_loadW 0 rfl rfl) rfl rfl ?_
      refine uxk (hn1 ) rfl ⟨VT.le_refl _, VT.le_refl _, trivial⟩ rfl ?_
      refine uxk (hab ) rfl ⟨VT.le_refl _, trivial⟩ rfl ?_
      refine ux (fun B => s_loadW 2 rfl rfl) rfl rfl ?_
      refine uxk (hn2 ) rfl ⟨VT.le_refl _, VT.le_refl _, trivial⟩ rfl ?_
      refine ux (fun B => s_loadW 1 rfl rfl) rfl rfl ?_
      refine uxk (hn3 ) rfl ⟨VT.le_refl _, VT.le_refl _, trivial⟩ rfl ?_
      refine uxk (hac ) rfl ⟨VT.le_refl _, trivial⟩ rfl ?_
      refine ua rfl ?_
      refine ua rfl ?_
      refine ua rfl ?_
      refine us rfl ?_
      refine us rfl ?_
      refine us rfl ?_
      refine RunU.nil (fun γ => ?_)
      refine PJ_normM (M' := [_, _, _, _, _, _]) rfl ?_
      refine pj_then ?_
      refine J_seq ?_
      refine J_seq ?_
      refine J_regd 9 mixed (by kernel_rfl) (by decide) ?_
      refine st (s_loadB 2 rfl rfl rfl) rfl ?_
      refine st (s_callk (o2 ) rfl ⟨VT.le_refl _, trivial⟩) rfl ?_
      refine st (s_callk (hc2 ) rfl ⟨VT.le_refl _, VT.le_refl _, trivial⟩) rfl ?_
      refine st (sF (by assumption) (s_lt rfl rfl)) rfl ?_
      refine st (s_move rfl) rfl ?_
      refine sg1 rfl rfl (s_loadB 0 rfl rfl rfl) rfl ?_
      refine sg1 rfl rfl (s_callk (hst ) rfl ⟨VT.le_refl _, trivial⟩) rfl ?_
      refine sg1 rfl rfl (sF (by assumption) (s_eq rfl rfl)) rfl ?_
      refine st (s_pickF rfl rfl) rfl ?_
      refine Run.nil ?_
      refine Run.nil ?_
      refine pj_then ?_
      refine J_cond0 rfl ?_
      refine J_skip ?_
      refine pj_then ?_
      refine J_seq ?_
      refine J_reg ?_
      refine st (s_loadB 2 rfl rfl rfl) rfl ?_
      refine st (s_callk (hli ) rfl ⟨VT.le_refl _, trivial⟩) rfl ?_
      refine a_alloc (T := 29) rfl (ltN rfl) (fun b11 => ?_)
      refine a_storeB 0 rfl rfl rfl rfl rfl (leN rfl) rfl ?_
      refine Run.nil ?_
      refine pj_then ?_
      refine J_seq ?_
      refine J_seq ?_
      refine J_reg ?_
      refine st (s_loadB 0 rfl rfl rfl) rfl ?_
      refine st (s_callk (hss ) rfl ⟨VT.le_refl _, trivial⟩) rfl ?_
      refine st (sF (by assumption) (s_eq rfl rfl)) rfl ?_
      refine Run.nil ?_
      refine pj_then ?_
      refine J_cond0 rfl ?_
      refine J_skip ?_
      refine pj_then ?_
      refine J_seq ?_
      refine J_regY2 [⟨⟨9, γ 9, 29, Lay.agg 2⟩, _⟩] [_, _, _, _, _, _] mixed (by kernel_rfl) ((permPick 2 rfl).trans (.cons _ (List.Perm.refl _))) rfl (And.intro rfl (trivial)) ?_
      refine wl 0 rfl (by kernel_rfl) (fun B => s_loadB 0 rfl rfl rfl) rfl ?_
      refine wx (fun B => s_loadB 0 rfl rfl rfl) rfl ?_
      refine wxk (o1 ) rfl ⟨VT.le_refl _, trivial⟩ rfl ?_
      refine wxk (had ) rfl ⟨VT.le_refl _, VT.le_refl _, trivial⟩ rfl ?_
      refine wxk (hd1 ) rfl ⟨VT.le_refl _, VT.le_refl _, trivial⟩ rfl ?_
      refine wx (fun B => s_move rfl) rfl ?_
      refine wx (fun B => s_extract rfl rfl) rfl ?_
      refine wx (fun B => s_extract rfl rfl) rfl ?_
      refine wx (fun B => s_extract rfl rfl) rfl ?_
      refine ws rfl ?_
      refine RunY.nil ⟨And.intro rfl (And.intro rfl (trivial)), ?_⟩
      refine PJ_normM (M' := [_, _, _, _, _, _, _]) rfl ?_
      refine pj_then ?_
      refine J_seq ?_
      refine J_reg ?_
      refine st (s_loadB 2 rfl rfl rfl) rfl ?_
      refine st (s_loadB 1 rfl rfl rfl) rfl ?_
      refine st (s_callk (hd2 ) rfl ⟨VT.le_refl _, VT.le_refl _, trivial⟩) rfl ?_
      refine st (s_move rfl) rfl ?_
      refine st (s_extract rfl rfl) rfl ?_
      refine st (s_extract rfl rfl) rfl ?_
      refine st (s_extract rfl rfl) rfl ?_
      refine a_storeB 2 rfl rfl rfl rfl rfl (leN rfl) rfl ?_
      refine Run.nil ?_
      refine pj_then ?_
      refine J_seq ?_
      refine J_regd 2 mixed (by kernel_rfl) (by decide) ?_
      refine st (s_loadB 2 rfl rfl rfl) rfl ?_
      refine st (s_callk (o1 ) rfl ⟨VT.le_refl _, trivial⟩) rfl ?_
      refine Run.nil ?_
      refine st (s_callk (had2 ) rfl ⟨VT.le_refl _, VT.le_refl _, trivial⟩) rfl ?_
      refine a_storeB 2 rfl rfl rfl rfl rfl (leN rfl) rfl ?_
      refine Run.nil ?_
      refine pj_then ?_
      refine J_seq ?_
      refine J_seq ?_
      refine J_reg ?_
      refine st (s_fieldAddr rfl) rfl ?_
      refine st (s_loadB 6 rfl rfl rfl) rfl ?_
      refine Run.nil ?_
      refine pj_then ?_
      refine J_cond0 rfl ?_
      refine J_skip ?_
      refine pj_then ?_
      refine J_seq ?_
      refine J_reg ?_
      refine st (s_loadB 2 rfl rfl rfl) rfl ?_
      refine st (s_loadB 3 rfl rfl rfl) rfl ?_
      refine st (s_callk (hex ) rfl ⟨VT.le_refl _, VT.le_refl _, trivial⟩) rfl ?_
      refine st (s_move rfl) rfl ?_
      refine st (s_extract rfl rfl) rfl ?_
      refine st (s_extract rfl rfl) rfl ?_
      refine st (s_extract rfl rfl) rfl ?_
      refine a_alloc (T := 29) rfl (ltN rfl) (fun b12 => ?_)
      refine a_alloc (T := 29) rfl (ltN rfl) (fun b13 => ?_)
      refine a_alloc (T := 29) rfl (ltN rfl) (fun b14 => ?_)
      refine a_storeB 2 rfl rfl rfl rfl rfl (leN rfl) rfl ?_
      refine a_storeB 1 rfl rfl rfl rfl rfl (leN rfl) rfl ?_
      refine a_storeB 0 rfl rfl rfl rfl rfl (leN rfl) rfl ?_
      refine Run.nil ?_
      refine pj_then ?_
      refine J_seq ?_
      refine J_seq ?_
      refine J_regd 4 mixed (by kernel_rfl) (by decide) ?_
      refine st (s_loadB 2 rfl rfl rfl) rfl ?_
      refine st (s_callk (o1 ) rfl ⟨VT.le_refl _, trivial⟩) rfl ?_
      refine st (s_callk (hsa ) rfl ⟨VT.le_refl _, VT.le_refl _, trivial⟩) rfl ?_
      refine st (s_not rfl) rfl ?_
      refine Run.nil ?_
      refine Run.nil ?_
      refine pj_then ?_
      refine J_cond0 rfl ?_
      refine J_skip ?_
      refine pj_then ?_
      refine J_seq ?_
      refine J_reg ?_
      refine st (s_loadB 3 rfl rfl rfl) rfl ?_
      refine st (s_loadB 5 rfl rfl rfl) rfl ?_
      refine st (s_callk (hof ) rfl ⟨VT.le_refl _, VT.le_refl _, trivial⟩) rfl ?_
      refine st (s_move rfl) rfl ?_
      refine st (s_extract rfl rfl) rfl ?_
      refine st (s_extract rfl rfl) rfl ?_
      refine a_allocS (T := 59) rfl rfl rfl (fun b15 => ?_)
      refine a_storeW 0 rfl rfl rfl rfl ?_
      refine st (s_assign rfl) rfl ?_
      refine Run.nil ?_
      refine pj_then ?_
      refine J_seq ?_
      refine J_regU2 mixed (by kernel_rfl) (by kernel_rfl) ?_
      refine ux (fun B => s_loadB 4 rfl rfl rfl) rfl rfl ?_
      refine ux (fun B => s_loadB 2 rfl rfl rfl) rfl rfl ?_
      refine uxk (hmu ) rfl ⟨VT.le_refl _, VT.le_refl _, trivial⟩ rfl ?_
      refine ux (fun B => s_loadB 7 rfl rfl rfl) rfl rfl ?_
      refine ux (fun B => s_loadW 9 rfl rfl) rfl rfl ?_
      refine uxk (hn4 ) rfl ⟨VT.le_refl _, VT.le_refl _, trivial⟩ rfl ?_
      refine uxk (hmk ) rfl ⟨VT.le_refl _, VT.le_refl _, trivial⟩ rfl ?_
      refine uxk (hsum ) rfl ⟨VT.le_refl _, VT.le_refl _, trivial⟩ rfl ?_
      refine ua rfl ?_
      refine us rfl ?_
      refine RunU.nil (fun γ => ?_)
      refine PJ_normM (M' := [_, _, _, _, _, _, _, _, _, _, _, _]) rfl ?_
      refine pj_then ?_
      refine J_seq ?_
      refine J_reg ?_
      refine st (s_loadB 0 rfl rfl rfl) rfl ?_
      refine st (s_loadB 8 rfl rfl rfl) rfl ?_
      refine st (s_callk (hra ) rfl ⟨VT.le_refl _, VT.le_refl _, trivial⟩) rfl ?_
      refine st (s_move rfl) rfl ?_
      refine st (s_extract rfl rfl) rfl ?_
      refine st (s_extract rfl rfl) rfl ?_
      refine a_allocS (T := 59) rfl rfl rfl (fun b18 => ?_)
      refine a_storeW 0 rfl rfl rfl rfl ?_
      refine st (s_assign rfl) rfl ?_
      refine Run.nil ?_
      refine pj_then ?_
      refine J_seq ?_
      refine J_reg ?_
      refine st (s_move rfl) rfl ?_
      refine st (sT (by omega) (s_eq rfl rfl)) rfl ?_
      refine st (s_move rfl) rfl ?_
      refine sg1 rfl rfl (s_loadW 0 rfl rfl) rfl ?_
      refine sg1 rfl rfl (s_loadW 2 rfl rfl) rfl ?_
      refine sg1 rfl rfl (s_callk (hsf ) rfl ⟨VT.le_refl _, VT.le_refl _, trivial⟩) rfl ?_
      refine st (s_pickT rfl rfl) rfl ?_
      refine st (s_move rfl) rfl ?_
      refine sg1 rfl rfl (s_move rfl) rfl ?_
      refine st (s_pickT rfl rfl) rfl ?_
      refine st (s_assign rfl) rfl ?_
      refine Run.nil ?_
      refine pj_then ?_
      refine J_ret ?_
      refine retc1 Try.results10 (.tmp rfl (VT.le_refl _))
    · have lns : (-n * R2).natAbs < 2 ^ 384 := Nat.lt_of_le_of_lt (Nat.le_of_eq (Int.natAbs_mul (-n) R2)) (Nat.lt_of_lt_of_le (Nat.mul_lt_mul'' (show (-n).natAbs < 2 ^ (32 * 6) by omega) (show R2.natAbs < 2 ^ (32 * 6) by omega)) (Nat.le_of_eq (pw_add (32 * 6) 384 rfl).symm))
      have sns : small (-n * R2) := small_lt (Nat.lt_of_lt_of_le lns (pw_mono 384 2048 (by decide)))
      have hmu := rMulI_ok (-n) R2 sn'.small sR
      have hsum := rAddI_ok (-n * R2) ((m : Int) * e) sns smk
      have lsum : (-n * R2 + (m : Int) * e).natAbs ≤ 2 ^ 800 := Nat.le_trans (show (-n * R2 + (m : Int) * e).natAbs ≤ 2 ^ 385 by
        have h385 := pw_two 384 385 rfl
        generalize 2 ^ 385 = z3 at *
        generalize 2 ^ 384 = z at *
        generalize -n * R2 = v at *
        generalize (m : Int) * e = v' at *
        omega) (pw_mono 385 800 (by decide))
      have hra := Rational_ok (-n * R2 + (m : Int) * e) m s (by omega) (Nat.le_of_lt hm8) lsum q1 q2
      have hE := ratE_of (a := -n * R2 + (m : Int) * e) (n := -n) (d := ((u + 1 : Nat) : Int)) (m := m) (s := s) m2 hsm (by omega) (by omega) (by omega) (by rw [Int.natAbs_natCast]; exact hgc) (frac_dvd e4)
      rw [hE] at hra
      unfold ratO at hra
      rw [Option.isSome_some, if_pos rfl] at hra
      have hof := rqOf_ok (-n) ((u + 1 : Nat) : Int) (by omega) sn' sd
      have hsf := rqSame_ok (Rat.divInt (-n) ((u + 1 : Nat) : Int)) (Rat.divInt (-n) ((u + 1 : Nat) : Int))
      rw [decide_eq_true rfl] at hsf
      refine J_seq ?_
      refine J_reg ?_
      refine a_boxS rfl rfl (ltN rfl) (fun b3 => ?_)
      refine a_boxS rfl rfl (ltN rfl) (fun b4 => ?_)
      refine a_boxS rfl rfl (ltN rfl) (fun b5 => ?_)
      refine st (s_assign rfl) rfl ?_
      refine Run.nil ?_
      refine pj_then ?_
      refine J_seq ?_
      refine J_reg ?_
      refine st (s_callk (hs ) rfl trivial) rfl ?_
      refine st (s_assign rfl) rfl ?_
      refine Run.nil ?_
      refine pj_then ?_
      refine J_seq ?_
      refine J_regU2 mixed (by kernel_rfl) (by kernel_rfl) ?_
      refine ux (fun B => s_loadW 0 rfl rfl) rfl rfl ?_
      refine uxk (hn1 ) rfl ⟨VT.le_refl _, VT.le_refl _, trivial⟩ rfl ?_
      refine uxk (hab ) rfl ⟨VT.le_refl _, trivial⟩ rfl ?_
      refine ux (fun B => s_loadW 2 rfl rfl) rfl rfl ?_
      refine uxk (hn2 ) rfl ⟨VT.le_refl _, VT.le_refl _, trivial⟩ rfl ?_
      refine ux (fun B => s_loadW 1 rfl rfl) rfl rfl ?_
      refine uxk (hn3 ) rfl ⟨VT.le_refl _, VT.le_refl _, trivial⟩ rfl ?_
      refine uxk (hac ) rfl ⟨VT.le_refl _, trivial⟩ rfl ?_
      refine ua rfl ?_
      refine ua rfl ?_
      refine ua rfl ?_
      refine us rfl ?_
      refine us rfl ?_
      refine us rfl ?_
      refine RunU.nil (fun γ => ?_)
      refine PJ_normM (M' := [_, _, _, _, _, _]) rfl ?_
      refine pj_then ?_
      refine J_seq ?_
      refine J_seq ?_
      refine J_regd 9 mixed (by kernel_rfl) (by decide) ?_
      refine st (s_loadB 2 rfl rfl rfl) rfl ?_
      refine st (s_callk (o2 ) rfl ⟨VT.le_refl _, trivial⟩) rfl ?_
      refine st (s_callk (hc2 ) rfl ⟨VT.le_refl _, VT.le_refl _, trivial⟩) rfl ?_
      refine st (sF (by assumption) (s_lt rfl rfl)) rfl ?_
      refine st (s_move rfl) rfl ?_
      refine sg1 rfl rfl (s_loadB 0 rfl rfl rfl) rfl ?_
      refine sg1 rfl rfl (s_callk (hst ) rfl ⟨VT.le_refl _, trivial⟩) rfl ?_
      refine sg1 rfl rfl (sF (by assumption) (s_eq rfl rfl)) rfl ?_
      refine st (s_pickF rfl rfl) rfl ?_
      refine Run.nil ?_
      refine Run.nil ?_
      refine pj_then ?_
      refine J_cond0 rfl ?_
      refine J_skip ?_
      refine pj_then ?_
      refine J_seq ?_
      refine J_reg ?_
      refine st (s_loadB 2 rfl rfl rfl) rfl ?_
      refine st (s_callk (hli ) rfl ⟨VT.le_refl _, trivial⟩) rfl ?_
      refine a_alloc (T := 29) rfl (ltN rfl) (fun b11 => ?_)
      refine a_storeB 0 rfl rfl rfl rfl rfl (leN rfl) rfl ?_
      refine Run.nil ?_
      refine pj_then ?_
      refine J_seq ?_
      refine J_seq ?_
      refine J_reg ?_
      refine st (s_loadB 0 rfl rfl rfl) rfl ?_
      refine st (s_callk (hss ) rfl ⟨VT.le_refl _, trivial⟩) rfl ?_
      refine st (sF (by assumption) (s_eq rfl rfl)) rfl ?_
      refine Run.nil ?_
      refine pj_then ?_
      refine J_cond0 rfl ?_
      refine J_skip ?_
      refine pj_then ?_
      refine J_seq ?_
      refine J_regY2 [⟨⟨9, γ 9, 29, Lay.agg 2⟩, _⟩] [_, _, _, _, _, _] mixed (by kernel_rfl) ((permPick 2 rfl).trans (.cons _ (List.Perm.refl _))) rfl (And.intro rfl (trivial)) ?_
      refine wl 0 rfl (by kernel_rfl) (fun B => s_loadB 0 rfl rfl rfl) rfl ?_
      refine wx (fun B => s_loadB 0 rfl rfl rfl) rfl ?_
      refine wxk (o1 ) rfl ⟨VT.le_refl _, trivial⟩ rfl ?_
      refine wxk (had ) rfl ⟨VT.le_refl _, VT.le_refl _, trivial⟩ rfl ?_
      refine wxk (hd1 ) rfl ⟨VT.le_refl _, VT.le_refl _, trivial⟩ rfl ?_
      refine wx (fun B => s_move rfl) rfl ?_
      refine wx (fun B => s_extract rfl rfl) rfl ?_
      refine wx (fun B => s_extract rfl rfl) rfl ?_
      refine wx (fun B => s_extract rfl rfl) rfl ?_
      refine ws rfl ?_
      refine RunY.nil ⟨And.intro rfl (And.intro rfl (trivial)), ?_⟩
      refine PJ_normM (M' := [_, _, _, _, _, _, _]) rfl ?_
      refine pj_then ?_
      refine J_seq ?_
      refine J_reg ?_
      refine st (s_loadB 2 rfl rfl rfl) rfl ?_
      refine st (s_loadB 1 rfl rfl rfl) rfl ?_
      refine st (s_callk (hd2 ) rfl ⟨VT.le_refl _, VT.le_refl _, trivial⟩) rfl ?_
      refine st (s_move rfl) rfl ?_
      refine st (s_extract rfl rfl) rfl ?_
      refine st (s_extract rfl rfl) rfl ?_
      refine st (s_extract rfl rfl) rfl ?_
      refine a_storeB 2 rfl rfl rfl rfl rfl (leN rfl) rfl ?_
      refine Run.nil ?_
      refine pj_then ?_
      refine J_seq ?_
      refine J_regd 2 mixed (by kernel_rfl) (by decide) ?_
      refine st (s_loadB 2 rfl rfl rfl) rfl ?_
      refine st (s_callk (o1 ) rfl ⟨VT.le_refl _, trivial⟩) rfl ?_
      refine Run.nil ?_
      refine st (s_callk (had2 ) rfl ⟨VT.le_refl _, VT.le_refl _, trivial⟩) rfl ?_
      refine a_storeB 2 rfl rfl rfl rfl rfl (leN rfl) rfl ?_
      refine Run.nil ?_
      refine pj_then ?_
      refine J_seq ?_
      refine J_seq ?_
      refine J_reg ?_
      refine st (s_fieldAddr rfl) rfl ?_
      refine st (s_loadB 6 rfl rfl rfl) rfl ?_
      refine Run.nil ?_
      refine pj_then ?_
      refine J_cond1 rfl ?_
      refine J_reg ?_
      refine st (s_loadB 0 rfl rfl rfl) rfl ?_
      refine st (s_callk (hne ) rfl ⟨VT.le_refl _, trivial⟩) rfl ?_
      refine a_storeB 0 rfl rfl rfl rfl rfl (leN rfl) rfl ?_
      refine Run.nil ?_
      refine pj_then ?_
      refine J_seq ?_
      refine J_reg ?_
      refine st (s_loadB 2 rfl rfl rfl) rfl ?_
      refine st (s_loadB 3 rfl rfl rfl) rfl ?_
      refine st (s_callk (hex ) rfl ⟨VT.le_refl _, VT.le_refl _, trivial⟩) rfl ?_
      refine st (s_move rfl) rfl ?_
      refine st (s_extract rfl rfl) rfl ?_
      refine st (s_extract rfl rfl) rfl ?_
      refine st (s_extract rfl rfl) rfl ?_
      refine a_alloc (T := 29) rfl (ltN rfl) (fun b12 => ?_)
      refine a_alloc (T := 29) rfl (ltN rfl) (fun b13 => ?_)
      refine a_alloc (T := 29) rfl (ltN rfl) (fun b14 => ?_)
      refine a_storeB 2 rfl rfl rfl rfl rfl (leN rfl) rfl ?_
      refine a_storeB 1 rfl rfl rfl rfl rfl (leN rfl) rfl ?_
      refine a_storeB 0 rfl rfl rfl rfl rfl (leN rfl) rfl ?_
      refine Run.nil ?_
      refine pj_then ?_
      refine J_seq ?_
      refine J_seq ?_
      refine J_regd 4 mixed (by kernel_rfl) (by decide) ?_
      refine st (s_loadB 2 rfl rfl rfl) rfl ?_
      refine st (s_callk (o1 ) rfl ⟨VT.le_refl _, trivial⟩) rfl ?_
      refine st (s_callk (hsa ) rfl ⟨VT.le_refl _, VT.le_refl _, trivial⟩) rfl ?_
      refine st (s_not rfl) rfl ?_
      refine Run.nil ?_
      refine Run.nil ?_
      refine pj_then ?_
      refine J_cond0 rfl ?_
      refine J_skip ?_
      refine pj_then ?_
      refine J_seq ?_
      refine J_reg ?_
      refine st (s_loadB 3 rfl rfl rfl) rfl ?_
      refine st (s_loadB 5 rfl rfl rfl) rfl ?_
      refine st (s_callk (hof ) rfl ⟨VT.le_refl _, VT.le_refl _, trivial⟩) rfl ?_
      refine st (s_move rfl) rfl ?_
      refine st (s_extract rfl rfl) rfl ?_
      refine st (s_extract rfl rfl) rfl ?_
      refine a_allocS (T := 59) rfl rfl rfl (fun b15 => ?_)
      refine a_storeW 0 rfl rfl rfl rfl ?_
      refine st (s_assign rfl) rfl ?_
      refine Run.nil ?_
      refine pj_then ?_
      refine J_seq ?_
      refine J_regU2 mixed (by kernel_rfl) (by kernel_rfl) ?_
      refine ux (fun B => s_loadB 4 rfl rfl rfl) rfl rfl ?_
      refine ux (fun B => s_loadB 2 rfl rfl rfl) rfl rfl ?_
      refine uxk (hmu ) rfl ⟨VT.le_refl _, VT.le_refl _, trivial⟩ rfl ?_
      refine ux (fun B => s_loadB 7 rfl rfl rfl) rfl rfl ?_
      refine ux (fun B => s_loadW 9 rfl rfl) rfl rfl ?_
      refine uxk (hn4 ) rfl ⟨VT.le_refl _, VT.le_refl _, trivial⟩ rfl ?_
      refine uxk (hmk ) rfl ⟨VT.le_refl _, VT.le_refl _, trivial⟩ rfl ?_
      refine uxk (hsum ) rfl ⟨VT.le_refl _, VT.le_refl _, trivial⟩ rfl ?_
      refine ua rfl ?_
      refine us rfl ?_
      refine RunU.nil (fun γ => ?_)
      refine PJ_normM (M' := [_, _, _, _, _, _, _, _, _, _, _, _]) rfl ?_
      refine pj_then ?_
      refine J_seq ?_
      refine J_reg ?_
      refine st (s_loadB 0 rfl rfl rfl) rfl ?_
      refine st (s_loadB 8 rfl rfl rfl) rfl ?_
      refine st (s_callk (hra ) rfl ⟨VT.le_refl _, VT.le_refl _, trivial⟩) rfl ?_
      refine st (s_move rfl) rfl ?_
      refine st (s_extract rfl rfl) rfl ?_
      refine st (s_extract rfl rfl) rfl ?_
      refine a_allocS (T := 59) rfl rfl rfl (fun b18 => ?_)
      refine a_storeW 0 rfl rfl rfl rfl ?_
      refine st (s_assign rfl) rfl ?_
      refine Run.nil ?_
      refine pj_then ?_
      refine J_seq ?_
      refine J_reg ?_
      refine st (s_move rfl) rfl ?_
      refine st (sT (by omega) (s_eq rfl rfl)) rfl ?_
      refine st (s_move rfl) rfl ?_
      refine sg1 rfl rfl (s_loadW 0 rfl rfl) rfl ?_
      refine sg1 rfl rfl (s_loadW 2 rfl rfl) rfl ?_
      refine sg1 rfl rfl (s_callk (hsf ) rfl ⟨VT.le_refl _, VT.le_refl _, trivial⟩) rfl ?_
      refine st (s_pickT rfl rfl) rfl ?_
      refine st (s_move rfl) rfl ?_
      refine sg1 rfl rfl (s_move rfl) rfl ?_
      refine st (s_pickT rfl rfl) rfl ?_
      refine st (s_assign rfl) rfl ?_
      refine Run.nil ?_
      refine pj_then ?_
      refine J_ret ?_
      refine retc1 Try.results10 (.tmp rfl (VT.le_refl _))
  · rw [decide_eq_false (by omega)] at hsa
    cases xn
    · refine J_seq ?_
      refine J_reg ?_
      refine a_boxS rfl rfl (ltN rfl) (fun b3 => ?_)
      refine a_boxS rfl rfl (ltN rfl) (fun b4 => ?_)
      refine a_boxS rfl rfl (ltN rfl) (fun b5 => ?_)
      refine st (s_assign rfl) rfl ?_
      refine Run.nil ?_
      refine pj_then ?_
      refine J_seq ?_
      refine J_reg ?_
      refine st (s_callk (hs ) rfl trivial) rfl ?_
      refine st (s_assign rfl) rfl ?_
      refine Run.nil ?_
      refine pj_then ?_
      refine J_seq ?_
      refine J_regU2 mixed (by kernel_rfl) (by kernel_rfl) ?_
      refine ux (fun B => s_loadW 0 rfl rfl) rfl rfl ?_
      refine uxk (hn1 ) rfl ⟨VT.le_refl _, VT.le_refl _, trivial⟩ rfl ?_
      refine uxk (hab ) rfl ⟨VT.le_refl _, trivial⟩ rfl ?_
      refine ux (fun B => s_loadW 2 rfl rfl) rfl rfl ?_
      refine uxk (hn2 ) rfl ⟨VT.le_refl _, VT.le_refl _, trivial⟩ rfl ?_
      refine ux (fun B => s_loadW 1 rfl rfl) rfl rfl ?_
      refine uxk (hn3 ) rfl ⟨VT.le_refl _, VT.le_refl _, trivial⟩ rfl ?_
      refine uxk (hac ) rfl ⟨VT.le_refl _, trivial⟩ rfl ?_
      refine ua rfl ?_
      refine ua rfl ?_
      refine ua rfl ?_
      refine us rfl ?_
      refine us rfl ?_
      refine us rfl ?_
      refine RunU.nil (fun γ => ?_)
      refine PJ_normM (M' := [_, _, _, _, _, _]) rfl ?_
      refine pj_then ?_
      refine J_seq ?_
      refine J_seq ?_
      refine J_regd 9 mixed (by kernel_rfl) (by decide) ?_
      refine st (s_loadB 2 rfl rfl rfl) rfl ?_
      refine st (s_callk (o2 ) rfl ⟨VT.le_refl _, trivial⟩) rfl ?_
      refine st (s_callk (hc2 ) rfl ⟨VT.le_refl _, VT.le_refl _, trivial⟩) rfl ?_
      refine st (sF (by assumption) (s_lt rfl rfl)) rfl ?_
      refine st (s_move rfl) rfl ?_
      refine sg1 rfl rfl (s_loadB 0 rfl rfl rfl) rfl ?_
      refine sg1 rfl rfl (s_callk (hst ) rfl ⟨VT.le_refl _, trivial⟩) rfl ?_
      refine sg1 rfl rfl (sF (by assumption) (s_eq rfl rfl)) rfl ?_
      refine st (s_pickF rfl rfl) rfl ?_
      refine Run.nil ?_
      refine Run.nil ?_
      refine pj_then ?_
      refine J_cond0 rfl ?_
      refine J_skip ?_
      refine pj_then ?_
      refine J_seq ?_
      refine J_reg ?_
      refine st (s_loadB 2 rfl rfl rfl) rfl ?_
      refine st (s_callk (hli ) rfl ⟨VT.le_refl _, trivial⟩) rfl ?_
      refine a_alloc (T := 29) rfl (ltN rfl) (fun b11 => ?_)
      refine a_storeB 0 rfl rfl rfl rfl rfl (leN rfl) rfl ?_
      refine Run.nil ?_
      refine pj_then ?_
      refine J_seq ?_
      refine J_seq ?_
      refine J_reg ?_
      refine st (s_loadB 0 rfl rfl rfl) rfl ?_
      refine st (s_callk (hss ) rfl ⟨VT.le_refl _, trivial⟩) rfl ?_
      refine st (sF (by assumption) (s_eq rfl rfl)) rfl ?_
      refine Run.nil ?_
      refine pj_then ?_
      refine J_cond0 rfl ?_
      refine J_skip ?_
      refine pj_then ?_
      refine J_seq ?_
      refine J_regY2 [⟨⟨9, γ 9, 29, Lay.agg 2⟩, _⟩] [_, _, _, _, _, _] mixed (by kernel_rfl) ((permPick 2 rfl).trans (.cons _ (List.Perm.refl _))) rfl (And.intro rfl (trivial)) ?_
      refine wl 0 rfl (by kernel_rfl) (fun B => s_loadB 0 rfl rfl rfl) rfl ?_
      refine wx (fun B => s_loadB 0 rfl rfl rfl) rfl ?_
      refine wxk (o1 ) rfl ⟨VT.le_refl _, trivial⟩ rfl ?_
      refine wxk (had ) rfl ⟨VT.le_refl _, VT.le_refl _, trivial⟩ rfl ?_
      refine wxk (hd1 ) rfl ⟨VT.le_refl _, VT.le_refl _, trivial⟩ rfl ?_
      refine wx (fun B => s_move rfl) rfl ?_
      refine wx (fun B => s_extract rfl rfl) rfl ?_
      refine wx (fun B => s_extract rfl rfl) rfl ?_
      refine wx (fun B => s_extract rfl rfl) rfl ?_
      refine ws rfl ?_
      refine RunY.nil ⟨And.intro rfl (And.intro rfl (trivial)), ?_⟩
      refine PJ_normM (M' := [_, _, _, _, _, _, _]) rfl ?_
      refine pj_then ?_
      refine J_seq ?_
      refine J_reg ?_
      refine st (s_loadB 2 rfl rfl rfl) rfl ?_
      refine st (s_loadB 1 rfl rfl rfl) rfl ?_
      refine st (s_callk (hd2 ) rfl ⟨VT.le_refl _, VT.le_refl _, trivial⟩) rfl ?_
      refine st (s_move rfl) rfl ?_
      refine st (s_extract rfl rfl) rfl ?_
      refine st (s_extract rfl rfl) rfl ?_
      refine st (s_extract rfl rfl) rfl ?_
      refine a_storeB 2 rfl rfl rfl rfl rfl (leN rfl) rfl ?_
      refine Run.nil ?_
      refine pj_then ?_
      refine J_seq ?_
      refine J_regd 2 mixed (by kernel_rfl) (by decide) ?_
      refine st (s_loadB 2 rfl rfl rfl) rfl ?_
      refine st (s_callk (o1 ) rfl ⟨VT.le_refl _, trivial⟩) rfl ?_
      refine Run.nil ?_
      refine st (s_callk (had2 ) rfl ⟨VT.le_refl _, VT.le_refl _, trivial⟩) rfl ?_
      refine a_storeB 2 rfl rfl rfl rfl rfl (leN rfl) rfl ?_
      refine Run.nil ?_
      refine pj_then ?_
      refine J_seq ?_
      refine J_seq ?_
      refine J_reg ?_
      refine st (s_fieldAddr rfl) rfl ?_
      refine st (s_loadB 6 rfl rfl rfl) rfl ?_
      refine Run.nil ?_
      refine pj_then ?_
      refine J_cond0 rfl ?_
      refine J_skip ?_
      refine pj_then ?_
      refine J_seq ?_
      refine J_reg ?_
      refine st (s_loadB 2 rfl rfl rfl) rfl ?_
      refine st (s_loadB 3 rfl rfl rfl) rfl ?_
      refine st (s_callk (hex ) rfl ⟨VT.le_refl _, VT.le_refl _, trivial⟩) rfl ?_
      refine st (s_move rfl) rfl ?_
      refine st (s_extract rfl rfl) rfl ?_
      refine st (s_extract rfl rfl) rfl ?_
      refine st (s_extract rfl rfl) rfl ?_
      refine a_alloc (T := 29) rfl (ltN rfl) (fun b12 => ?_)
      refine a_alloc (T := 29) rfl (ltN rfl) (fun b13 => ?_)
      refine a_alloc (T := 29) rfl (ltN rfl) (fun b14 => ?_)
      refine a_storeB 2 rfl rfl rfl rfl rfl (leN rfl) rfl ?_
      refine a_storeB 1 rfl rfl rfl rfl rfl (leN rfl) rfl ?_
      refine a_storeB 0 rfl rfl rfl rfl rfl (leN rfl) rfl ?_
      refine Run.nil ?_
      refine pj_then ?_
      refine J_seq ?_
      refine J_seq ?_
      refine J_regd 4 mixed (by kernel_rfl) (by decide) ?_
      refine st (s_loadB 2 rfl rfl rfl) rfl ?_
      refine st (s_callk (o1 ) rfl ⟨VT.le_refl _, trivial⟩) rfl ?_
      refine st (s_callk (hsa ) rfl ⟨VT.le_refl _, VT.le_refl _, trivial⟩) rfl ?_
      refine st (s_not rfl) rfl ?_
      refine Run.nil ?_
      refine Run.nil ?_
      refine pj_then ?_
      refine J_cond1 rfl ?_
      refine J_seq ?_
      refine J_reg ?_
      refine st (s_move rfl) rfl ?_
      refine st (s_assign rfl) rfl ?_
      refine Run.nil ?_
      refine pj_then ?_
      refine J_ret ?_
      refine pr_then ?_
      refine retc1 Try.results10 (.tmp rfl (VT.le_refl _))
    · refine J_seq ?_
      refine J_reg ?_
      refine a_boxS rfl rfl (ltN rfl) (fun b3 => ?_)
      refine a_boxS rfl rfl (ltN rfl) (fun b4 => ?_)
      refine a_boxS rfl rfl (ltN rfl) (fun b5 => ?_)
      refine st (s_assign rfl) rfl ?_
      refine Run.nil ?_
      refine pj_then ?_
      refine J_seq ?_
      refine J_reg ?_
      refine st (s_callk (hs ) rfl trivial) rfl ?_
      refine st (s_assign rfl) rfl ?_
      refine Run.nil ?_
      refine pj_then ?_
      refine J_seq ?_
      refine J_regU2 mixed (by kernel_rfl) (by kernel_rfl) ?_
      refine ux (fun B => s_loadW 0 rfl rfl) rfl rfl ?_
      refine uxk (hn1 ) rfl ⟨VT.le_refl _, VT.le_refl _, trivial⟩ rfl ?_
      refine uxk (hab ) rfl ⟨VT.le_refl _, trivial⟩ rfl ?_
      refine ux (fun B => s_loadW 2 rfl rfl) rfl rfl ?_
      refine uxk (hn2 ) rfl ⟨VT.le_refl _, VT.le_refl _, trivial⟩ rfl ?_
      refine ux (fun B => s_loadW 1 rfl rfl) rfl rfl ?_
      refine uxk (hn3 ) rfl ⟨VT.le_refl _, VT.le_refl _, trivial⟩ rfl ?_
      refine uxk (hac ) rfl ⟨VT.le_refl _, trivial⟩ rfl ?_
      refine ua rfl ?_
      refine ua rfl ?_
      refine ua rfl ?_
      refine us rfl ?_
      refine us rfl ?_
      refine us rfl ?_
      refine RunU.nil (fun γ => ?_)
      refine PJ_normM (M' := [_, _, _, _, _, _]) rfl ?_
      refine pj_then ?_
      refine J_seq ?_
      refine J_seq ?_
      refine J_regd 9 mixed (by kernel_rfl) (by decide) ?_
      refine st (s_loadB 2 rfl rfl rfl) rfl ?_
      refine st (s_callk (o2 ) rfl ⟨VT.le_refl _, trivial⟩) rfl ?_
      refine st (s_callk (hc2 ) rfl ⟨VT.le_refl _, VT.le_refl _, trivial⟩) rfl ?_
      refine st (sF (by assumption) (s_lt rfl rfl)) rfl ?_
      refine st (s_move rfl) rfl ?_
      refine sg1 rfl rfl (s_loadB 0 rfl rfl rfl) rfl ?_
      refine sg1 rfl rfl (s_callk (hst ) rfl ⟨VT.le_refl _, trivial⟩) rfl ?_
      refine sg1 rfl rfl (sF (by assumption) (s_eq rfl rfl)) rfl ?_
      refine st (s_pickF rfl rfl) rfl ?_
      refine Run.nil ?_
      refine Run.nil ?_
      refine pj_then ?_
      refine J_cond0 rfl ?_
      refine J_skip ?_
      refine pj_then ?_
      refine J_seq ?_
      refine J_reg ?_
      refine st (s_loadB 2 rfl rfl rfl) rfl ?_
      refine st (s_callk (hli ) rfl ⟨VT.le_refl _, trivial⟩) rfl ?_
      refine a_alloc (T := 29) rfl (ltN rfl) (fun b11 => ?_)
      refine a_storeB 0 rfl rfl rfl rfl rfl (leN rfl) rfl ?_
      refine Run.nil ?_
      refine pj_then ?_
      refine J_seq ?_
      refine J_seq ?_
      refine J_reg ?_
      refine st (s_loadB 0 rfl rfl rfl) rfl ?_
      refine st (s_callk (hss ) rfl ⟨VT.le_refl _, trivial⟩) rfl ?_
      refine st (sF (by assumption) (s_eq rfl rfl)) rfl ?_
      refine Run.nil ?_
      refine pj_then ?_
      refine J_cond0 rfl ?_
      refine J_skip ?_
      refine pj_then ?_
      refine J_seq ?_
      refine J_regY2 [⟨⟨9, γ 9, 29, Lay.agg 2⟩, _⟩] [_, _, _, _, _, _] mixed (by kernel_rfl) ((permPick 2 rfl).trans (.cons _ (List.Perm.refl _))) rfl (And.intro rfl (trivial)) ?_
      refine wl 0 rfl (by kernel_rfl) (fun B => s_loadB 0 rfl rfl rfl) rfl ?_
      refine wx (fun B => s_loadB 0 rfl rfl rfl) rfl ?_
      refine wxk (o1 ) rfl ⟨VT.le_refl _, trivial⟩ rfl ?_
      refine wxk (had ) rfl ⟨VT.le_refl _, VT.le_refl _, trivial⟩ rfl ?_
      refine wxk (hd1 ) rfl ⟨VT.le_refl _, VT.le_refl _, trivial⟩ rfl ?_
      refine wx (fun B => s_move rfl) rfl ?_
      refine wx (fun B => s_extract rfl rfl) rfl ?_
      refine wx (fun B => s_extract rfl rfl) rfl ?_
      refine wx (fun B => s_extract rfl rfl) rfl ?_
      refine ws rfl ?_
      refine RunY.nil ⟨And.intro rfl (And.intro rfl (trivial)), ?_⟩
      refine PJ_normM (M' := [_, _, _, _, _, _, _]) rfl ?_
      refine pj_then ?_
      refine J_seq ?_
      refine J_reg ?_
      refine st (s_loadB 2 rfl rfl rfl) rfl ?_
      refine st (s_loadB 1 rfl rfl rfl) rfl ?_
      refine st (s_callk (hd2 ) rfl ⟨VT.le_refl _, VT.le_refl _, trivial⟩) rfl ?_
      refine st (s_move rfl) rfl ?_
      refine st (s_extract rfl rfl) rfl ?_
      refine st (s_extract rfl rfl) rfl ?_
      refine st (s_extract rfl rfl) rfl ?_
      refine a_storeB 2 rfl rfl rfl rfl rfl (leN rfl) rfl ?_
      refine Run.nil ?_
      refine pj_then ?_
      refine J_seq ?_
      refine J_regd 2 mixed (by kernel_rfl) (by decide) ?_
      refine st (s_loadB 2 rfl rfl rfl) rfl ?_
      refine st (s_callk (o1 ) rfl ⟨VT.le_refl _, trivial⟩) rfl ?_
      refine Run.nil ?_
      refine st (s_callk (had2 ) rfl ⟨VT.le_refl _, VT.le_refl _, trivial⟩) rfl ?_
      refine a_storeB 2 rfl rfl rfl rfl rfl (leN rfl) rfl ?_
      refine Run.nil ?_
      refine pj_then ?_
      refine J_seq ?_
      refine J_seq ?_
      refine J_reg ?_
      refine st (s_fieldAddr rfl) rfl ?_
      refine st (s_loadB 6 rfl rfl rfl) rfl ?_
      refine Run.nil ?_
      refine pj_then ?_
      refine J_cond1 rfl ?_
      refine J_reg ?_
      refine st (s_loadB 0 rfl rfl rfl) rfl ?_
      refine st (s_callk (hne ) rfl ⟨VT.le_refl _, trivial⟩) rfl ?_
      refine a_storeB 0 rfl rfl rfl rfl rfl (leN rfl) rfl ?_
      refine Run.nil ?_
      refine pj_then ?_
      refine J_seq ?_
      refine J_reg ?_
      refine st (s_loadB 2 rfl rfl rfl) rfl ?_
      refine st (s_loadB 3 rfl rfl rfl) rfl ?_
      refine st (s_callk (hex ) rfl ⟨VT.le_refl _, VT.le_refl _, trivial⟩) rfl ?_
      refine st (s_move rfl) rfl ?_
      refine st (s_extract rfl rfl) rfl ?_
      refine st (s_extract rfl rfl) rfl ?_
      refine st (s_extract rfl rfl) rfl ?_
      refine a_alloc (T := 29) rfl (ltN rfl) (fun b12 => ?_)
      refine a_alloc (T := 29) rfl (ltN rfl) (fun b13 => ?_)
      refine a_alloc (T := 29) rfl (ltN rfl) (fun b14 => ?_)
      refine a_storeB 2 rfl rfl rfl rfl rfl (leN rfl) rfl ?_
      refine a_storeB 1 rfl rfl rfl rfl rfl (leN rfl) rfl ?_
      refine a_storeB 0 rfl rfl rfl rfl rfl (leN rfl) rfl ?_
      refine Run.nil ?_
      refine pj_then ?_
      refine J_seq ?_
      refine J_seq ?_
      refine J_regd 4 mixed (by kernel_rfl) (by decide) ?_
      refine st (s_loadB 2 rfl rfl rfl) rfl ?_
      refine st (s_callk (o1 ) rfl ⟨VT.le_refl _, trivial⟩) rfl ?_
      refine st (s_callk (hsa ) rfl ⟨VT.le_refl _, VT.le_refl _, trivial⟩) rfl ?_
      refine st (s_not rfl) rfl ?_
      refine Run.nil ?_
      refine Run.nil ?_
      refine pj_then ?_
      refine J_cond1 rfl ?_
      refine J_seq ?_
      refine J_reg ?_
      refine st (s_move rfl) rfl ?_
      refine st (s_assign rfl) rfl ?_
      refine Run.nil ?_
      refine pj_then ?_
      refine J_ret ?_
      refine pr_then ?_
      refine retc1 Try.results10 (.tmp rfl (VT.le_refl _))
theorem fractionsLawY_ok (x : List Nat) (xn : Bool) (d : List Nat) (dn : Bool) (y : List Nat) (yn : Bool) (hx : (∀ e ∈ x, e < 4294967296) ∧ True) (hd : (∀ e ∈ d, e < 4294967296) ∧ True) (hy : (∀ d ∈ y, d < 4294967296) ∧ True) : Ok Try.prog 10 [numP x xn, numP d dn, numP y yn] (one (.bool true)) := fractionsLaw_ok x xn d dn y yn hx.1 hd.1 hy.1
end Tor
end

section
set_option linter.unusedVariables false
set_option linter.unusedSimpArgs false
set_option maxRecDepth 100000
namespace Tor
open Go Go.RowKit Go.ChangeShapes Go.WideShapes Go.ChangeAt Go.Joins Go.Proofs
theorem rd_num {H : Type} {enc : TypeId × Value → H} {W : World} {base : Nat} {v : Value} {d : DataW H} {ps : List MemPlace} (hval : Value.okWide Try.prog W .any base 26 v) (hT : DataW.Trod enc Try.prog W 0 (fun _ => true) true 26 v d ps) (hw : ∀ x ∈ DataW.weights Try.prog 26 d, x ≤ reachBytes) :
    ∃ (l : List Nat) (n : Bool), (numP l n).p v (view W) ∧ (∀ x ∈ l, x < 4294967296) ∧ True := by
  obtain ⟨cs, rfl, h⟩ := arg_agg 8 (ts := [24, 4]) (by kernel_rfl) (.inl ⟨_, Try.underlying26⟩) hval hT hw
  obtain ⟨c0, r0, rfl, h0, g0⟩ := h
  obtain ⟨c1, r1, rfl, h1, g1⟩ := g0
  cases g1
  obtain ⟨l, k0, b0⟩ := leaf_limbs Try.underlying24 Try.underlying72 (by kernel_rfl) (of_decide_eq_true (by kernel_rfl)) h0
  obtain ⟨n, rfl⟩ := leaf_bool Try.underlying4 h1
  exact ⟨l, n, agg_p (φs := [limT l, one (.bool n)]) ⟨k0, slT_one k0, ⟨rfl, rfl, trivial⟩⟩, b0, trivial⟩
end Tor
namespace Go.Proofs.Ythkgpdljbajieaa
open Go.ChangeShapes Go.WideShapes Go.ChangeAt Go.RowKit Go.Joins Tor
theorem crtFractions_own : ownKnob Try.prog.godebug = none := by kernel_rfl
theorem crtFractions_laid : laidOutB Try.prog = true := by kernel_rfl
set_option maxRecDepth 100000 in
theorem crtFractions_lifted (os : Os) (started : os.Started) (H : Type) (enc : TypeId × Value → H) :
    ReturnsInHanded {} Try.checked os 10 .any (Rows.crtFractionsSpec.pre6 enc Try.prog Try.f10 Rows.crtFractionsRow.domain false) (Rows.crtFractionsSpec.post enc Try.prog Try.f10 false true false false) := by
  refine returnsInHanded_of_change_sized (C := Try.checked) crtFractions_own started (by kernel_rfl) Try.func10
    (ChangeSpec.witness6 (enc := enc) (C := Try.checked) false ⟨#[], #[.agg #[.slice none 0 0, .bool false], .agg #[.slice none 0 0, .bool false], .agg #[.slice none 0 0, .bool false]], []⟩ 8 (by kernel_rfl) (by kernel_rfl) (by kernel_rfl) (by kernel_rfl)) ?_
  intro W base args ds gs before hval0 hW hcnd hsz0 _
  have hval : ∀ (j : Nat) t v, Try.f10.params[j]? = some t → args[j]? = some v → Value.okWide Try.prog W .any base t v := hval0
  have hsz : (DataW.weightsEach Try.prog (Try.f10.params.toList ++ Rows.crtFractionsSpec.plain.varTypes Try.prog) (ds ++ gs)).all (· ≤ reachBytes) = true := hsz0
  have hW' := hW
  obtain ⟨p, q, hA0, hV, rfl, hfz, hnd⟩ := hW
  have hA : DataW.TrodAll enc Try.prog W 0 (fun _ => true) true Try.f10.params.toList args.toList ds p := hA0
  rw [Try.params10] at hA hval hsz
  obtain ⟨v0, v1, v2, d0, d1, d2, p0, p1, p2, rfl, rfl, rfl, h0, h1, h2⟩ := trodAll_three hA
  obtain ⟨rfl, rfl⟩ := trodVars_none hV
  obtain ⟨l_0, n_0, x0, y0⟩ := rd_num (hval 0 26 _ rfl rfl) h0 (arg_weights hsz 0 rfl rfl)
  obtain ⟨l_1, n_1, x1, y1⟩ := rd_num (hval 1 26 _ rfl rfl) h1 (arg_weights hsz 1 rfl rfl)
  obtain ⟨l_2, n_2, x2, y2⟩ := rd_num (hval 2 26 _ rfl rfl) h2 (arg_weights hsz 2 rfl rfl)
  refine (Ok.outside (W := W) (args := #[v0, v1, v2]) (fractionsLawY_ok l_0 n_0 l_1 n_1 l_2 n_2 y0 y1 y2) (And.intro x0 (And.intro x1 (And.intro x2 (trivial))))).mono fun e W' ⟨v, he, hv, hw⟩ => ?_
  subst he
  have hv : v = .bool true := hv
  subst hv
  refine ⟨_, rfl, _, [], _, [], _, [], hW', trodAll_mk1 (shut_bool Try.underlying4 true), trodAll_mk3
    (Below.trod crtFractions_laid (by kernel_rfl) (of_decide_eq_true (by kernel_rfl)) h0 hw (fun x hx => by simpa using hW'.lt x (by simp only [List.mem_append] at hx ⊢; simp [hx])))
    (Below.trod crtFractions_laid (by kernel_rfl) (of_decide_eq_true (by kernel_rfl)) h1 hw (fun x hx => by simpa using hW'.lt x (by simp only [List.mem_append] at hx ⊢; simp [hx])))
    (Below.trod crtFractions_laid (by kernel_rfl) (of_decide_eq_true (by kernel_rfl)) h2 hw (fun x hx => by simpa using hW'.lt x (by simp only [List.mem_append] at hx ⊢; simp [hx]))), rfl, hw.frame _, fun h => by cases h⟩
theorem crtFractions_holds : Rows.CrtFractionsSaid :=
  OpenClaim.holds_of_wide 10 Try.f10 rfl rfl rfl rfl rfl rfl rfl ⟨rfl, rfl, rfl, rfl, rfl⟩ rfl rfl rfl rfl rfl (by kernel_rfl) Try.func10 (by kernel_rfl)
    (of_decide_eq_true (by kernel_rfl)) (by unfold Func.isWrapper; first | (rw [if_pos (by decide +kernel)]; kernel_rfl) | (rw [if_neg (by decide +kernel)]; exact ⟨rfl, rfl⟩))
    (fun os started H enc _ => crtFractions_lifted os started H enc)
end Go.Proofs.Ythkgpdljbajieaa
namespace Tor
end Tor
end
