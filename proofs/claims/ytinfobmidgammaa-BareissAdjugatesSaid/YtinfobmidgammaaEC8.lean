/-
  Proofs that laws of this seat return true for every input, and that their arguments read afterwards as before.
  No condition.
-/
import Derived.Test.YtinfobmidgammaaEC7
import Derived.Test.YtinfobmidgammaaRows
section
set_option linter.unusedVariables false
set_option linter.unusedSimpArgs false
namespace Tor
open Go Go.RowKit Go.Proofs
theorem lz1 {x : Int} (h : x.natAbs ≤ 4294967295) : lz 1 x := digs_len_le (k := 1) (by omega)
section
variable {P : Program} {E : Env} {ops : Array Oper}
end
attribute [local irreducible] Tor.J Tor.PJ Tor.StepO Tor.one Tor.slT Tor.ptrT Tor.aggT Tor.tupT Tor.exT Tor.andT Tor.gT Tor.eP Tor.boxO Tor.sliO Tor.slV Tor.VT.le Tor.Ret Tor.anyT Tor.mapO Tor.metT Tor.xO
attribute [local irreducible] bigT rowF
end Tor
end

section
set_option linter.unusedVariables false
set_option linter.unusedSimpArgs false
namespace Tor
open Go Go.RowKit Go.Proofs
attribute [local irreducible] Tor.J Tor.PJ Tor.StepO Tor.one Tor.slT Tor.ptrT Tor.aggT Tor.tupT Tor.exT Tor.andT Tor.gT Tor.eP Tor.boxO Tor.sliO Tor.slV Tor.VT.le Tor.Ret Tor.anyT Tor.mapO Tor.metT Tor.xO
attribute [local irreducible] bigT ratT rowF ratF
set_option maxRecDepth 100000 in
set_option maxHeartbeats 8000000 in
theorem adjugatesLaw_ok (r c : Nat) (l v : List Int) : Ok Try.prog 4 [rawInT r c l, numT .i8 v] (one (.bool true)) := by
  have hsq := rSquare_ok r c l
  have hr : r % 5 ≤ 4 := by omega
  generalize hF : (fun i j => dig l (i * (r % 5) + j)) = F at *
  have aF : ∀ i j, (F i j).natAbs ≤ 9 := fun i j => by rw [← hF]; exact dig_abs _ _
  have mF : ∀ i j, mod4 (F i j) := fun i j => by rw [← hF]; exact mod4_dig _ _
  generalize r % 5 = n at *
  have lF : ∀ i j, lz 1 (F i j) := fun i j => lz1 (Nat.le_trans (aF i j) (by decide))
  have he := elim04 hr
  have hsan := sanity_ok
  have hD := Det_ok n F 1 (by omega) he lF
  have hA := Adjugate_ok n F 1 (by omega) he lF
  have hboth := adj_both n F
  have habs := fun i j (hi : i < n) (hj : j < n) => adj_abs (F := F) aF hi hj
  have hdB : dB 9 (n - 1) ≤ 4294967295 := by
    have : n - 1 ≤ 3 := by omega
    rcases (show n - 1 = 0 ∨ n - 1 = 1 ∨ n - 1 = 2 ∨ n - 1 = 3 by omega) with h | h | h | h <;> rw [h] <;> decide
  have hs1 : small (Lin.detZ n F) := (det_lz he lF).small (by decide)
  have hve := rVector_ok v n (by omega)
  have hsol := fun hd => solve_adj (n := n) (F := F) (b := dig v) hd
  have hSolve := fun h0 => SolveN_ok n n F (dig v) 1 (by omega) (by omega) he lF (fun j => lz_dig v j) h0
  generalize adjE n F (elN n true (wideF n F) n) = G at *
  have hG : ∃ G' : Nat → Nat → Int, (∀ i j, i < n → j < n → G i j = G' i j) ∧ ∀ i j, (G' i j).natAbs ≤ 4294967295 := ⟨fun i j => if i < n ∧ j < n then G i j else 0, fun i j hi hj => by dsimp only; rw [if_pos ⟨hi, hj⟩], fun i j => by
    dsimp only
    by_cases h : i < n ∧ j < n
    · rw [if_pos h]; exact Nat.le_trans (habs i j h.1 h.2) hdB
    · rw [if_neg h]; decide⟩
  obtain ⟨G', hGG, hG'⟩ := hG
  have mG : ∀ i j, mod4 (G' i j) := fun i j => Nat.le_trans (hG' i j) (by decide +kernel)
  have sG : ∀ i j, small (G' i j) := fun i j => mod4_small (mG i j)
  have cG : ∀ a b, a < n → b < n → mulF n F G' a b = (if a = b then Lin.detZ n F else 0) ∧ mulF n G' F a b = (if a = b then Lin.detZ n F else 0) := fun a b ha hb => by
    obtain ⟨h1, h2⟩ := hboth a b ha hb
    exact ⟨(sumF_congr fun k hk => by rw [hGG k b hk hb]).symm.trans h1, (sumF_congr fun k hk => by rw [hGG a k ha hk]).symm.trans h2⟩
  have hA' : Ok Try.prog 18 [matF n n F] (tupT [matF n n G, one (.int .i64 0)]) := hA
  have hP1 : Ok Try.prog 9 [matF n n F, matF n n G] (matF n n (fun i j => if i = j then Lin.detZ n F else 0)) := (rProduct_ok n n F n G' (by omega) (by omega) (by omega) mF mG).le ⟨VT.le_refl _, matF_le hGG, trivial⟩ (matF_le fun i j hi hj => (cG i j hi hj).1)
  have hP2 : Ok Try.prog 9 [matF n n G, matF n n F] (matF n n (fun i j => if i = j then Lin.detZ n F else 0)) := (rProduct_ok n n G' n F (by omega) (by omega) (by omega) mG mF).le ⟨matF_le hGG, VT.le_refl _, trivial⟩ (matF_le fun i j hi hj => (cG i j hi hj).2)
  have hSz : Ok Try.prog 19 [matF n n G, one (.int .i64 n), one (.int .i64 n)] (one (.bool true)) := (rSized_ok n n G' (by omega) sG).le ⟨matF_le hGG, VT.le_refl _, VT.le_refl _, trivial⟩ (VT.le_refl _)
  have hAc : Ok Try.prog 25 [rowF n (dig v), matF n n G] (rowF n (mulF n (fun _ => dig v) G' 0)) := (rAct5_ok n n (dig v) G' (by omega) (by omega) (mod4_dig v) mG).le ⟨VT.le_refl _, matF_le hGG, trivial⟩ (VT.le_refl _)
  have hId := rIdentity_ok n (by omega)
  have hSc : Ok Try.prog 20 [matF n n (fun i j => if i = j then 1 else 0), bigT (Lin.detZ n F)] (matF n n (fun i j => if i = j then Lin.detZ n F else 0)) := (rScale_ok n n (fun i j => if i = j then 1 else 0) (Lin.detZ n F) (by omega) (by omega) (fun i j => by split; exact small_one; exact small_zero) hs1).le ⟨VT.le_refl _, VT.le_refl _, trivial⟩ (matF_le fun i j _ _ => by
    split
    · exact Int.one_mul _
    · exact Int.zero_mul _)
  have hSm := same_self n n (fun i j => if i = j then Lin.detZ n F else 0) (by omega)
  have hV := rValidI_ok _ hs1
  have hSg := rSignI_ok (Lin.detZ n F)
  have hz := sgnI_zero (Lin.detZ n F)
  clear hA hboth habs hdB cG
  unfold matF at *
  by_cases hd : Lin.detZ n F = 0
  · rw [hz.2 hd] at hSg
    generalize Lin.detZ n F = d at *
    refine Ok.enter Try.func4 rfl Try.ntmps4 rfl (fun w O => ?_)
    refine J_seq ?_
    refine J_reg ?_
    refine a_boxS rfl rfl (ltN rfl) (fun b2 => ?_)
    refine st (s_assign rfl) rfl ?_
    refine Run.nil ?_
    refine pj_then ?_
    refine J_seq ?_
    refine J_reg ?_
    refine st (s_callk (hsan ) rfl trivial) rfl ?_
    refine st (s_assign rfl) rfl ?_
    refine Run.nil ?_
    refine pj_then ?_
    refine J_seq ?_
    refine J_reg ?_
    refine st (s_loadW 0 rfl rfl) rfl ?_
    refine st (s_callk (hsq ) rfl ⟨VT.le_refl _, trivial⟩) rfl ?_
    refine a_allocS (T := 29) rfl rfl rfl (fun b6 => ?_)
    refine a_storeW 0 rfl rfl rfl rfl ?_
    refine Run.nil ?_
    refine pj_then ?_
    refine J_seq ?_
    refine J_reg ?_
    refine st (s_loadW 0 rfl rfl) rfl ?_
    refine st (s_callk (hD ) rfl ⟨VT.le_refl _, trivial⟩) rfl ?_
    refine st (s_move rfl) rfl ?_
    refine st (s_extract rfl rfl) rfl ?_
    refine st (s_extract rfl rfl) rfl ?_
    refine a_alloc (T := 34) rfl (ltN rfl) (fun b7 => ?_)
    refine a_storeB 0 rfl rfl rfl rfl rfl (leN rfl) rfl ?_
    refine st (s_assign rfl) rfl ?_
    refine Run.nil ?_
    refine pj_then ?_
    refine J_seq ?_
    refine J_reg ?_
    refine st (s_loadW 1 rfl rfl) rfl ?_
    refine st (s_callk (hA' ) rfl ⟨VT.le_refl _, trivial⟩) rfl ?_
    refine st (s_move rfl) rfl ?_
    refine st (s_extract rfl rfl) rfl ?_
    refine st (s_extract rfl rfl) rfl ?_
    refine a_allocS (T := 29) rfl rfl rfl (fun b9 => ?_)
    refine a_storeW 0 rfl rfl rfl rfl ?_
    refine st (s_assign rfl) rfl ?_
    refine Run.nil ?_
    refine pj_then ?_
    refine J_seq ?_
    refine J_seq ?_
    refine J_reg ?_
    refine st (s_move rfl) rfl ?_
    refine st (sF (by omega) (s_ne rfl rfl)) rfl ?_
    refine st (s_move rfl) rfl ?_
    refine sg1 rfl rfl (s_move rfl) rfl ?_
    refine sg1 rfl rfl (sF (by omega) (s_ne rfl rfl)) rfl ?_
    refine st (s_pickF rfl rfl) rfl ?_
    refine st (s_move rfl) rfl ?_
    refine sg1 rfl rfl (s_loadB 1 rfl rfl rfl) rfl ?_
    refine sg1 rfl rfl (s_callk (hV ) rfl ⟨VT.le_refl _, trivial⟩) rfl ?_
    refine sg1 rfl rfl (s_not rfl) rfl ?_
    refine st (s_pickF rfl rfl) rfl ?_
    refine st (s_move rfl) rfl ?_
    refine sg1 rfl rfl (s_loadW 0 rfl rfl) rfl ?_
    refine sg1 rfl rfl (s_fieldAddr rfl) rfl ?_
    refine sg1 rfl rfl (s_loadB 2 rfl rfl rfl) rfl ?_
    refine sg1 rfl rfl (s_fieldAddr rfl) rfl ?_
    refine sg1 rfl rfl (s_loadB 2 rfl rfl rfl) rfl ?_
    refine sg1 rfl rfl (s_callk (hSz ) rfl ⟨VT.le_refl _, VT.le_refl _, VT.le_refl _, trivial⟩) rfl ?_
    refine sg1 rfl rfl (s_not rfl) rfl ?_
    refine st (s_pickF rfl rfl) rfl ?_
    refine Run.nil ?_
    refine pj_then ?_
    refine J_cond0 rfl ?_
    refine J_skip ?_
    refine pj_then ?_
    refine J_seq ?_
    refine J_regU2 mixed (by kernel_rfl) (by kernel_rfl) ?_
    refine ux (fun B => s_fieldAddr rfl) rfl rfl ?_
    refine ux (fun B => s_loadB 2 rfl rfl rfl) rfl rfl ?_
    refine uxk (hId ) rfl ⟨VT.le_refl _, trivial⟩ rfl ?_
    refine ux (fun B => s_loadB 1 rfl rfl rfl) rfl rfl ?_
    refine uxk (hSc ) rfl ⟨VT.le_refl _, VT.le_refl _, trivial⟩ rfl ?_
    refine ua rfl ?_
    refine us rfl ?_
    refine RunU.nil (fun γ => ?_)
    refine PJ_normM (M' := [_, _, _, _, _]) rfl ?_
    refine PJ_sub (SubG.refl _) (.keep box_flat (SubM.refl _)) ?_
    refine pj_then ?_
    refine J_seq ?_
    refine J_seq ?_
    refine J_regd 14 mixed (by kernel_rfl) (by decide) ?_
    refine st (s_loadW 3 rfl rfl) rfl ?_
    refine st (s_loadW 1 rfl rfl) rfl ?_
    refine st (s_callk (hP1 ) rfl ⟨VT.le_refl _, VT.le_refl _, trivial⟩) rfl ?_
    refine st (s_loadW 0 rfl rfl) rfl ?_
    refine st (s_callk (hSm ) rfl ⟨VT.le_refl _, VT.le_refl _, trivial⟩) rfl ?_
    refine st (s_not rfl) rfl ?_
    refine st (s_move rfl) rfl ?_
    refine sg1 rfl rfl (s_loadW 1 rfl rfl) rfl ?_
    refine sg1 rfl rfl (s_loadW 3 rfl rfl) rfl ?_
    refine sg1 rfl rfl (s_callk (hP2 ) rfl ⟨VT.le_refl _, VT.le_refl _, trivial⟩) rfl ?_
    refine sg1 rfl rfl (s_loadW 0 rfl rfl) rfl ?_
    refine sg1 rfl rfl (s_callk (hSm ) rfl ⟨VT.le_refl _, VT.le_refl _, trivial⟩) rfl ?_
    refine sg1 rfl rfl (s_not rfl) rfl ?_
    refine st (s_pickF rfl rfl) rfl ?_
    refine Run.nil ?_
    refine Run.nil ?_
    refine pj_then ?_
    refine J_cond0 rfl ?_
    refine J_skip ?_
    refine pj_then ?_
    refine J_seq ?_
    refine J_seq ?_
    refine J_reg ?_
    refine st (s_loadB 2 rfl rfl rfl) rfl ?_
    refine st (s_callk (hSg ) rfl ⟨VT.le_refl _, trivial⟩) rfl ?_
    refine st (sT (by omega) (s_eq rfl rfl)) rfl ?_
    refine Run.nil ?_
    refine pj_then ?_
    refine J_cond1 rfl ?_
    refine J_seq ?_
    refine J_reg ?_
    refine st (s_move rfl) rfl ?_
    refine st (s_assign rfl) rfl ?_
    refine Run.nil ?_
    refine pj_then ?_
    refine J_ret ?_
    refine pr_then ?_
    refine retc1 Try.results4 (.tmp rfl (VT.le_refl _))
  · obtain ⟨h0, hxs⟩ := hsol hd
    have hso := hSolve h0
    have hsg0 : sgnI (Lin.detZ n F) ≠ 0 := fun h => hd (hz.1 h)
    have hx : ∀ i, i < n → xsN (elN n true (eqS n F (dig v)) n) n (elN n true (eqS n F (dig v)) n).piv.length i = Rat.divInt (mulF n (fun _ => dig v) G' 0 i) (Lin.detZ n F) := fun i hi => by
      rw [hxs i hi]; congr 1
      exact sumF_congr fun k hk => by rw [hGG k i hk hi]
    have hb1 : ∀ i, (mulF n (fun _ => dig v) G' 0 i).natAbs ≤ 4 * (9 * 4294967295) := fun i => by
      have h := sumF_abs (B := 9 * 4294967295) (f := fun k => dig v k * G' k i) (fun k => by
        rw [Int.natAbs_mul]
        exact Nat.mul_le_mul (dig_abs v k) (hG' k i)) n
      exact Nat.le_trans h (Nat.mul_le_mul_right _ hr)
    have hb2 : (Lin.detZ n F).natAbs ≤ 4294967295 := by
      refine Nat.le_trans (detZ_abs aF) ?_
      rcases (show n = 0 ∨ n = 1 ∨ n = 2 ∨ n = 3 ∨ n = 4 by omega) with h | h | h | h | h <;> rw [h] <;> decide
    have hOf := fun i => rqOf_ok (mulF n (fun _ => dig v) G' 0 i) (Lin.detZ n F) hd (small0_lt (Nat.lt_of_le_of_lt (hb1 i) (by decide +kernel))) (small0_lt (Nat.lt_of_le_of_lt hb2 (by decide +kernel)))
    generalize xsN (elN n true (eqS n F (dig v)) n) n (elN n true (eqS n F (dig v)) n).piv.length = xs at *
    generalize mulF n (fun _ => dig v) G' 0 = u at *
    have hSame : ∀ i, i < n → Ok Try.prog 27 [ratT (xs i), ratT (Rat.divInt (u i) (Lin.detZ n F))] (one (.bool true)) := fun i hi => by
      have h := rqSame_ok (xs i) (Rat.divInt (u i) (Lin.detZ n F))
      rw [decide_eq_true (hx i hi)] at h; exact h
    clear hsol hSolve hxs hx hb1 hb2 h0 hz
    generalize sgnI (Lin.detZ n F) = sg at *
    generalize Lin.detZ n F = d at *
    unfold ratF rowF at *
    refine Ok.enter Try.func4 rfl Try.ntmps4 rfl (fun w O => ?_)
    refine J_seq ?_
    refine J_reg ?_
    refine a_boxS rfl rfl (ltN rfl) (fun b2 => ?_)
    refine st (s_assign rfl) rfl ?_
    refine Run.nil ?_
    refine pj_then ?_
    refine J_seq ?_
    refine J_reg ?_
    refine st (s_callk (hsan ) rfl trivial) rfl ?_
    refine st (s_assign rfl) rfl ?_
    refine Run.nil ?_
    refine pj_then ?_
    refine J_seq ?_
    refine J_reg ?_
    refine st (s_loadW 0 rfl rfl) rfl ?_
    refine st (s_callk (hsq ) rfl ⟨VT.le_refl _, trivial⟩) rfl ?_
    refine a_allocS (T := 29) rfl rfl rfl (fun b6 => ?_)
    refine a_storeW 0 rfl rfl rfl rfl ?_
    refine Run.nil ?_
    refine pj_then ?_
    refine J_seq ?_
    refine J_reg ?_
    refine st (s_loadW 0 rfl rfl) rfl ?_
    refine st (s_callk (hD ) rfl ⟨VT.le_refl _, trivial⟩) rfl ?_
    refine st (s_move rfl) rfl ?_
    refine st (s_extract rfl rfl) rfl ?_
    refine st (s_extract rfl rfl) rfl ?_
    refine a_alloc (T := 34) rfl (ltN rfl) (fun b7 => ?_)
    refine a_storeB 0 rfl rfl rfl rfl rfl (leN rfl) rfl ?_
    refine st (s_assign rfl) rfl ?_
    refine Run.nil ?_
    refine pj_then ?_
    refine J_seq ?_
    refine J_reg ?_
    refine st (s_loadW 1 rfl rfl) rfl ?_
    refine st (s_callk (hA' ) rfl ⟨VT.le_refl _, trivial⟩) rfl ?_
    refine st (s_move rfl) rfl ?_
    refine st (s_extract rfl rfl) rfl ?_
    refine st (s_extract rfl rfl) rfl ?_
    refine a_allocS (T := 29) rfl rfl rfl (fun b9 => ?_)
    refine a_storeW 0 rfl rfl rfl rfl ?_
    refine st (s_assign rfl) rfl ?_
    refine Run.nil ?_
    refine pj_then ?_
    refine J_seq ?_
    refine J_seq ?_
    refine J_reg ?_
    refine st (s_move rfl) rfl ?_
    refine st (sF (by omega) (s_ne rfl rfl)) rfl ?_
    refine st (s_move rfl) rfl ?_
    refine sg1 rfl rfl (s_move rfl) rfl ?_
    refine sg1 rfl rfl (sF (by omega) (s_ne rfl rfl)) rfl ?_
    refine st (s_pickF rfl rfl) rfl ?_
    refine st (s_move rfl) rfl ?_
    refine sg1 rfl rfl (s_loadB 1 rfl rfl rfl) rfl ?_
    refine sg1 rfl rfl (s_callk (hV ) rfl ⟨VT.le_refl _, trivial⟩) rfl ?_
    refine sg1 rfl rfl (s_not rfl) rfl ?_
    refine st (s_pickF rfl rfl) rfl ?_
    refine st (s_move rfl) rfl ?_
    refine sg1 rfl rfl (s_loadW 0 rfl rfl) rfl ?_
    refine sg1 rfl rfl (s_fieldAddr rfl) rfl ?_
    refine sg1 rfl rfl (s_loadB 2 rfl rfl rfl) rfl ?_
    refine sg1 rfl rfl (s_fieldAddr rfl) rfl ?_
    refine sg1 rfl rfl (s_loadB 2 rfl rfl rfl) rfl ?_
    refine sg1 rfl rfl (s_callk (hSz ) rfl ⟨VT.le_refl _, VT.le_refl _, VT.le_refl _, trivial⟩) rfl ?_
    refine sg1 rfl rfl (s_not rfl) rfl ?_
    refine st (s_pickF rfl rfl) rfl ?_
    refine Run.nil ?_
    refine pj_then ?_
    refine J_cond0 rfl ?_
    refine J_skip ?_
    refine pj_then ?_
    refine J_seq ?_
    refine J_regU2 mixed (by kernel_rfl) (by kernel_rfl) ?_
    refine ux (fun B => s_fieldAddr rfl) rfl rfl ?_
    refine ux (fun B => s_loadB 2 rfl rfl rfl) rfl rfl ?_
    refine uxk (hId ) rfl ⟨VT.le_refl _, trivial⟩ rfl ?_
    refine ux (fun B => s_loadB 1 rfl rfl rfl) rfl rfl ?_
    refine uxk (hSc ) rfl ⟨VT.le_refl _, VT.le_refl _, trivial⟩ rfl ?_
    refine ua rfl ?_
    refine us rfl ?_
    refine RunU.nil (fun γ => ?_)
    refine PJ_normM (M' := [_, _, _, _, _]) rfl ?_
    refine PJ_sub (SubG.refl _) (.keep box_flat (SubM.refl _)) ?_
    refine pj_then ?_
    refine J_seq ?_
    refine J_seq ?_
    refine J_regd 14 mixed (by kernel_rfl) (by decide) ?_
    refine st (s_loadW 3 rfl rfl) rfl ?_
    refine st (s_loadW 1 rfl rfl) rfl ?_
    refine st (s_callk (hP1 ) rfl ⟨VT.le_refl _, VT.le_refl _, trivial⟩) rfl ?_
    refine st (s_loadW 0 rfl rfl) rfl ?_
    refine st (s_callk (hSm ) rfl ⟨VT.le_refl _, VT.le_refl _, trivial⟩) rfl ?_
    refine st (s_not rfl) rfl ?_
    refine st (s_move rfl) rfl ?_
    refine sg1 rfl rfl (s_loadW 1 rfl rfl) rfl ?_
    refine sg1 rfl rfl (s_loadW 3 rfl rfl) rfl ?_
    refine sg1 rfl rfl (s_callk (hP2 ) rfl ⟨VT.le_refl _, VT.le_refl _, trivial⟩) rfl ?_
    refine sg1 rfl rfl (s_loadW 0 rfl rfl) rfl ?_
    refine sg1 rfl rfl (s_callk (hSm ) rfl ⟨VT.le_refl _, VT.le_refl _, trivial⟩) rfl ?_
    refine sg1 rfl rfl (s_not rfl) rfl ?_
    refine st (s_pickF rfl rfl) rfl ?_
    refine Run.nil ?_
    refine Run.nil ?_
    refine pj_then ?_
    refine J_cond0 rfl ?_
    refine J_skip ?_
    refine pj_then ?_
    refine J_seq ?_
    refine J_seq ?_
    refine J_reg ?_
    refine st (s_loadB 2 rfl rfl rfl) rfl ?_
    refine st (s_callk (hSg ) rfl ⟨VT.le_refl _, trivial⟩) rfl ?_
    refine st (sF (by assumption) (s_eq rfl rfl)) rfl ?_
    refine Run.nil ?_
    refine pj_then ?_
    refine J_cond0 rfl ?_
    refine J_skip ?_
    refine pj_then ?_
    refine J_seq ?_
    refine J_reg ?_
    refine st (s_move rfl) rfl ?_
    refine st (s_fieldAddr rfl) rfl ?_
    refine st (s_loadB 3 rfl rfl rfl) rfl ?_
    refine st (s_callk (hve ) rfl ⟨VT.le_refl _, VT.le_refl _, trivial⟩) rfl ?_
    refine st (s_assign rfl) rfl ?_
    refine Run.nil ?_
    refine pj_then ?_
    refine J_seq ?_
    refine J_reg ?_
    refine st (s_loadW 3 rfl rfl) rfl ?_
    refine st (s_move rfl) rfl ?_
    refine st (s_callk (hso ) rfl ⟨VT.le_refl _, VT.le_refl _, trivial⟩) rfl ?_
    refine st (s_move rfl) rfl ?_
    refine st (s_extract rfl rfl) rfl ?_
    refine st (s_extract rfl rfl) rfl ?_
    refine st (s_extract rfl rfl) rfl ?_
    refine st (s_assign rfl) rfl ?_
    refine st (s_assign rfl) rfl ?_
    refine st (s_assign rfl) rfl ?_
    refine Run.nil ?_
    refine pj_then ?_
    refine J_seq ?_
    refine J_reg ?_
    refine st (s_move rfl) rfl ?_
    refine st (s_loadW 1 rfl rfl) rfl ?_
    refine st (s_callk (hAc ) rfl ⟨VT.le_refl _, VT.le_refl _, trivial⟩) rfl ?_
    refine st (s_assign rfl) rfl ?_
    refine Run.nil ?_
    refine pj_then ?_
    refine J_seq ?_
    refine J_seq ?_
    refine J_reg ?_
    refine st (s_assign rfl) rfl ?_
    refine Run.nil ?_
    refine pj_then ?_
    refine J_block ?_
    refine J_sub (Γ' := [(4, _), (5, _), (6, _), (7, _), (13, _), (15, _), (16, _), (17, _)]) (SubG.cons rfl (VT.le_refl _) (SubG.cons rfl (VT.le_refl _) (SubG.cons rfl (VT.le_refl _) (SubG.cons rfl (VT.le_refl _) (SubG.cons rfl (VT.le_refl _) (SubG.cons rfl (VT.le_refl _) (SubG.cons rfl (VT.le_refl _) (SubG.cons rfl (VT.le_refl _) (SubG.nil))))))))) (SubM.refl _) ?_
    refine J_loopA (σ := Nat) (Γk := [(5, _), (6, _), (7, _), (13, _), (15, _), (16, _)]) (SubG.cons rfl (VT.le_refl _) (SubG.cons rfl (VT.le_refl _) (SubG.cons rfl (VT.le_refl _) (SubG.cons rfl (VT.le_refl _) (SubG.cons rfl (VT.le_refl _) (SubG.cons rfl (VT.le_refl _) (SubG.nil))))))) (fun i => [(17, one (.int .i64 (i : Nat)))]) (fun i M0 => M0) (fun i => i ≤ n) (fun i => n - i) (0) (Nat.zero_le _) (by repeat (first | exact SubG.refl _ | exact SubG.nil | refine SubG.cons rfl (VT.le_refl _) ?_ | (refine SubG.cons rfl (one_le ?_) ?_; (congr 1; first | omega | (simp; omega) | simp)))) (.keep (Own.le_refl _) (.keep (Own.le_refl _) (.keep (Own.le_refl _) (.keep (Own.le_refl _) (.keep (Own.le_refl _) (.nil)))))) (fun i hi => ?_)
    refine J_norm (Γ' := [(17, _), (5, _), (6, _), (7, _), (13, _), (15, _), (16, _)]) (M' := [_, _, _, _, _]) rfl rfl ?_
    by_cases hin : i < n
    · have hOi := hOf i
      have hSi := hSame i hin
      refine J_seq ?_
      refine J_seq ?_
      refine J_reg ?_
      refine st (s_move rfl) rfl ?_
      refine st (s_fieldAddr rfl) rfl ?_
      refine st (s_loadB 3 rfl rfl rfl) rfl ?_
      refine st (sT (by omega) (s_lt rfl rfl)) rfl ?_
      refine Run.nil ?_
      refine pj_then ?_
      refine J_cond1 rfl ?_
      refine J_skip ?_
      refine pj_then ?_
      refine J_seq ?_
      refine J_block ?_
      refine J_seq ?_
      refine J_regU2 mixed (by kernel_rfl) (by kernel_rfl) ?_
      refine ux (fun B => s_move rfl) rfl rfl ?_
      refine ux (fun B => s_move rfl) rfl rfl ?_
      refine ux (fun B => s_indexIN rfl rfl (by omega)) rfl rfl ?_
      refine ux (fun B => s_load rfl) rfl rfl ?_
      refine ux (fun B => s_loadB 2 rfl rfl rfl) rfl rfl ?_
      refine uxk (hOf _) rfl ⟨VT.le_refl _, VT.le_refl _, trivial⟩ rfl ?_
      refine ux (fun B => s_move rfl) rfl rfl ?_
      refine ux (fun B => s_extract rfl rfl) rfl rfl ?_
      refine ux (fun B => s_extract rfl rfl) rfl rfl ?_
      refine ua rfl ?_
      refine us rfl ?_
      refine ux (fun B => s_assign rfl) rfl rfl ?_
      refine RunU.nil (fun γ => ?_)
      refine PJ_normM (M' := [_, _, _, _, _, _]) rfl ?_
      refine pj_then ?_
      refine J_seq ?_
      refine J_regd 14 mixed (by kernel_rfl) (by decide) ?_
      refine st (s_move rfl) rfl ?_
      refine st (s_len rfl) rfl ?_
      refine st (s_fieldAddr rfl) rfl ?_
      refine st (s_loadB 4 rfl rfl rfl) rfl ?_
      refine st (sF (by omega) (s_ne rfl rfl)) rfl ?_
      refine st (s_move rfl) rfl ?_
      refine sg1 rfl rfl (s_move rfl) rfl ?_
      refine sg1 rfl rfl (s_move rfl) rfl ?_
      refine sg1 rfl rfl (s_indexIN rfl rfl (by omega)) rfl ?_
      refine sg1 rfl rfl (s_load rfl) rfl ?_
      refine sg1 rfl rfl (s_loadB 0 rfl rfl rfl) rfl ?_
      refine sg1 rfl rfl (s_callk (hSame _ (by assumption)) rfl ⟨VT.le_refl _, VT.le_refl _, trivial⟩) rfl ?_
      refine sg1 rfl rfl (s_not rfl) rfl ?_
      refine st (s_pickF rfl rfl) rfl ?_
      refine Run.nil ?_
      refine Run.nil ?_
      refine pj_then ?_
      refine J_cond0 rfl ?_
      refine J_skip ?_
      refine pn_block ?_
      refine pj_then ?_
      refine J_reg ?_
      refine st (s_move rfl) rfl ?_
      refine st (s_addN _ 1 rfl rfl (by omega)) rfl ?_
      refine st (s_assign rfl) rfl ?_
      refine Run.nil ?_
      refine pj_roundM (i + 1) (hin) (by omega) (by repeat (first | exact SubG.refl _ | exact SubG.nil | refine SubG.cons rfl (VT.le_refl _) ?_ | (refine SubG.cons rfl (one_le ?_) ?_; (congr 1; first | omega | (simp; omega) | simp)))) (.drop (.keep (Own.le_refl _) (.keep (Own.le_refl _) (.keep (Own.le_refl _) (.keep (Own.le_refl _) (.keep (Own.le_refl _) (.nil)))))))
    · refine J_seq ?_
      refine J_seq ?_
      refine J_reg ?_
      refine st (s_move rfl) rfl ?_
      refine st (s_fieldAddr rfl) rfl ?_
      refine st (s_loadB 3 rfl rfl rfl) rfl ?_
      refine st (sF (by omega) (s_lt rfl rfl)) rfl ?_
      refine Run.nil ?_
      refine pj_then ?_
      refine J_cond0 rfl ?_
      refine J_exit ?_
      refine px_then ?_
      refine px_then ?_
      refine px_block ?_
      refine pj_then ?_
      refine J_seq ?_
      refine J_reg ?_
      refine st (s_move rfl) rfl ?_
      refine st (s_move rfl) rfl ?_
      refine sg1 rfl rfl (s_move rfl) rfl ?_
      refine sg1 rfl rfl (s_len rfl) rfl ?_
      refine sg1 rfl rfl (s_fieldAddr rfl) rfl ?_
      refine sg1 rfl rfl (s_loadB 3 rfl rfl rfl) rfl ?_
      refine sg1 rfl rfl (sT (by omega) (s_eq rfl rfl)) rfl ?_
      refine st (s_pickT rfl rfl) rfl ?_
      refine st (s_move rfl) rfl ?_
      refine sg1 rfl rfl (s_move rfl) rfl ?_
      refine st (s_pickT rfl rfl) rfl ?_
      refine st (s_assign rfl) rfl ?_
      refine Run.nil ?_
      refine pj_then ?_
      refine J_ret ?_
      refine retc1 Try.results4 (.tmp rfl (VT.le_refl _))
end Tor
end

section
set_option linter.unusedVariables false
set_option linter.unusedSimpArgs false
set_option maxRecDepth 100000
namespace Tor
open Go Go.RowKit Go.ChangeShapes Go.WideShapes Go.ChangeAt Go.Joins Go.Proofs
theorem rd_raw {H : Type} {enc : TypeId × Value → H} {W : World} {base : Nat} {v : Value} {d : DataW H} {ps : List MemPlace} (hval : Value.okWide Try.prog W .any base 24 v) (hT : DataW.Trod enc Try.prog W 0 (fun _ => true) true 24 v d ps) (hw : ∀ x ∈ DataW.weights Try.prog 24 d, x ≤ reachBytes) :
    ∃ (r : Nat) (c : Nat) (l : List Int), (rawInT r c l).p v (view W) ∧ (r : Int) ≤ IntKind.max .u8 ∧ (c : Int) ≤ IntKind.max .u8 ∧ (∀ x ∈ l, IntKind.min .i8 ≤ x ∧ x ≤ IntKind.max .i8) ∧ True := by
  obtain ⟨cs, rfl, h⟩ := arg_agg 8 (ts := [5, 5, 22]) (by kernel_rfl) (.inl ⟨_, Try.underlying24⟩) hval hT hw
  obtain ⟨c0, r0, rfl, h0, g0⟩ := h
  obtain ⟨c1, r1, rfl, h1, g1⟩ := g0
  obtain ⟨c2, r2, rfl, h2, g2⟩ := g1
  cases g2
  obtain ⟨r, rfl, b0⟩ := leaf_nat Try.underlying5 rfl h0
  obtain ⟨c, rfl, b1⟩ := leaf_nat Try.underlying5 rfl h1
  obtain ⟨l, k2, b2⟩ := leaf_nums Try.underlying22 Try.underlying75 (by kernel_rfl) (of_decide_eq_true (by kernel_rfl)) h2
  exact ⟨r, c, l, agg_p (φs := [one (.int .u8 r), one (.int .u8 c), numT .i8 l]) ⟨rfl, rfl, ⟨rfl, rfl, ⟨k2, slT_one k2, trivial⟩⟩⟩, b0, b1, b2, trivial⟩
theorem rd_d8 {H : Type} {enc : TypeId × Value → H} {W : World} {base : Nat} {v : Value} {d : DataW H} {ps : List MemPlace} (hval : Value.okWide Try.prog W .any base 22 v) (hT : DataW.Trod enc Try.prog W 0 (fun _ => true) true 22 v d ps) (hw : ∀ x ∈ DataW.weights Try.prog 22 d, x ≤ reachBytes) :
    ∃ (d : List Int), (numT .i8 d).p v (view W) ∧ (∀ x ∈ d, IntKind.min .i8 ≤ x ∧ x ≤ IntKind.max .i8) ∧ True := by
  have h := arg_leaf (.inr (.inr ⟨_, Try.underlying22⟩)) hval hT hw
  obtain ⟨d, k0, b0⟩ := leaf_nums Try.underlying22 Try.underlying75 (by kernel_rfl) (of_decide_eq_true (by kernel_rfl)) h
  exact ⟨d, k0, b0, trivial⟩
end Tor
namespace Go.Proofs.Ytinfobmidgammaa
open Go.ChangeShapes Go.WideShapes Go.ChangeAt Go.RowKit Go.Joins Tor
theorem bareissAdjugates_own : ownKnob Try.prog.godebug = none := by kernel_rfl
theorem bareissAdjugates_laid : laidOutB Try.prog = true := by kernel_rfl
set_option maxRecDepth 100000 in
theorem bareissAdjugates_lifted (os : Os) (started : os.Started) (H : Type) (enc : TypeId × Value → H) :
    ReturnsInHanded {} Try.checked os 4 .any (Rows.bareissAdjugatesSpec.pre6 enc Try.prog Try.f4 Rows.bareissAdjugatesRow.domain false) (Rows.bareissAdjugatesSpec.post enc Try.prog Try.f4 false true false false) := by
  refine returnsInHanded_of_change_sized (C := Try.checked) bareissAdjugates_own started (by kernel_rfl) Try.func4
    (ChangeSpec.witness6 (enc := enc) (C := Try.checked) false ⟨#[], #[.agg #[.int .u8 0, .int .u8 0, .slice none 0 0], .slice none 0 0], []⟩ 8 (by kernel_rfl) (by kernel_rfl) (by kernel_rfl) (by kernel_rfl)) ?_
  intro W base args ds gs before hval0 hW hcnd hsz0 _
  have hval : ∀ (j : Nat) t v, Try.f4.params[j]? = some t → args[j]? = some v → Value.okWide Try.prog W .any base t v := hval0
  have hsz : (DataW.weightsEach Try.prog (Try.f4.params.toList ++ Rows.bareissAdjugatesSpec.plain.varTypes Try.prog) (ds ++ gs)).all (· ≤ reachBytes) = true := hsz0
  have hW' := hW
  obtain ⟨p, q, hA0, hV, rfl, hfz, hnd⟩ := hW
  have hA : DataW.TrodAll enc Try.prog W 0 (fun _ => true) true Try.f4.params.toList args.toList ds p := hA0
  rw [Try.params4] at hA hval hsz
  obtain ⟨v0, v1, d0, d1, p0, p1, rfl, rfl, rfl, h0, h1⟩ := trodAll_two hA
  obtain ⟨rfl, rfl⟩ := trodVars_none hV
  obtain ⟨r_0, c_0, l_0, x0, y0⟩ := rd_raw (hval 0 24 _ rfl rfl) h0 (arg_weights hsz 0 rfl rfl)
  obtain ⟨d_1, x1, y1⟩ := rd_d8 (hval 1 22 _ rfl rfl) h1 (arg_weights hsz 1 rfl rfl)
  refine (Ok.outside (W := W) (args := #[v0, v1]) (adjugatesLaw_ok r_0 c_0 l_0 d_1) (And.intro x0 (And.intro x1 (trivial)))).mono fun e W' ⟨v, he, hv, hw⟩ => ?_
  subst he
  have hv : v = .bool true := hv
  subst hv
  refine ⟨_, rfl, _, [], _, [], _, [], hW', trodAll_mk1 (shut_bool Try.underlying4 true), trodAll_mk2
    (Below.trod bareissAdjugates_laid (by kernel_rfl) (of_decide_eq_true (by kernel_rfl)) h0 hw (fun x hx => by simpa using hW'.lt x (by simp only [List.mem_append] at hx ⊢; simp [hx])))
    (Below.trod bareissAdjugates_laid (by kernel_rfl) (of_decide_eq_true (by kernel_rfl)) h1 hw (fun x hx => by simpa using hW'.lt x (by simp only [List.mem_append] at hx ⊢; simp [hx]))), rfl, hw.frame _, fun h => by cases h⟩
theorem bareissAdjugates_holds : Rows.BareissAdjugatesSaid :=
  OpenClaim.holds_of_wide 4 Try.f4 rfl rfl rfl rfl rfl rfl rfl ⟨rfl, rfl, rfl, rfl, rfl⟩ rfl rfl rfl rfl rfl (by kernel_rfl) Try.func4 (by kernel_rfl)
    (of_decide_eq_true (by kernel_rfl)) (by unfold Func.isWrapper; first | (rw [if_pos (by decide +kernel)]; kernel_rfl) | (rw [if_neg (by decide +kernel)]; exact ⟨rfl, rfl⟩))
    (fun os started H enc _ => bareissAdjugates_lifted os started H enc)
end Go.Proofs.Ytinfobmidgammaa
namespace Tor
end Tor
end
