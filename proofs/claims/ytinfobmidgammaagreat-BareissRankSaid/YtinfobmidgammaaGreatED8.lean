/-
  Proofs that laws of this seat return true for every input, and that their arguments read afterwards as before.
  No condition.
-/
import Derived.Test.YtinfobmidgammaaGreatED7
import Derived.Test.YtinfobmidgammaaGreatRows
section
set_option linter.unusedVariables false
set_option linter.unusedSimpArgs false
namespace Tor
open Go Go.RowKit Go.Proofs
attribute [local irreducible] Tor.J Tor.PJ Tor.StepO Tor.one Tor.slT Tor.ptrT Tor.aggT Tor.tupT Tor.exT Tor.andT Tor.eP Tor.boxO Tor.sliO Tor.slV Tor.VT.le Tor.Ret Tor.anyT Tor.xO
attribute [local irreducible] bigT ratT
set_option maxHeartbeats 4000000 in
theorem r8Value_ok (n : Nat) (F : Nat → Nat → Int) (α : Nat) (hn : n ≤ 1024) (hα : 1 ≤ α) (hF : ∀ i j, lz α (F i j)) (hz : rdB α n ≤ 1099511627700) : Ok Tryz.prog 26 [matF n n F] (bigT (Lin.detZ n F)) := by
  have h := r8Det_ok n F α hn hα hF hz
  refine Ok.enter Tryz.func26 rfl Tryz.ntmps26 rfl (fun w O => ?_)
  refine J_seq ?_
  refine J_reg ?_
  refine a_boxS rfl rfl (ltN rfl) (fun b1 => ?_)
  refine a_alloc (T := 43) rfl (ltN rfl) (fun b2 => ?_)
  refine Run.nil ?_
  refine pj_then ?_
  refine J_seq ?_
  refine J_reg ?_
  refine st (s_loadW 1 rfl rfl) rfl ?_
  refine st (s_callk (h ) rfl ⟨VT.le_refl _, trivial⟩) rfl ?_
  refine st (s_move rfl) rfl ?_
  refine st (s_extract rfl rfl) rfl ?_
  refine st (s_extract rfl rfl) rfl ?_
  refine a_alloc (T := 43) rfl (ltN rfl) (fun b3 => ?_)
  refine a_storeB 0 rfl rfl rfl rfl rfl (leN rfl) rfl ?_
  refine st (s_assign rfl) rfl ?_
  refine Run.nil ?_
  refine pj_then ?_
  refine J_seq ?_
  refine J_reg ?_
  refine st (s_loadB 0 rfl rfl rfl) rfl ?_
  refine a_storeB 1 rfl rfl rfl rfl rfl (leN rfl) rfl ?_
  refine Run.nil ?_
  refine pj_then ?_
  refine J_ret ?_
  refine retc1 Tryz.results26 (.cellB 1 rfl rfl rfl (VT.le_refl _))
set_option maxHeartbeats 4000000 in
theorem r8Ints_ok (n m : Nat) (f g : Nat → Int) (hn : n ≤ 1048576) : Ok Tryz.prog 15 [slT .one n (fun q => one (.int .i64 (f q))), slT .one m (fun q => one (.int .i64 (g q)))] (one (.bool (decide (n = m ∧ ∀ i, i < n → f i = g i)))) := by
  refine Ok.enter Tryz.func15 rfl Tryz.ntmps15 rfl (fun w O => ?_)
  by_cases h : n = m
  · subst h
    refine J_seq ?_
    refine J_reg ?_
    refine st (s_assign rfl) rfl ?_
    refine Run.nil ?_
    refine pj_then ?_
    refine J_seq ?_
    refine J_seq ?_
    refine J_reg ?_
    refine st (s_move rfl) rfl ?_
    refine st (s_len rfl) rfl ?_
    refine st (s_move rfl) rfl ?_
    refine st (s_len rfl) rfl ?_
    refine st (sF (by omega) (s_ne rfl rfl)) rfl ?_
    refine Run.nil ?_
    refine pj_then ?_
    refine J_cond0 rfl ?_
    refine J_skip ?_
    refine pj_then ?_
    refine J_seq ?_
    refine J_seq ?_
    refine J_reg ?_
    refine st (s_assign rfl) rfl ?_
    refine Run.nil ?_
    refine pj_then ?_
    refine J_block ?_
    refine J_sub (Γ' := [(0, _), (1, _), (4, _), (5, _)]) (SubG.cons rfl (VT.le_refl _) (SubG.cons rfl (VT.le_refl _) (SubG.cons rfl (VT.le_refl _) (SubG.cons rfl (VT.le_refl _) (SubG.nil))))) (SubM.refl _) ?_
    refine J_loopA (σ := Nat) (Γk := [(0, _), (1, _)]) (SubG.cons rfl (VT.le_refl _) (SubG.cons rfl (VT.le_refl _) (SubG.nil))) (fun i => [(5, one (.int .i64 (i : Nat)))]) (fun i M0 => M0) (fun i => i ≤ n ∧ ∀ q, q < i → f q = g q) (fun i => n - i) (0) (⟨Nat.zero_le _, fun q h => absurd h (Nat.not_lt_zero _)⟩) (by repeat (first | exact SubG.refl _ | exact SubG.nil | refine SubG.cons rfl (VT.le_refl _) ?_ | (refine SubG.cons rfl (one_le ?_) ?_; (congr 1; first | omega | (simp; omega) | simp)))) (.nil) (fun i hi => ?_)
    refine J_norm (Γ' := [(5, _), (0, _), (1, _)]) (M' := []) rfl rfl ?_
    obtain ⟨hi, hq⟩ := hi
    by_cases hin : i < n
    · by_cases he : f i = g i
      · refine J_seq ?_
        refine J_seq ?_
        refine J_reg ?_
        refine st (s_move rfl) rfl ?_
        refine st (s_move rfl) rfl ?_
        refine st (s_len rfl) rfl ?_
        refine st (sT (by omega) (s_lt rfl rfl)) rfl ?_
        refine Run.nil ?_
        refine pj_then ?_
        refine J_cond1 rfl ?_
        refine J_skip ?_
        refine pj_then ?_
        refine J_seq ?_
        refine J_block ?_
        refine J_seq ?_
        refine J_regd 9 mixed (by kernel_rfl) (by decide) ?_
        refine st (s_move rfl) rfl ?_
        refine st (s_move rfl) rfl ?_
        refine st (s_indexIN rfl rfl (by omega)) rfl ?_
        refine st (s_load rfl) rfl ?_
        refine st (s_move rfl) rfl ?_
        refine st (s_move rfl) rfl ?_
        refine st (s_indexIN rfl rfl (by omega)) rfl ?_
        refine st (s_load rfl) rfl ?_
        refine st (sF (by omega) (s_ne rfl rfl)) rfl ?_
        refine Run.nil ?_
        refine Run.nil ?_
        refine pj_then ?_
        refine J_cond0 rfl ?_
        refine J_skip ?_
        refine pn_block ?_
        refine pj_then ?_
        refine J_reg ?_
        refine st (s_move rfl) rfl ?_
        refine st (s_addN _ 1 rfl rfl (by omega)) rfl ?_
        refine st (s_assign rfl) rfl ?_
        refine Run.nil ?_
        refine pj_roundM (i + 1) (⟨hin, fun q h => by by_cases h3 : q = i; exact h3 ▸ he; exact hq q (by omega)⟩) (by omega) (by repeat (first | exact SubG.refl _ | exact SubG.nil | refine SubG.cons rfl (VT.le_refl _) ?_ | (refine SubG.cons rfl (one_le ?_) ?_; (congr 1; first | omega | (simp; omega) | simp)))) (.nil)
      · rw [decide_eq_false (fun h => he (h.2 i hin))]
        refine J_seq ?_
        refine J_seq ?_
        refine J_reg ?_
        refine st (s_move rfl) rfl ?_
        refine st (s_move rfl) rfl ?_
        refine st (s_len rfl) rfl ?_
        refine st (sT (by omega) (s_lt rfl rfl)) rfl ?_
        refine Run.nil ?_
        refine pj_then ?_
        refine J_cond1 rfl ?_
        refine J_skip ?_
        refine pj_then ?_
        refine J_seq ?_
        refine J_block ?_
        refine J_seq ?_
        refine J_regd 9 mixed (by kernel_rfl) (by decide) ?_
        refine st (s_move rfl) rfl ?_
        refine st (s_move rfl) rfl ?_
        refine st (s_indexIN rfl rfl (by omega)) rfl ?_
        refine st (s_load rfl) rfl ?_
        refine st (s_move rfl) rfl ?_
        refine st (s_move rfl) rfl ?_
        refine st (s_indexIN rfl rfl (by omega)) rfl ?_
        refine st (s_load rfl) rfl ?_
        refine st (sT (by assumption) (s_ne rfl rfl)) rfl ?_
        refine Run.nil ?_
        refine Run.nil ?_
        refine pj_then ?_
        refine J_cond1 rfl ?_
        refine J_seq ?_
        refine J_reg ?_
        refine st (s_assign rfl) rfl ?_
        refine Run.nil ?_
        refine pj_then ?_
        refine J_ret ?_
        refine pr_block ?_
        refine pr_then ?_
        refine pr_then ?_
        refine pr_block ?_
        refine pr_then ?_
        refine retc1 Tryz.results15 (.tmp rfl (VT.le_refl _))
    · rw [decide_eq_true ⟨rfl, fun q h => hq q (by omega)⟩]
      refine J_seq ?_
      refine J_seq ?_
      refine J_reg ?_
      refine st (s_move rfl) rfl ?_
      refine st (s_move rfl) rfl ?_
      refine st (s_len rfl) rfl ?_
      refine st (sF (by omega) (s_lt rfl rfl)) rfl ?_
      refine Run.nil ?_
      refine pj_then ?_
      refine J_cond0 rfl ?_
      refine J_exit ?_
      refine px_then ?_
      refine px_then ?_
      refine px_block ?_
      refine pj_then ?_
      refine J_seq ?_
      refine J_reg ?_
      refine st (s_assign rfl) rfl ?_
      refine Run.nil ?_
      refine pj_then ?_
      refine J_ret ?_
      refine retc1 Tryz.results15 (.tmp rfl (VT.le_refl _))
  · rw [decide_eq_false (fun k => h k.1)]
    refine J_seq ?_
    refine J_reg ?_
    refine st (s_assign rfl) rfl ?_
    refine Run.nil ?_
    refine pj_then ?_
    refine J_seq ?_
    refine J_seq ?_
    refine J_reg ?_
    refine st (s_move rfl) rfl ?_
    refine st (s_len rfl) rfl ?_
    refine st (s_move rfl) rfl ?_
    refine st (s_len rfl) rfl ?_
    refine st (sT (by omega) (s_ne rfl rfl)) rfl ?_
    refine Run.nil ?_
    refine pj_then ?_
    refine J_cond1 rfl ?_
    refine J_seq ?_
    refine J_reg ?_
    refine st (s_assign rfl) rfl ?_
    refine Run.nil ?_
    refine pj_then ?_
    refine J_ret ?_
    refine pr_then ?_
    refine retc1 Tryz.results15 (.tmp rfl (VT.le_refl _))
end Tor
end

section
set_option linter.unusedVariables false
set_option linter.unusedSimpArgs false
namespace Tor
open Go Go.RowKit Go.Proofs
theorem tup2_le {φ φ' χ : VT} (h : VT.le φ φ') : VT.le (tupT [φ, χ]) (tupT [φ', χ]) := by
  rintro v g ⟨vs, h1, h2⟩
  refine ⟨vs, h1, ?_⟩
  match vs, h2 with
  | [a, b], ⟨p, q, _⟩ => exact ⟨h _ _ p, q, trivial⟩
attribute [local irreducible] Tor.J Tor.PJ Tor.StepO Tor.one Tor.slT Tor.ptrT Tor.aggT Tor.tupT Tor.exT Tor.andT Tor.eP Tor.boxO Tor.sliO Tor.slV Tor.VT.le Tor.Ret Tor.anyT Tor.xO
attribute [local irreducible] bigT rowF Tor.rowsO
end Tor
end

section
set_option linter.unusedVariables false
set_option linter.unusedSimpArgs false
namespace Tor
open Go Go.RowKit Go.Proofs
def wideF (n : Nat) (F : Nat → Nat → Int) : Nat → Nat → Int := fun i k => if k < n then F i k else (if i = k - n then 1 else 0)
def adjE (n : Nat) (F : Nat → Nat → Int) (e : ElS) : Nat → Nat → Int := fun i j => if e.piv.length < n - 1 then 0 else if e.piv.length < n then cof n F j i else if e.odd then -(e.R i (n + j)) else e.R i (n + j)
theorem lz_wide {n r : Nat} {F : Nat → Nat → Int} (hn : 1 ≤ n) (hF : ∀ i j, lz n (F i j)) : ∀ i j, lz n (wideF r F i j) := fun i j => by
  unfold wideF; split
  · exact hF _ _
  · split
    · exact lz_one hn
    · exact lz_zero _
attribute [local irreducible] Tor.J Tor.PJ Tor.StepO Tor.one Tor.slT Tor.ptrT Tor.aggT Tor.tupT Tor.exT Tor.andT Tor.eP Tor.boxO Tor.sliO Tor.slV Tor.VT.le Tor.Ret Tor.anyT Tor.xO
attribute [local irreducible] bigT rowF Tor.rowsO
set_option maxHeartbeats 4000000 in
theorem AdjugateS_ok (r c : Nat) (F : Nat → Nat → Int) (h : r ≠ c) : Ok Tryz.prog 19 [matF r c F] (tupT [matF 0 0 (fun _ _ => 0), one (.int .i64 50)]) := by
  have hs := square_ok r c F
  rw [decide_eq_false h] at hs
  refine Ok.enter Tryz.func19 rfl Tryz.ntmps19 rfl (fun w O => ?_)
  refine J_seq ?_
  refine J_reg ?_
  refine a_boxS rfl rfl (ltN rfl) (fun b1 => ?_)
  refine a_allocS (T := 28) rfl rfl rfl (fun b2 => ?_)
  refine st (s_assign rfl) rfl ?_
  refine Run.nil ?_
  refine pj_then ?_
  refine J_seq ?_
  refine J_seq ?_
  refine J_reg ?_
  refine st (s_loadW 1 rfl rfl) rfl ?_
  refine st (s_callk (hs ) rfl ⟨VT.le_refl _, trivial⟩) rfl ?_
  refine st (s_not rfl) rfl ?_
  refine Run.nil ?_
  refine pj_then ?_
  refine J_cond1 rfl ?_
  refine J_seq ?_
  refine J_reg ?_
  refine stB rfl rfl rfl ?_
  refine BuildK.nil ?_
  refine a_storeW 0 rfl rfl rfl rfl ?_
  refine st (s_assign rfl) rfl ?_
  refine Run.nil ?_
  refine pj_then ?_
  refine J_ret ?_
  refine pr_then ?_
  refine retc2 Tryz.results19 (.cellW 0 rfl rfl (zero_mat _)) (.tmp rfl (VT.le_refl _))
set_option maxHeartbeats 4000000 in
theorem Adjugate_ok (r : Nat) (F : Nat → Nat → Int) (n : Nat) (hr : r ≤ 1024) (he : elim0 n r) (hF : ∀ i j, lz n (F i j)) : Ok Tryz.prog 19 [matF r r F] (tupT [matF r r (adjE r F (elN r true (wideF r F) r)), one (.int .i64 0)]) := by
  have hs := square_ok r r F
  rw [decide_eq_true rfl] at hs
  have hid := Identity_ok r (by omega)
  have hsm : ∀ i j, small (F i j) := fun i j => (hF i j).small (Nat.le_trans (small_of_elim he) (by decide))
  have hbe := Beside_ok r r F r r (fun i j => if i = j then 1 else 0) (by omega) (by omega) (by omega) hsm (fun i j => by split; exact small_one; exact small_zero)
  rw [decide_eq_true rfl] at hbe
  have hbe' : Ok Tryz.prog 63 [matF r r F, matF r r (fun i j => if i = j then 1 else 0)] (tupT [matF r (r + r) (wideF r F), one (.int .i64 0)]) := by
    unfold resMT at hbe
    rw [if_pos rfl, if_pos rfl, if_pos rfl] at hbe
    exact hbe
  clear hbe
  have hW := lz_wide (r := r) he.1 hF
  have hru := runR_ok r (r + r) r (wideF r F) true n (by omega) (by omega) (by omega) he.1 he.b hW
  obtain ⟨A, V, hE⟩ := Lin.elN_EL r (r + r) true (wideF r F) r (by omega)
  have hok := elN_ok (r := r) true he.1 hW r
  have hpr := hE.gj.pr
  have hcof := fun i j hi hj => cofactor_ok r F i j n hi hj hr he hF
  have hneg := fun d (h : lz 1099511627700 d) => NegI_ok d (h.small (by decide))
  generalize elN r true (wideF r F) r = e at *
  unfold elimT at hru
  generalize hG : adjE r F e = G
  unfold matF at *
  refine Ok.enter Tryz.func19 rfl Tryz.ntmps19 rfl (fun w O => ?_)
  refine J_seq ?_
  refine J_reg ?_
  refine a_boxS rfl rfl (ltN rfl) (fun b1 => ?_)
  refine a_allocS (T := 28) rfl rfl rfl (fun b2 => ?_)
  refine st (s_assign rfl) rfl ?_
  refine Run.nil ?_
  refine pj_then ?_
  refine J_seq ?_
  refine J_seq ?_
  refine J_reg ?_
  refine st (s_loadW 1 rfl rfl) rfl ?_
  refine st (s_callk (hs ) rfl ⟨VT.le_refl _, trivial⟩) rfl ?_
  refine st (s_not rfl) rfl ?_
  refine Run.nil ?_
  refine pj_then ?_
  refine J_cond0 rfl ?_
  refine J_skip ?_
  refine pj_then ?_
  refine J_seq ?_
  refine J_reg ?_
  refine st (s_fieldAddr rfl) rfl ?_
  refine st (s_loadB 1 rfl rfl rfl) rfl ?_
  refine st (s_assign rfl) rfl ?_
  refine Run.nil ?_
  refine pj_then ?_
  refine J_seq ?_
  refine J_regU2 mixed (by kernel_rfl) (by kernel_rfl) ?_
  refine ux (fun B => s_loadW 1 rfl rfl) rfl rfl ?_
  refine ux (fun B => s_move rfl) rfl rfl ?_
  refine uxk (hid ) rfl ⟨VT.le_refl _, trivial⟩ rfl ?_
  refine uxk (hbe' ) rfl ⟨VT.le_refl _, VT.le_refl _, trivial⟩ rfl ?_
  refine ux (fun B => s_move rfl) rfl rfl ?_
  refine ux (fun B => s_extract rfl rfl) rfl rfl ?_
  refine ux (fun B => s_extract rfl rfl) rfl rfl ?_
  refine ua rfl ?_
  refine us rfl ?_
  refine ux (fun B => s_assign rfl) rfl rfl ?_
  refine RunU.nil (fun γ => ?_)
  refine PJ_normM (M' := [_, _, _]) rfl ?_
  refine PJ_sub (SubG.refl _) (.keep box_flat (SubM.refl _)) ?_
  refine pj_then ?_
  refine J_seq ?_
  refine J_reg ?_
  refine st (s_fieldAddr rfl) rfl ?_
  refine st (s_loadB 0 rfl rfl rfl) rfl ?_
  refine st (s_move rfl) rfl ?_
  refine st (s_callk (hru ) rfl ⟨VT.le_refl _, VT.le_refl _, VT.le_refl _, trivial⟩) rfl ?_
  refine st (s_assign rfl) rfl ?_
  refine Run.nil ?_
  refine pj_then ?_
  refine J_seq ?_
  refine J_reg ?_
  refine st (s_move rfl) rfl ?_
  refine st (s_move rfl) rfl ?_
  refine a_callM (New_ok _ _ (by omega) (by omega)) rfl ⟨VT.le_refl _, VT.le_refl _, trivial⟩ rfl rfl (fun s30 => ?_)
  refine a_allocS (T := 28) rfl rfl rfl (fun b8 => ?_)
  refine a_storeW 0 rfl rfl rfl rfl ?_
  refine Run.nil ?_
  refine pj_then ?_
  refine J_seq ?_
  refine J_seq ?_
  refine J_reg ?_
  refine st (s_move rfl) rfl ?_
  refine st (s_nilCheckI rfl) rfl ?_
  refine st (s_fieldI rfl rfl) rfl ?_
  refine st (s_load rfl) rfl ?_
  refine st (s_len rfl) rfl ?_
  refine st (s_move rfl) rfl ?_
  refine st (s_sub rfl rfl (wrap_i64 (by omega) (by omega))) rfl ?_
  refine st (s_lt rfl rfl) rfl ?_
  refine Run.nil ?_
  refine pj_then ?_
  obtain ⟨⟨bs, sv1, cap1⟩, hlen, hsv⟩ := s30
  simp only at hlen hsv
  unfold newT
  dsimp only
  by_cases hp1 : e.piv.length < r - 1
  · have hp1' : (e.piv.length : Int) < (r : Int) - 1 := by omega
    refine J_condT rfl (by assumption) ?_
    refine J_seq ?_
    refine J_reg ?_
    refine st (s_loadW 0 rfl rfl) rfl ?_
    refine a_storeW 4 rfl rfl rfl rfl ?_
    refine st (s_assign rfl) rfl ?_
    refine Run.nil ?_
    refine pj_then ?_
    refine J_ret ?_
    refine pr_then ?_
    refine PJ_open [outO sv1 cap1 r r bs, ownR r bs (fun _ _ => 0)] (perm6 _ _ _ _ _ _) (.keep (EntO.refl _) (.keep (EntO.refl _) (.keep (EntO.box (newT_open hlen ⟨by simp, by simp, by simp⟩)) (.keep (EntO.refl _) .nil)))) (EntG.refl _) ?_
    refine retc2 Tryz.results19 (.cellW 2 rfl rfl ((matF_le fun a b ha hb => by rw [← hG]; unfold adjE; rw [if_pos hp1]))) (.tmp rfl (VT.le_refl _))
  · have hp1' : ¬ (e.piv.length : Int) < (r : Int) - 1 := by omega
    refine J_condF rfl (by assumption) ?_
    refine J_skip ?_
    refine pj_then ?_
    refine J_seq ?_
    refine J_seq ?_
    refine J_reg ?_
    refine st (s_move rfl) rfl ?_
    refine st (s_move rfl) rfl ?_
    refine Run.nil ?_
    refine pj_then ?_
    refine J_block ?_
    refine J_sub (Γ' := [(1, _), (2, _), (3, _), (4, _), (7, _), (8, _), (40, _), (41, _)]) (SubG.cons rfl (VT.le_refl _) (SubG.cons rfl (VT.le_refl _) (SubG.cons rfl (VT.le_refl _) (SubG.cons rfl (VT.le_refl _) (SubG.cons rfl (VT.le_refl _) (SubG.cons rfl (VT.le_refl _) (SubG.cons rfl (VT.le_refl _) (SubG.cons rfl (VT.le_refl _) (SubG.nil))))))))) (SubM.refl _) ?_
    refine J_loopA (σ := Nat) (Γk := [(1, _), (2, _), (3, _), (4, _), (7, _), (8, _), (40, _)]) (SubG.cons rfl (VT.le_refl _) (SubG.cons rfl (VT.le_refl _) (SubG.cons rfl (VT.le_refl _) (SubG.cons rfl (VT.le_refl _) (SubG.cons rfl (VT.le_refl _) (SubG.cons rfl (VT.le_refl _) (SubG.cons rfl (VT.le_refl _) (SubG.nil)))))))) (fun i => [(41, one (.int .i64 (i : Nat)))]) (fun i M0 => (M0.set 2 (ownR r bs (fill2 G i 0)))) (fun i => i ≤ r) (fun i => r - i) (0) (Nat.zero_le _) (by repeat (first | exact SubG.refl _ | exact SubG.nil | refine SubG.cons rfl (VT.le_refl _) ?_ | (refine SubG.cons rfl (one_le ?_) ?_; (congr 1; first | omega | (simp; omega) | simp)))) (.keep (Own.le_refl _) (.keep (Own.le_refl _) (.keep (ownR_le fun i j hi hj => by simp [fill2]) (.keep (Own.le_refl _) (.keep (Own.le_refl _) (.keep (Own.le_refl _) (.nil))))))) (fun i hi => ?_)
    refine J_norm (Γ' := [(41, _), (1, _), (2, _), (3, _), (4, _), (7, _), (8, _), (40, _)]) (M' := [_, _, _, _, _, _]) rfl rfl ?_
    by_cases hi' : i < r
    · obtain ⟨bo, rfl⟩ := sv_some hsv (by omega)
      refine J_seq ?_
      refine J_reg ?_
      refine st (sT (by omega) (s_lt rfl rfl)) rfl ?_
      refine Run.nil ?_
      refine pj_then ?_
      refine J_seq ?_
      refine J_cond1 rfl ?_
      refine J_skip ?_
      refine pj_then ?_
      refine J_seq ?_
      refine J_block ?_
      refine J_seq ?_
      refine J_reg ?_
      refine st (s_move rfl) rfl ?_
      refine st (s_assign rfl) rfl ?_
      refine Run.nil ?_
      refine pj_then ?_
      refine J_seq ?_
      refine J_reg ?_
      refine st (s_move rfl) rfl ?_
      refine st (s_move rfl) rfl ?_
      refine Run.nil ?_
      refine pj_then ?_
      refine J_block ?_
      refine J_sub (Γ' := [(1, _), (2, _), (3, _), (4, _), (7, _), (8, _), (9, _), (40, _), (41, _), (44, _), (45, _)]) (SubG.cons rfl (VT.le_refl _) (SubG.cons rfl (VT.le_refl _) (SubG.cons rfl (VT.le_refl _) (SubG.cons rfl (VT.le_refl _) (SubG.cons rfl (VT.le_refl _) (SubG.cons rfl (VT.le_refl _) (SubG.cons rfl (VT.le_refl _) (SubG.cons rfl (VT.le_refl _) (SubG.cons rfl (VT.le_refl _) (SubG.cons rfl (VT.le_refl _) (SubG.cons rfl (VT.le_refl _) (SubG.nil)))))))))))) (SubM.refl _) ?_
      refine J_loopA (σ := Nat) (Γk := [(1, _), (2, _), (3, _), (4, _), (7, _), (8, _), (9, _), (40, _), (41, _), (44, _)]) (SubG.cons rfl (VT.le_refl _) (SubG.cons rfl (VT.le_refl _) (SubG.cons rfl (VT.le_refl _) (SubG.cons rfl (VT.le_refl _) (SubG.cons rfl (VT.le_refl _) (SubG.cons rfl (VT.le_refl _) (SubG.cons rfl (VT.le_refl _) (SubG.cons rfl (VT.le_refl _) (SubG.cons rfl (VT.le_refl _) (SubG.cons rfl (VT.le_refl _) (SubG.nil))))))))))) (fun j => [(45, one (.int .i64 (j : Nat)))]) (fun j M0 => (M0.set 2 (ownR r bs (fill2 G i j)))) (fun j => j ≤ r) (fun j => r - j) (0) (Nat.zero_le _) (by repeat (first | exact SubG.refl _ | exact SubG.nil | refine SubG.cons rfl (VT.le_refl _) ?_ | (refine SubG.cons rfl (one_le ?_) ?_; (congr 1; first | omega | (simp; omega) | simp)))) (.keep (Own.le_refl _) (.keep (Own.le_refl _) (.keep (Own.le_refl _) (.keep (Own.le_refl _) (.keep (Own.le_refl _) (.keep (Own.le_refl _) (.nil))))))) (fun j hj => ?_)
      refine J_norm (Γ' := [(45, _), (1, _), (2, _), (3, _), (4, _), (7, _), (8, _), (9, _), (40, _), (41, _), (44, _)]) (M' := [_, _, _, _, _, _]) rfl rfl ?_
      by_cases hj' : j < r
      · by_cases hp : e.piv.length < r
        · have hc := hcof j i hj' hi'
          have hv : cof r F j i = G i j := by rw [← hG]; unfold adjE; rw [if_neg hp1, if_pos hp]
          refine J_seq ?_
          refine J_reg ?_
          refine st (sT (by omega) (s_lt rfl rfl)) rfl ?_
          refine Run.nil ?_
          refine pj_then ?_
          refine J_seq ?_
          refine J_cond1 rfl ?_
          refine J_skip ?_
          refine pj_then ?_
          refine J_seq ?_
          refine J_block ?_
          refine J_seq ?_
          refine J_reg ?_
          refine st (s_move rfl) rfl ?_
          refine st (s_assign rfl) rfl ?_
          refine Run.nil ?_
          refine pj_then ?_
          refine J_block ?_
          refine J_seq ?_
          refine J_reg ?_
          refine st (s_move rfl) rfl ?_
          refine st (s_nilCheckI rfl) rfl ?_
          refine st (s_fieldI rfl rfl) rfl ?_
          refine st (s_load rfl) rfl ?_
          refine st (s_len rfl) rfl ?_
          refine st (s_move rfl) rfl ?_
          refine st (sT (by omega) (s_lt rfl rfl)) rfl ?_
          refine st (s_assign rfl) rfl ?_
          refine Run.nil ?_
          refine pj_then ?_
          refine J_cond1 rfl ?_
          refine J_regd 10 mixed (by kernel_rfl) (by decide) ?_
          refine st (s_fieldAddr rfl) rfl ?_
          refine st (s_loadB 0 rfl rfl rfl) rfl ?_
          refine st (s_move rfl) rfl ?_
          refine st (s_indexON rfl rfl (by omega)) rfl ?_
          refine st (s_loadE 1 rfl rfl (by omega)) rfl ?_
          refine st (s_move rfl) rfl ?_
          refine st (s_loadW 5 rfl rfl) rfl ?_
          refine st (s_move rfl) rfl ?_
          refine st (s_move rfl) rfl ?_
          refine st (s_callk (hcof _ _ (by assumption) (by assumption)) rfl ⟨VT.le_refl _, VT.le_refl _, VT.le_refl _, trivial⟩) rfl ?_
          refine Run.nil ?_
          refine st (s_indexON rfl rfl (by omega)) rfl ?_
          (refine a_storeR 2 rfl rfl rfl (getq ?_) ?_ rfl ?_; omega; omega)
          refine Run.nil ?_
          refine pn_block ?_
          refine pn_block ?_
          refine pj_then ?_
          refine J_reg ?_
          refine st (s_addN _ 1 rfl rfl (by omega)) rfl ?_
          refine st (s_move rfl) rfl ?_
          refine Run.nil ?_
          refine pj_roundM (j + 1) (by assumption) (by omega) (by repeat (first | exact SubG.refl _ | exact SubG.nil | refine SubG.cons rfl (VT.le_refl _) ?_ | (refine SubG.cons rfl (one_le ?_) ?_; (congr 1; first | omega | (simp; omega) | simp)))) (.keep (Own.le_refl _) (.keep (Own.le_refl _) (.keep (upd_fill2 _ hv) (.keep (Own.le_refl _) (.keep (Own.le_refl _) (.keep (Own.le_refl _) (.nil)))))))
        · have hp2 : ¬ (e.piv.length : Int) < (r : Int) := by omega
          have hs2 := he.lz hok (hok.R i (r + j))
          unfold rowF
          cases ho : e.odd with
          | true =>
            have hn := hneg _ hs2
            have hv : -(e.R i (r + j)) = G i j := by rw [← hG]; unfold adjE; rw [if_neg hp1, if_neg hp, if_pos ho]
            refine J_seq ?_
            refine J_reg ?_
            refine st (sT (by omega) (s_lt rfl rfl)) rfl ?_
            refine Run.nil ?_
            refine pj_then ?_
            refine J_seq ?_
            refine J_cond1 rfl ?_
            refine J_skip ?_
            refine pj_then ?_
            refine J_seq ?_
            refine J_block ?_
            refine J_seq ?_
            refine J_reg ?_
            refine st (s_move rfl) rfl ?_
            refine st (s_assign rfl) rfl ?_
            refine Run.nil ?_
            refine pj_then ?_
            refine J_block ?_
            refine J_seq ?_
            refine J_reg ?_
            refine st (s_move rfl) rfl ?_
            refine st (s_nilCheckI rfl) rfl ?_
            refine st (s_fieldI rfl rfl) rfl ?_
            refine st (s_load rfl) rfl ?_
            refine st (s_len rfl) rfl ?_
            refine st (s_move rfl) rfl ?_
            refine st (sF (by assumption) (s_lt rfl rfl)) rfl ?_
            refine st (s_assign rfl) rfl ?_
            refine Run.nil ?_
            refine pj_then ?_
            refine J_cond0 rfl ?_
            refine J_seq ?_
            refine J_reg ?_
            refine st (s_move rfl) rfl ?_
            refine st (s_nilCheckI rfl) rfl ?_
            refine st (s_fieldI rfl rfl) rfl ?_
            refine st (s_fieldI rfl rfl) rfl ?_
            refine st (s_load rfl) rfl ?_
            refine st (s_assign rfl) rfl ?_
            refine Run.nil ?_
            refine pj_then ?_
            refine J_cond1 rfl ?_
            refine J_regd 20 mixed (by kernel_rfl) (by decide) ?_
            refine st (s_fieldAddr rfl) rfl ?_
            refine st (s_loadB 0 rfl rfl rfl) rfl ?_
            refine st (s_move rfl) rfl ?_
            refine st (s_indexON rfl rfl (by omega)) rfl ?_
            refine st (s_loadE 1 rfl rfl (by omega)) rfl ?_
            refine st (s_move rfl) rfl ?_
            refine st (s_move rfl) rfl ?_
            refine st (s_nilCheckI rfl) rfl ?_
            refine st (s_fieldI rfl rfl) rfl ?_
            refine st (s_fieldI rfl rfl) rfl ?_
            refine st (s_load rfl) rfl ?_
            refine st (s_move rfl) rfl ?_
            refine st (s_indexIN rfl rfl (by omega)) rfl ?_
            refine st (s_load rfl) rfl ?_
            refine st (s_move rfl) rfl ?_
            refine st (s_move rfl) rfl ?_
            refine st (s_addN _ _ rfl rfl (by omega)) rfl ?_
            refine st (s_indexIN rfl rfl (by omega)) rfl ?_
            refine st (s_load rfl) rfl ?_
            refine st (s_callk (hneg _ (by assumption)) rfl ⟨VT.le_refl _, trivial⟩) rfl ?_
            refine Run.nil ?_
            refine st (s_indexON rfl rfl (by omega)) rfl ?_
            (refine a_storeR 2 rfl rfl rfl (getq ?_) ?_ rfl ?_; omega; omega)
            refine Run.nil ?_
            refine pn_block ?_
            refine pn_block ?_
            refine pj_then ?_
            refine J_reg ?_
            refine st (s_addN _ 1 rfl rfl (by omega)) rfl ?_
            refine st (s_move rfl) rfl ?_
            refine Run.nil ?_
            refine pj_roundM (j + 1) (by assumption) (by omega) (by repeat (first | exact SubG.refl _ | exact SubG.nil | refine SubG.cons rfl (VT.le_refl _) ?_ | (refine SubG.cons rfl (one_le ?_) ?_; (congr 1; first | omega | (simp; omega) | simp)))) (.keep (Own.le_refl _) (.keep (Own.le_refl _) (.keep (upd_fill2 _ hv) (.keep (Own.le_refl _) (.keep (Own.le_refl _) (.keep (Own.le_refl _) (.nil)))))))
          | false =>
            have hv : e.R i (r + j) = G i j := by rw [← hG]; unfold adjE; rw [if_neg hp1, if_neg hp, if_neg (by rw [ho]; decide)]
            refine J_seq ?_
            refine J_reg ?_
            refine st (sT (by omega) (s_lt rfl rfl)) rfl ?_
            refine Run.nil ?_
            refine pj_then ?_
            refine J_seq ?_
            refine J_cond1 rfl ?_
            refine J_skip ?_
            refine pj_then ?_
            refine J_seq ?_
            refine J_block ?_
            refine J_seq ?_
            refine J_reg ?_
            refine st (s_move rfl) rfl ?_
            refine st (s_assign rfl) rfl ?_
            refine Run.nil ?_
            refine pj_then ?_
            refine J_block ?_
            refine J_seq ?_
            refine J_reg ?_
            refine st (s_move rfl) rfl ?_
            refine st (s_nilCheckI rfl) rfl ?_
            refine st (s_fieldI rfl rfl) rfl ?_
            refine st (s_load rfl) rfl ?_
            refine st (s_len rfl) rfl ?_
            refine st (s_move rfl) rfl ?_
            refine st (sF (by assumption) (s_lt rfl rfl)) rfl ?_
            refine st (s_assign rfl) rfl ?_
            refine Run.nil ?_
            refine pj_then ?_
            refine J_cond0 rfl ?_
            refine J_seq ?_
            refine J_reg ?_
            refine st (s_move rfl) rfl ?_
            refine st (s_nilCheckI rfl) rfl ?_
            refine st (s_fieldI rfl rfl) rfl ?_
            refine st (s_fieldI rfl rfl) rfl ?_
            refine st (s_load rfl) rfl ?_
            refine st (s_assign rfl) rfl ?_
            refine Run.nil ?_
            refine pj_then ?_
            refine J_cond0 rfl ?_
            refine J_regd 19 mixed (by kernel_rfl) (by decide) ?_
            refine st (s_fieldAddr rfl) rfl ?_
            refine st (s_loadB 0 rfl rfl rfl) rfl ?_
            refine st (s_move rfl) rfl ?_
            refine st (s_indexON rfl rfl (by omega)) rfl ?_
            refine st (s_loadE 1 rfl rfl (by omega)) rfl ?_
            refine st (s_move rfl) rfl ?_
            refine st (s_move rfl) rfl ?_
            refine st (s_nilCheckI rfl) rfl ?_
            refine st (s_fieldI rfl rfl) rfl ?_
            refine st (s_fieldI rfl rfl) rfl ?_
            refine st (s_load rfl) rfl ?_
            refine st (s_move rfl) rfl ?_
            refine st (s_indexIN rfl rfl (by omega)) rfl ?_
            refine st (s_load rfl) rfl ?_
            refine st (s_move rfl) rfl ?_
            refine st (s_move rfl) rfl ?_
            refine st (s_addN _ _ rfl rfl (by omega)) rfl ?_
            refine st (s_indexIN rfl rfl (by omega)) rfl ?_
            refine st (s_load rfl) rfl ?_
            refine Run.nil ?_
            refine st (s_indexON rfl rfl (by omega)) rfl ?_
            (refine a_storeR 2 rfl rfl rfl (getq ?_) ?_ rfl ?_; omega; omega)
            refine Run.nil ?_
            refine pn_block ?_
            refine pn_block ?_
            refine pj_then ?_
            refine J_reg ?_
            refine st (s_addN _ 1 rfl rfl (by omega)) rfl ?_
            refine st (s_move rfl) rfl ?_
            refine Run.nil ?_
            refine pj_roundM (j + 1) (by assumption) (by omega) (by repeat (first | exact SubG.refl _ | exact SubG.nil | refine SubG.cons rfl (VT.le_refl _) ?_ | (refine SubG.cons rfl (one_le ?_) ?_; (congr 1; first | omega | (simp; omega) | simp)))) (.keep (Own.le_refl _) (.keep (Own.le_refl _) (.keep (upd_fill2 _ hv) (.keep (Own.le_refl _) (.keep (Own.le_refl _) (.keep (Own.le_refl _) (.nil)))))))
      · have hjr : j = r := by omega
        subst hjr
        refine J_seq ?_
        refine J_reg ?_
        refine st (sF (by omega) (s_lt rfl rfl)) rfl ?_
        refine Run.nil ?_
        refine pj_then ?_
        refine J_seq ?_
        refine J_cond0 rfl ?_
        refine J_exit ?_
        refine px_then ?_
        refine px_then ?_
        refine px_block ?_
        refine pn_block ?_
        refine pj_then ?_
        refine J_reg ?_
        refine st (s_addN _ 1 rfl rfl (by omega)) rfl ?_
        refine st (s_move rfl) rfl ?_
        refine Run.nil ?_
        refine pj_roundM (i + 1) (by assumption) (by omega) (by repeat (first | exact SubG.refl _ | exact SubG.nil | refine SubG.cons rfl (VT.le_refl _) ?_ | (refine SubG.cons rfl (one_le ?_) ?_; (congr 1; first | omega | (simp; omega) | simp)))) (.keep (Own.le_refl _) (.keep (Own.le_refl _) (.keep (next_fill2) (.keep (Own.le_refl _) (.keep (Own.le_refl _) (.keep (Own.le_refl _) (.nil)))))))
    · have hir : i = r := by omega
      subst hir
      refine J_seq ?_
      refine J_reg ?_
      refine st (sF (by omega) (s_lt rfl rfl)) rfl ?_
      refine Run.nil ?_
      refine pj_then ?_
      refine J_seq ?_
      refine J_cond0 rfl ?_
      refine J_exit ?_
      refine px_then ?_
      refine px_then ?_
      refine px_block ?_
      refine pj_then ?_
      refine J_seq ?_
      refine J_reg ?_
      refine st (s_loadW 0 rfl rfl) rfl ?_
      refine a_storeW 4 rfl rfl rfl rfl ?_
      refine st (s_assign rfl) rfl ?_
      refine Run.nil ?_
      refine pj_then ?_
      refine J_ret ?_
      refine PJ_open [outO sv1 cap1 i i bs, ownR i bs (fill2 G i 0)] (perm6 _ _ _ _ _ _) (.keep (EntO.refl _) (.keep (EntO.refl _) (.keep (EntO.box (newT_open hlen ⟨by simp, by simp, by simp⟩)) (.keep (EntO.refl _) .nil)))) (EntG.refl _) ?_
      refine retc2 Tryz.results19 (.cellW 2 rfl rfl ((matF_le fun a b ha hb => by simp [fill2, ha]))) (.tmp rfl (VT.le_refl _))
end Tor
end

section
set_option linter.unusedVariables false
set_option linter.unusedSimpArgs false
namespace Tor
open Go Go.RowKit Go.Proofs
def intsF (c : Nat) (l : List Int) : Nat → Nat → Int := fun i j => l.getD (i * c + j) 0
def IN (r c : Nat) (l : List Int) : VT := matF r c (intsF c l)
theorem vec_le (l : List Int) : VT.le (slT (.agg 2) l.length (fun q => (l.map bigT).getD q anyT)) (rowF l.length (fun j => l.getD j 0)) := by
  unfold rowF
  refine slT_le fun i hi => ?_
  simp only [List.getD, List.getElem?_map, List.getElem?_eq_getElem hi, Option.map_some, Option.getD_some]
  exact VT.le_refl _
theorem i64_ints {l : List Int} (h : (l.all fun x => decide (-9223372036854775808 ≤ x) && decide (x ≤ 9223372036854775807)) = true) : ∀ x ∈ l, -9223372036854775808 ≤ x ∧ x ≤ 9223372036854775807 := fun x hx => by
  have := List.all_eq_true.1 h x hx
  simpa using this
theorem rSameF_ok (r c r' c' : Nat) (F G : Nat → Nat → Int) (hr : r ≤ 1048576) : Ok Tryz.prog 22 [matF r c F, matF r' c' G] (one (.bool (decide ((r : Int) = r' ∧ (c : Int) = c' ∧ tab r c F = tab r' c' G)))) :=
  (rSameMat_ok r c r' c' (tab r c F) (tab r' c' G) (by simp; omega)).le ⟨matF_mat _ _ _, matF_mat _ _ _, trivial⟩ (VT.le_refl _)
theorem ints_ok (r c : Nat) (l : List Int) (hr : r ≤ 1048576) (hc : c ≤ 1048576) (h : (l.all fun x => decide (-9223372036854775808 ≤ x) && decide (x ≤ 9223372036854775807)) = true) : Ok Tryz.prog 38 [one (.int .i64 r), one (.int .i64 c), numT .i64 l] (IN r c l) := rInts_ok r c l hr hc (i64_ints h)
end Tor
end

section
set_option linter.unusedVariables false
set_option linter.unusedSimpArgs false
namespace Tor
open Go Go.RowKit Go.Proofs
theorem lzL {l : List Int} (h : (l.all fun x => decide (x.natAbs < 4294967296)) = true) (k : Nat) : lz 1 (l.getD k 0) := by
  refine digs_len_le (k := 1) ?_
  rw [Nat.pow_one]
  by_cases hk : k < l.length
  · have := List.all_eq_true.1 h (l.getD k 0) (by simp [List.getD, hk])
    exact of_decide_eq_true this
  · have : l.getD k 0 = 0 := by simp [List.getD, Nat.le_of_not_lt hk]
    rw [this]; decide
abbrev numV (l : List Int) : VT := slT .one l.length (fun q => one (.int .i64 (l.getD q 0)))
theorem numV_le (l : List Int) : VT.le (slT .one l.length (fun q => (l.map fun x => one (.int .i64 x)).getD q anyT)) (numV l) := by
  refine slT_le fun i hi => ?_
  simp only [List.getD, List.getElem?_map, List.getElem?_eq_getElem hi, Option.map_some, Option.getD_some]
  exact VT.le_refl _
theorem numV1_le (x : Int) : VT.le (slT .one 1 (fun _ => one (.int .i64 x))) (numV [x]) := slT_le' rfl fun q hq => by
  have hq : q < 1 := hq
  rw [show q = 0 by omega]; rfl
theorem pivT_num {l : List Nat} {m : List Int} (h : l.map (fun x : Nat => (x : Int)) = m) : VT.le (pivT l) (numV m) := by
  subst h
  refine slT_le' (by simp) (fun q hq => ?_)
  show one (Value.int .i64 ((l.getD q 0 : Nat) : Int)) = one (Value.int .i64 ((l.map fun x : Nat => (x : Int)).getD q 0))
  simp [List.getD, hq]
theorem newL_eq {r w c : Nat} (F : Nat → Nat → Int) (h : c ≤ w) : Lin.newL r w F c = (elN r false F c).piv := by
  obtain ⟨A, V, hE⟩ := Lin.elN_EL r w false F c h
  exact hE.pl.symm
theorem tup3_le {φ φ' ψ ψ' χ : VT} (h : VT.le φ φ') (k : VT.le ψ ψ') : VT.le (tupT [φ, ψ, χ]) (tupT [φ', ψ', χ]) := by
  rintro v g ⟨vs, h1, h2⟩
  refine ⟨vs, h1, ?_⟩
  match vs, h2 with
  | [a, b, c], ⟨p, q, r, _⟩ => exact ⟨h _ _ p, k _ _ q, r, trivial⟩
theorem ratS_le {n : Nat} {f g : Nat → Rat} (h : ∀ i, i < n → f i = g i) : VT.le (slT (.agg 4) n (fun i => ratT (f i))) (ratF n g) := ratF_le h
attribute [local irreducible] Tor.J Tor.PJ Tor.StepO Tor.one Tor.slT Tor.ptrT Tor.aggT Tor.tupT Tor.exT Tor.andT Tor.eP Tor.boxO Tor.sliO Tor.slV Tor.VT.le Tor.Ret Tor.anyT Tor.xO
attribute [local irreducible] bigT ratT
set_option maxHeartbeats 4000000 in
theorem halves_ok (l : List Int) (hl : l.length ≤ 1024) (h : (l.all fun x => decide (-9223372036854775808 ≤ x) && decide (x ≤ 9223372036854775807)) = true) : Ok Tryz.prog 41 [numV l] (ratF l.length (fun i => Rat.divInt (l.getD i 0) 2)) := by
  unfold ratF
  refine Ok.enter Tryz.func41 rfl Tryz.ntmps41 rfl (fun w O => ?_)
  refine J_seq ?_
  refine J_reg ?_
  refine st (s_assign rfl) rfl ?_
  refine Run.nil ?_
  refine pj_then ?_
  refine J_seq ?_
  refine J_reg ?_
  refine stSO (n := 0) rfl rfl rfl rfl rfl ?_
  refine PartsK.nil (fun bl => ?_)
  refine st (s_assign rfl) rfl ?_
  refine Run.nil ?_
  refine pj_then ?_
  refine J_seq ?_
  refine J_seq ?_
  refine J_reg ?_
  refine st (s_assign rfl) rfl ?_
  refine Run.nil ?_
  refine pj_then ?_
  refine J_block ?_
  refine J_sub (Γ' := [(0, _), (2, _), (3, _), (4, _)]) (SubG.cons rfl (VT.le_refl _) (SubG.cons rfl (VT.le_refl _) (SubG.cons rfl (VT.le_refl _) (SubG.cons rfl (VT.le_refl _) (SubG.nil))))) (SubM.refl _) ?_
  refine J_loopA (σ := Nat × Option Nat × Nat) (Γk := [(0, _), (2, _)]) (SubG.cons rfl (VT.le_refl _) (SubG.cons rfl (VT.le_refl _) (SubG.nil))) (fun s => [(4, one (.int .i64 (s.1 : Nat))), (3, one (slV s.2.1 s.1 s.2.2))]) (fun s M0 => (M0.set 0 (sliO s.2.1 63 (.agg 4) s.2.2 s.1 (fun q => ratT (Rat.divInt (l.getD q 0) 2))))) (fun s => s.1 ≤ l.length) (fun s => l.length - s.1) ((0, some bl, 0)) (Nat.zero_le _) (by repeat (first | exact SubG.refl _ | exact SubG.nil | refine SubG.cons rfl (VT.le_refl _) ?_ | (refine SubG.cons rfl (one_le ?_) ?_; (congr 1; first | omega | (simp; omega) | simp)))) (.keep (sliO_eq (fun q hq => absurd hq (Nat.not_lt_zero _))) (.nil)) (fun s hs => ?_)
  refine J_norm (Γ' := [(4, _), (3, _), (0, _), (2, _)]) (M' := [_]) rfl rfl ?_
  obtain ⟨i, sv, cap⟩ := s
  dsimp only at hs ⊢
  by_cases hi : i < l.length
  · have hx := List.all_eq_true.1 h (l.getD i 0) (by simp [List.getD, hi])
    simp only [Bool.and_eq_true, decide_eq_true_eq] at hx
    have hm := rqMade_ok (l.getD i 0) 2 (by decide) hx.1 hx.2 (by decide) (by decide)
    refine J_seq ?_
    refine J_seq ?_
    refine J_reg ?_
    refine st (s_move rfl) rfl ?_
    refine st (s_move rfl) rfl ?_
    refine st (s_len rfl) rfl ?_
    refine st (sT (by omega) (s_lt rfl rfl)) rfl ?_
    refine Run.nil ?_
    refine pj_then ?_
    refine J_cond1 rfl ?_
    refine J_skip ?_
    refine pj_then ?_
    refine J_seq ?_
    refine J_block ?_
    refine J_reg ?_
    refine st (s_move rfl) rfl ?_
    refine st (s_move rfl) rfl ?_
    refine st (s_move rfl) rfl ?_
    refine st (s_indexIN rfl rfl (by omega)) rfl ?_
    refine st (s_load rfl) rfl ?_
    refine st (s_callk (hm ) rfl ⟨VT.le_refl _, VT.le_refl _, trivial⟩) rfl ?_
    refine stS1 rfl rfl rfl rfl ?_
    (refine a_append 0 rfl rfl rfl (leN rfl) ?_ ?_ rfl (ltN rfl) (fun sv19 cap19 => ?_); omega; omega)
    refine st (s_assign rfl) rfl ?_
    refine Run.nil ?_
    refine pn_block ?_
    refine pj_then ?_
    refine J_reg ?_
    refine st (s_move rfl) rfl ?_
    refine st (s_addN _ 1 rfl rfl (by omega)) rfl ?_
    refine st (s_assign rfl) rfl ?_
    refine Run.nil ?_
    refine pj_roundM ((i + 1, sv19, cap19)) (hi) (by omega) (by repeat (first | exact SubG.refl _ | exact SubG.nil | refine SubG.cons rfl (VT.le_refl _) ?_ | (refine SubG.cons rfl (one_le ?_) ?_; (congr 1; first | omega | (simp; omega) | simp)))) (.keep (rat_snoc (h := fun q => Rat.divInt (l.getD q 0) 2) rfl) (.nil))
  · have he : i = l.length := by omega
    rw [he]
    refine J_seq ?_
    refine J_seq ?_
    refine J_reg ?_
    refine st (s_move rfl) rfl ?_
    refine st (s_move rfl) rfl ?_
    refine st (s_len rfl) rfl ?_
    refine st (sF (by omega) (s_lt rfl rfl)) rfl ?_
    refine Run.nil ?_
    refine pj_then ?_
    refine J_cond0 rfl ?_
    refine J_exit ?_
    refine px_then ?_
    refine px_then ?_
    refine px_block ?_
    refine pj_then ?_
    refine J_seq ?_
    refine J_reg ?_
    refine st (s_move rfl) rfl ?_
    refine st (s_assign rfl) rfl ?_
    refine Run.nil ?_
    refine pj_then ?_
    refine J_ret ?_
    refine PJ_freeze (t := 2) (i := 0) rfl rfl ?_
    refine retc1 Tryz.results41 (.tmp rfl (VT.le_refl _))
theorem rNewF_ok (r c : Nat) (hr : r ≤ 1048576) (hc : c ≤ 1048576) : Ok Tryz.prog 39 [one (.int .i64 r), one (.int .i64 c)] (matF r c (fun _ _ => 0)) := (rNew_ok r c hr hc).ok fun s => newT_mat _ s
theorem rqListF_ok (n m : Nat) (l k : Nat → Rat) (hn : n ≤ 1048576) : Ok Tryz.prog 16 [ratF n l, ratF m k] (one (.bool (decide (n = m ∧ ∀ i, i < n → l i = k i)))) := rqList_ok n m l k hn
attribute [local irreducible] matF rowF ratF
set_option maxRecDepth 20000 in
set_option maxHeartbeats 20000000 in
theorem sanity_ok : Ok Tryz.prog 7 [] (one (.bool true)) := by
  have i1 : Ok Tryz.prog 38 [one (.int .i64 (2 : Nat)), one (.int .i64 (2 : Nat)), numT .i64 [1, 2, 3, 4]] (matF 2 2 (intsF 2 [1, 2, 3, 4])) := ints_ok 2 2 [1, 2, 3, 4] (by decide) (by decide) (by decide)
  have i2 : Ok Tryz.prog 38 [one (.int .i64 (1 : Nat)), one (.int .i64 (2 : Nat)), numT .i64 [1, 1]] (matF 1 2 (intsF 2 [1, 1])) := ints_ok 1 2 [1, 1] (by decide) (by decide) (by decide)
  have i3 : Ok Tryz.prog 38 [one (.int .i64 (4 : Nat)), one (.int .i64 (2 : Nat)), numT .i64 [0, 0, 0, 2, 0, 3, 1, 1]] (matF 4 2 (intsF 2 [0, 0, 0, 2, 0, 3, 1, 1])) := ints_ok 4 2 [0, 0, 0, 2, 0, 3, 1, 1] (by decide) (by decide) (by decide)
  have i4 : Ok Tryz.prog 38 [one (.int .i64 (2 : Nat)), one (.int .i64 (2 : Nat)), numT .i64 [2, 4, 1, 2]] (matF 2 2 (intsF 2 [2, 4, 1, 2])) := ints_ok 2 2 [2, 4, 1, 2] (by decide) (by decide) (by decide)
  have i5 : Ok Tryz.prog 38 [one (.int .i64 (1 : Nat)), one (.int .i64 (1 : Nat)), numT .i64 [5]] (matF 1 1 (intsF 1 [5])) := ints_ok 1 1 [5] (by decide) (by decide) (by decide)
  have i6 : Ok Tryz.prog 38 [one (.int .i64 (2 : Nat)), one (.int .i64 (2 : Nat)), numT .i64 [4, -2, -3, 1]] (matF 2 2 (intsF 2 [4, -2, -3, 1])) := ints_ok 2 2 [4, -2, -3, 1] (by decide) (by decide) (by decide)
  have i7 : Ok Tryz.prog 38 [one (.int .i64 (1 : Nat)), one (.int .i64 (1 : Nat)), numT .i64 [1]] (matF 1 1 (intsF 1 [1])) := ints_ok 1 1 [1] (by decide) (by decide) (by decide)
  have d1 := Det_ok 2 (intsF 2 [1, 2, 3, 4]) 1 (by decide) ⟨by decide, by decide⟩ (fun i j => lzL (by decide) _)
  rw [show Lin.detZ 2 (intsF 2 [1, 2, 3, 4]) = -2 by decide +kernel] at d1
  have d2 := Det_ok 0 (fun _ _ => 0) 1 (by decide) ⟨by decide, by decide⟩ (fun i j => lz_zero 1)
  rw [show Lin.detZ 0 (fun _ _ => 0) = 1 by decide +kernel] at d2
  have d3 := DetS_ok 1 2 (intsF 2 [1, 1]) (by decide)
  have r1 := Rank_ok 4 2 (intsF 2 [0, 0, 0, 2, 0, 3, 1, 1]) 1 (by decide) (by decide) ⟨by decide, by decide⟩ ⟨by decide, by decide⟩ (fun i j => lzL (by decide) _)
  have s1 := Solve_ok 2 2 (intsF 2 [2, 4, 1, 2]) (fun j => [1, 2].getD j 0) 1 (by decide) (by decide) ⟨by decide, by decide⟩ (fun i j => lzL (by decide) _) (fun j => lzL (by decide) _)
  have s2 := Solve_ok 1 2 (intsF 2 [1, 1]) (fun j => [1, 2].getD j 0) 1 (by decide) (by decide) ⟨by decide, by decide⟩ (fun i j => lzL (by decide) _) (fun j => lzL (by decide) _)
  rw [newL_eq _ (by decide), newL_eq _ (by decide), show (elN 2 false (fun i j => intsF 2 [0, 0, 0, 2, 0, 3, 1, 1] j i) 4).piv = [1, 3] by decide +kernel, show (elN 4 false (intsF 2 [0, 0, 0, 2, 0, 3, 1, 1]) 2).piv = [0, 1] by decide +kernel] at r1
  rw [show firstP (elN 2 true (eqS 2 (intsF 2 [2, 4, 1, 2]) (fun j => [1, 2].getD j 0)) 2).R 2 (elN 2 true (eqS 2 (intsF 2 [2, 4, 1, 2]) (fun j => [1, 2].getD j 0)) 2).piv.length 2 = none by decide +kernel] at s1
  have s1' := s1.le (leAll_refl _) (tup3_le (ratS_le (g := fun i => Rat.divInt ([1, 0].getD i 0) 2) (by decide +kernel)) (VT.le_refl _))
  rw [show firstP (elN 2 true (eqS 1 (intsF 2 [1, 1]) (fun j => [1, 2].getD j 0)) 1).R 1 (elN 2 true (eqS 1 (intsF 2 [1, 1]) (fun j => [1, 2].getD j 0)) 1).piv.length 2 = some 1 by decide +kernel] at s2
  have s2' := s2.le (leAll_refl _) (tup3_le (VT.le_refl _) (ratS_le (g := fun i => Rat.divInt ([-2, 2].getD i 0) 2) (by decide +kernel)))
  clear s1 s2
  have a1 := Adjugate_ok 2 (intsF 2 [1, 2, 3, 4]) 1 (by decide) ⟨by decide, by decide⟩ (fun i j => lzL (by decide) _)
  have a2 := Adjugate_ok 1 (intsF 1 [5]) 1 (by decide) ⟨by decide, by decide⟩ (fun i j => lzL (by decide) _)
  have a3 := AdjugateS_ok 1 2 (intsF 2 [1, 1]) (by decide)
  refine Ok.enter Tryz.func7 rfl Tryz.ntmps7 rfl (fun w O => ?_)
  have hh1 := halves_ok [1, 0] (by decide) (by decide)
  have hh2 := halves_ok [-2, 2] (by decide) (by decide)
  have hl1 := rqListF_ok 2 2 (fun i => Rat.divInt ([1, 0].getD i 0) 2) (fun i => Rat.divInt ([1, 0].getD i 0) 2) (by decide)
  have hl2 := rqListF_ok 2 2 (fun i => Rat.divInt ([-2, 2].getD i 0) 2) (fun i => Rat.divInt ([-2, 2].getD i 0) 2) (by decide)
  have hn1 := r8Ints_ok 2 2 (fun q => ([1, 3] : List Int).getD q 0) (fun q => ([1, 3] : List Int).getD q 0) (by decide)
  have hn2 := r8Ints_ok 2 2 (fun q => ([0, 1] : List Int).getD q 0) (fun q => ([0, 1] : List Int).getD q 0) (by decide)
  rw [decide_eq_true ⟨rfl, fun i _ => rfl⟩] at hl1 hl2 hn1 hn2
  refine J_seq ?_
  refine J_reg ?_
  refine st (s_assign rfl) rfl ?_
  refine Run.nil ?_
  refine pj_then ?_
  refine J_seq ?_
  refine J_reg ?_
  refine stS rfl rfl rfl rfl ?_
  refine PartsK.cons rfl ?_
  refine PartsK.cons rfl ?_
  refine PartsK.cons rfl ?_
  refine PartsK.cons rfl ?_
  refine PartsK.nil ?_
  refine st (s_callk (i1 ) rfl ⟨VT.le_refl _, VT.le_refl _, (numV_le [1, 2, 3, 4]), trivial⟩) rfl ?_
  refine stS rfl rfl rfl rfl ?_
  refine PartsK.cons rfl ?_
  refine PartsK.cons rfl ?_
  refine PartsK.nil ?_
  refine st (s_callk (i2 ) rfl ⟨VT.le_refl _, VT.le_refl _, (numV_le [1, 1]), trivial⟩) rfl ?_
  refine a_allocS (T := 28) rfl rfl rfl (fun b1 => ?_)
  refine a_allocS (T := 28) rfl rfl rfl (fun b2 => ?_)
  refine a_storeV 1 rfl rfl rfl rfl ?_
  refine a_storeV 0 rfl rfl rfl rfl ?_
  refine Run.nil ?_
  refine pj_then ?_
  refine J_seq ?_
  refine J_reg ?_
  refine st (s_loadB 1 rfl rfl rfl) rfl ?_
  refine st (s_callk (d1 ) rfl ⟨VT.le_refl _, trivial⟩) rfl ?_
  refine st (s_move rfl) rfl ?_
  refine st (s_extract rfl rfl) rfl ?_
  refine st (s_extract rfl rfl) rfl ?_
  refine a_alloc (T := 43) rfl (ltN rfl) (fun b3 => ?_)
  refine a_storeB 0 rfl rfl rfl rfl rfl (leN rfl) rfl ?_
  refine st (s_assign rfl) rfl ?_
  refine Run.nil ?_
  refine pj_then ?_
  refine J_seq ?_
  refine J_reg ?_
  refine st (s_callk (rNewF_ok _ _ (by decide) (by decide)) rfl ⟨VT.le_refl _, VT.le_refl _, trivial⟩) rfl ?_
  refine st (s_callk (d2 ) rfl ⟨VT.le_refl _, trivial⟩) rfl ?_
  refine st (s_move rfl) rfl ?_
  refine st (s_extract rfl rfl) rfl ?_
  refine st (s_extract rfl rfl) rfl ?_
  refine a_alloc (T := 43) rfl (ltN rfl) (fun b5 => ?_)
  refine a_storeB 0 rfl rfl rfl rfl rfl (leN rfl) rfl ?_
  refine st (s_assign rfl) rfl ?_
  refine Run.nil ?_
  refine pj_then ?_
  refine J_seq ?_
  refine J_reg ?_
  refine st (s_loadB 2 rfl rfl rfl) rfl ?_
  refine st (s_callk (d3 ) rfl ⟨VT.le_refl _, trivial⟩) rfl ?_
  refine st (s_move rfl) rfl ?_
  refine st (s_extract rfl rfl) rfl ?_
  refine st (s_extract rfl rfl) rfl ?_
  refine a_alloc (T := 43) rfl (ltN rfl) (fun b7 => ?_)
  refine a_storeB 0 rfl rfl rfl rfl rfl (leN rfl) rfl ?_
  refine st (s_assign rfl) rfl ?_
  refine Run.nil ?_
  refine pj_then ?_
  refine J_seq ?_
  refine J_reg ?_
  refine stS rfl rfl rfl rfl ?_
  refine PartsK.cons rfl ?_
  refine PartsK.cons rfl ?_
  refine PartsK.cons rfl ?_
  refine PartsK.cons rfl ?_
  refine PartsK.cons rfl ?_
  refine PartsK.cons rfl ?_
  refine PartsK.cons rfl ?_
  refine PartsK.cons rfl ?_
  refine PartsK.nil ?_
  refine st (s_callk (i3 ) rfl ⟨VT.le_refl _, VT.le_refl _, (numV_le [0, 0, 0, 2, 0, 3, 1, 1]), trivial⟩) rfl ?_
  refine st (s_callk (r1 ) rfl ⟨VT.le_refl _, trivial⟩) rfl ?_
  refine st (s_move rfl) rfl ?_
  refine st (s_extract rfl rfl) rfl ?_
  refine st (s_extract rfl rfl) rfl ?_
  refine st (s_assign rfl) rfl ?_
  refine st (s_assign rfl) rfl ?_
  refine Run.nil ?_
  refine pj_then ?_
  refine J_seq ?_
  refine J_reg ?_
  refine stS rfl rfl rfl rfl ?_
  refine PartsK.cons rfl ?_
  refine PartsK.cons rfl ?_
  refine PartsK.cons rfl ?_
  refine PartsK.cons rfl ?_
  refine PartsK.nil ?_
  refine st (s_callk (i4 ) rfl ⟨VT.le_refl _, VT.le_refl _, (numV_le [2, 4, 1, 2]), trivial⟩) rfl ?_
  refine st (s_callk (rOf_ok _ (by omega) (by omega)) rfl ⟨VT.le_refl _, trivial⟩) rfl ?_
  refine st (s_callk (rOf_ok _ (by omega) (by omega)) rfl ⟨VT.le_refl _, trivial⟩) rfl ?_
  refine stS rfl rfl rfl rfl ?_
  refine PartsK.cons rfl ?_
  refine PartsK.cons rfl ?_
  refine PartsK.nil ?_
  refine st (s_callk (s1' ) rfl ⟨VT.le_refl _, (vec_le [1, 2]), trivial⟩) rfl ?_
  refine st (s_move rfl) rfl ?_
  refine st (s_extract rfl rfl) rfl ?_
  refine st (s_extract rfl rfl) rfl ?_
  refine st (s_extract rfl rfl) rfl ?_
  refine st (s_assign rfl) rfl ?_
  refine st (s_assign rfl) rfl ?_
  refine st (s_assign rfl) rfl ?_
  refine Run.nil ?_
  refine pj_then ?_
  refine J_seq ?_
  refine J_regd 11 mixed (by kernel_rfl) (by decide) ?_
  refine st (s_loadB 3 rfl rfl rfl) rfl ?_
  refine st (s_callk (rOf_ok _ (by omega) (by omega)) rfl ⟨VT.le_refl _, trivial⟩) rfl ?_
  refine st (s_callk (rOf_ok _ (by omega) (by omega)) rfl ⟨VT.le_refl _, trivial⟩) rfl ?_
  refine stS rfl rfl rfl rfl ?_
  refine PartsK.cons rfl ?_
  refine PartsK.cons rfl ?_
  refine PartsK.nil ?_
  refine st (s_callk (s2' ) rfl ⟨VT.le_refl _, (vec_le [1, 2]), trivial⟩) rfl ?_
  refine st (s_move rfl) rfl ?_
  refine st (s_extract rfl rfl) rfl ?_
  refine st (s_extract rfl rfl) rfl ?_
  refine st (s_extract rfl rfl) rfl ?_
  refine st (s_assign rfl) rfl ?_
  refine st (s_assign rfl) rfl ?_
  refine Run.nil ?_
  refine st (s_assign rfl) rfl ?_
  refine Run.nil ?_
  refine pj_then ?_
  refine J_seq ?_
  refine J_reg ?_
  refine st (s_loadB 4 rfl rfl rfl) rfl ?_
  refine st (s_callk (a1 ) rfl ⟨VT.le_refl _, trivial⟩) rfl ?_
  refine st (s_move rfl) rfl ?_
  refine st (s_extract rfl rfl) rfl ?_
  refine st (s_extract rfl rfl) rfl ?_
  refine a_allocS (T := 28) rfl rfl rfl (fun b17 => ?_)
  refine a_storeV 0 rfl rfl rfl rfl ?_
  refine st (s_assign rfl) rfl ?_
  refine Run.nil ?_
  refine pj_then ?_
  refine J_seq ?_
  refine J_reg ?_
  refine stS1 rfl rfl rfl rfl ?_
  refine st (s_callk (i5 ) rfl ⟨VT.le_refl _, VT.le_refl _, (numV1_le 5), trivial⟩) rfl ?_
  refine st (s_callk (a2 ) rfl ⟨VT.le_refl _, trivial⟩) rfl ?_
  refine st (s_move rfl) rfl ?_
  refine st (s_extract rfl rfl) rfl ?_
  refine st (s_extract rfl rfl) rfl ?_
  refine a_allocS (T := 28) rfl rfl rfl (fun b19 => ?_)
  refine a_storeV 0 rfl rfl rfl rfl ?_
  refine st (s_assign rfl) rfl ?_
  refine Run.nil ?_
  refine pj_then ?_
  refine J_seq ?_
  refine J_reg ?_
  refine st (s_loadB 5 rfl rfl rfl) rfl ?_
  refine st (s_callk (a3 ) rfl ⟨VT.le_refl _, trivial⟩) rfl ?_
  refine st (s_move rfl) rfl ?_
  refine st (s_extract rfl rfl) rfl ?_
  refine st (s_extract rfl rfl) rfl ?_
  refine a_allocS (T := 28) rfl rfl rfl (fun b21 => ?_)
  refine a_storeV 0 rfl rfl rfl rfl ?_
  refine st (s_assign rfl) rfl ?_
  refine Run.nil ?_
  refine pj_then ?_
  refine J_seq ?_
  refine J_regd 20 mixed (by kernel_rfl) (by decide) ?_
  refine st (s_move rfl) rfl ?_
  refine st (sT (by omega) (s_eq rfl rfl)) rfl ?_
  refine st (s_move rfl) rfl ?_
  refine sg1 rfl rfl (s_loadB 5 rfl rfl rfl) rfl ?_
  refine sg1 rfl rfl (s_callk (rOf_ok _ (by omega) (by omega)) rfl ⟨VT.le_refl _, trivial⟩) rfl ?_
  refine sg1 rfl rfl (sT (by omega) (s_callk (rSame_ok _ _) rfl ⟨VT.le_refl _, VT.le_refl _, trivial⟩)) rfl ?_
  refine st (s_pickT rfl rfl) rfl ?_
  refine st (s_move rfl) rfl ?_
  refine sg1 rfl rfl (s_move rfl) rfl ?_
  refine sg1 rfl rfl (sT (by omega) (s_eq rfl rfl)) rfl ?_
  refine st (s_pickT rfl rfl) rfl ?_
  refine st (s_move rfl) rfl ?_
  refine sg1 rfl rfl (s_loadB 4 rfl rfl rfl) rfl ?_
  refine sg1 rfl rfl (s_callk (rOf_ok _ (by omega) (by omega)) rfl ⟨VT.le_refl _, trivial⟩) rfl ?_
  refine sg1 rfl rfl (sT (by omega) (s_callk (rSame_ok _ _) rfl ⟨VT.le_refl _, VT.le_refl _, trivial⟩)) rfl ?_
  refine st (s_pickT rfl rfl) rfl ?_
  refine st (s_move rfl) rfl ?_
  refine sg1 rfl rfl (s_move rfl) rfl ?_
  refine sg1 rfl rfl (sT (by omega) (s_eq rfl rfl)) rfl ?_
  refine st (s_pickT rfl rfl) rfl ?_
  refine Run.nil ?_
  refine st (s_assign rfl) rfl ?_
  refine Run.nil ?_
  refine pj_then ?_
  refine J_seq ?_
  refine J_reg ?_
  refine st (s_move rfl) rfl ?_
  refine st (s_move rfl) rfl ?_
  refine sg1 rfl rfl (s_move rfl) rfl ?_
  refine stSg rfl rfl rfl rfl rfl rfl ?_
  refine PartsK.cons rfl ?_
  refine PartsK.cons rfl ?_
  refine PartsK.nil ?_
  refine sg1 rfl rfl (s_callk (hh1 ) rfl ⟨(numV_le [1, 0]), trivial⟩) rfl ?_
  refine sg1 rfl rfl (s_callk (hl1 ) rfl ⟨VT.le_refl _, VT.le_refl _, trivial⟩) rfl ?_
  refine st (s_pickT rfl rfl) rfl ?_
  refine st (s_move rfl) rfl ?_
  refine sg1 rfl rfl (s_move rfl) rfl ?_
  refine sg1 rfl rfl (s_not rfl) rfl ?_
  refine st (s_pickT rfl rfl) rfl ?_
  refine st (s_move rfl) rfl ?_
  refine sg1 rfl rfl (s_move rfl) rfl ?_
  refine stSg rfl rfl rfl rfl rfl rfl ?_
  refine PartsK.cons rfl ?_
  refine PartsK.cons rfl ?_
  refine PartsK.nil ?_
  refine sg1 rfl rfl (s_callk (hh2 ) rfl ⟨(numV_le [-2, 2]), trivial⟩) rfl ?_
  refine sg1 rfl rfl (s_callk (hl2 ) rfl ⟨VT.le_refl _, VT.le_refl _, trivial⟩) rfl ?_
  refine st (s_pickT rfl rfl) rfl ?_
  refine st (s_assign rfl) rfl ?_
  refine Run.nil ?_
  refine pj_then ?_
  refine J_seq ?_
  refine J_regd 22 mixed (by kernel_rfl) (by decide) ?_
  refine st (s_move rfl) rfl ?_
  refine st (sT (by omega) (s_eq rfl rfl)) rfl ?_
  refine st (s_move rfl) rfl ?_
  refine sg1 rfl rfl (s_loadB 2 rfl rfl rfl) rfl ?_
  refine stSg rfl rfl rfl rfl rfl rfl ?_
  refine PartsK.cons rfl ?_
  refine PartsK.cons rfl ?_
  refine PartsK.cons rfl ?_
  refine PartsK.cons rfl ?_
  refine PartsK.nil ?_
  refine sg1 rfl rfl (s_callk (i6 ) rfl ⟨VT.le_refl _, VT.le_refl _, (numV_le [4, -2, -3, 1]), trivial⟩) rfl ?_
  refine sg1 rfl rfl (sT (⟨rfl, rfl, by decide +kernel⟩) (s_callk (rSameF_ok _ _ _ _ _ _ (by omega)) rfl ⟨VT.le_refl _, VT.le_refl _, trivial⟩)) rfl ?_
  refine st (s_pickT rfl rfl) rfl ?_
  refine st (s_move rfl) rfl ?_
  refine sg1 rfl rfl (s_move rfl) rfl ?_
  refine sg1 rfl rfl (sT (by omega) (s_eq rfl rfl)) rfl ?_
  refine st (s_pickT rfl rfl) rfl ?_
  refine st (s_move rfl) rfl ?_
  refine sg1 rfl rfl (s_loadB 1 rfl rfl rfl) rfl ?_
  refine stSg rfl rfl rfl rfl rfl rfl ?_
  refine PartsK.cons rfl ?_
  refine PartsK.nil ?_
  refine sg1 rfl rfl (s_callk (i7 ) rfl ⟨VT.le_refl _, VT.le_refl _, (numV_le [1]), trivial⟩) rfl ?_
  refine sg1 rfl rfl (sT (⟨rfl, rfl, by decide +kernel⟩) (s_callk (rSameF_ok _ _ _ _ _ _ (by omega)) rfl ⟨VT.le_refl _, VT.le_refl _, trivial⟩)) rfl ?_
  refine st (s_pickT rfl rfl) rfl ?_
  refine st (s_move rfl) rfl ?_
  refine sg1 rfl rfl (s_move rfl) rfl ?_
  refine sg1 rfl rfl (sT (by omega) (s_eq rfl rfl)) rfl ?_
  refine st (s_pickT rfl rfl) rfl ?_
  refine Run.nil ?_
  refine st (s_assign rfl) rfl ?_
  refine Run.nil ?_
  refine pj_then ?_
  refine J_seq ?_
  refine J_reg ?_
  refine st (s_move rfl) rfl ?_
  refine st (s_move rfl) rfl ?_
  refine sg1 rfl rfl (s_move rfl) rfl ?_
  refine stSg rfl rfl rfl rfl rfl rfl ?_
  refine PartsK.cons rfl ?_
  refine PartsK.cons rfl ?_
  refine PartsK.nil ?_
  refine sg1 rfl rfl (s_callk (hn1 ) rfl ⟨(pivT_num (m := [1, 3]) rfl), (numV_le [1, 3]), trivial⟩) rfl ?_
  refine st (s_pickT rfl rfl) rfl ?_
  refine st (s_move rfl) rfl ?_
  refine sg1 rfl rfl (s_move rfl) rfl ?_
  refine stSg rfl rfl rfl rfl rfl rfl ?_
  refine PartsK.cons rfl ?_
  refine PartsK.cons rfl ?_
  refine PartsK.nil ?_
  refine sg1 rfl rfl (s_callk (hn2 ) rfl ⟨(pivT_num (m := [0, 1]) rfl), (numV_le [0, 1]), trivial⟩) rfl ?_
  refine st (s_pickT rfl rfl) rfl ?_
  refine st (s_move rfl) rfl ?_
  refine sg1 rfl rfl (s_move rfl) rfl ?_
  refine st (s_pickT rfl rfl) rfl ?_
  refine st (s_move rfl) rfl ?_
  refine sg1 rfl rfl (s_move rfl) rfl ?_
  refine st (s_pickT rfl rfl) rfl ?_
  refine st (s_assign rfl) rfl ?_
  refine Run.nil ?_
  refine pj_then ?_
  refine J_ret ?_
  refine retc1 Tryz.results7 (.tmp rfl (VT.le_refl _))
end Tor
end

section
set_option linter.unusedVariables false
set_option linter.unusedSimpArgs false
namespace Tor
open Go Go.RowKit Go.Proofs
def rawInT (r c : Nat) (l : List Int) : VT := aggT 3 [(0, .one, one (.int .u8 r)), (1, .one, one (.int .u8 c)), (2, .one, numT .i8 l)]
def madeF (c : Nat) (l : List Int) : Nat → Nat → Int := fun i j => dig l (i * (c % 5) + j)
theorem tmod5 (n : Nat) : (n : Int).tmod 5 = ((n % 5 : Nat) : Int) := by
  rw [Int.tmod_eq_emod_of_nonneg (by omega)]; omega
attribute [local irreducible] Tor.J Tor.PJ Tor.StepO Tor.one Tor.slT Tor.ptrT Tor.aggT Tor.tupT Tor.exT Tor.andT Tor.eP Tor.boxO Tor.sliO Tor.slV Tor.VT.le Tor.Ret Tor.anyT
attribute [local irreducible] bigT Tor.rowsO
set_option maxHeartbeats 2000000 in
theorem rMadeM_ok (r c : Nat) (l : List Int) : OkM Tryz.prog 8 [rawInT r c l] (newT (r % 5) (c % 5)) (fun s => [outO s.1.2.1 s.1.2.2 (r % 5) (c % 5) s.1.1, ownR (c % 5) s.1.1 (madeF c l)]) := by
  unfold rawInT numT
  refine OkM.enter Tryz.func8 rfl Tryz.ntmps8 rfl (fun w O => ?_)
  have h5 := tmod5 r
  have h6 := tmod5 c
  have hr : r % 5 < 5 := Nat.mod_lt _ (by decide)
  have hc : c % 5 < 5 := Nat.mod_lt _ (by decide)
  refine J_seq ?_
  refine J_reg ?_
  refine a_boxS rfl rfl (ltN rfl) (fun b => ?_)
  refine a_allocS (T := 28) rfl rfl rfl (fun b => ?_)
  refine Run.nil ?_
  refine pj_then ?_
  refine J_seq ?_
  refine J_reg ?_
  refine st (s_fieldAddr rfl) rfl ?_
  refine st (s_loadB 1 rfl rfl rfl) rfl ?_
  refine st (s_rem rfl rfl (by decide) rfl) rfl ?_
  (refine st (s_toI64 rfl ?_ ?_) rfl ?_; omega; omega)
  refine st (s_fieldAddr rfl) rfl ?_
  refine st (s_loadB 1 rfl rfl rfl) rfl ?_
  refine st (s_rem rfl rfl (by decide) rfl) rfl ?_
  (refine st (s_toI64 rfl ?_ ?_) rfl ?_; omega; omega)
  refine st (s_fieldAddr rfl) rfl ?_
  refine st (s_loadB 1 rfl rfl rfl) rfl ?_
  rw [h5]
  skip
  rw [h6]
  skip
  refine a_callM (rFilledM_ok (r % 5) (c % 5) l (by omega) (by omega)) rfl ⟨VT.le_refl _, VT.le_refl _, VT.le_refl _, trivial⟩ rfl rfl (fun s => ?_)
  unfold newT
  refine a_storeW 2 rfl rfl rfl rfl ?_
  refine Run.nil ?_
  refine pj_then ?_
  refine J_ret ?_
  refine retM1 s Tryz.results8 (.cellW 2 rfl rfl ?_) ?_
  · exact VT.le_refl _
  · exact .keep (Own.le_refl _) (.keep (Own.le_refl _) (SubM.nilR _))
end Tor
end

section
set_option linter.unusedVariables false
set_option linter.unusedSimpArgs false
namespace Tor
open Go Go.RowKit Go.Proofs
theorem dig_abs (l : List Int) (n : Nat) : (dig l n).natAbs ≤ 9 := by
  unfold dig; rw [Int.natAbs_tmod]
  show (l.getD n 0).natAbs % 10 ≤ 9
  omega
theorem lz_dig (l : List Int) (n : Nat) : lz 1 (dig l n) := digs_len_le (k := 1) (by have := dig_abs l n; omega)
theorem rMade5_ok (r c : Nat) (l : List Int) : Ok Tryz.prog 8 [rawInT r c l] (matF (r % 5) (c % 5) (fun i j => dig l (i * (c % 5) + j))) := (rMadeM_ok r c l).ok fun s => newT_mat _ s
attribute [local irreducible] Tor.J Tor.PJ Tor.StepO Tor.one Tor.slT Tor.ptrT Tor.aggT Tor.tupT Tor.exT Tor.andT Tor.eP Tor.boxO Tor.sliO Tor.slV Tor.VT.le Tor.Ret Tor.anyT Tor.xO
attribute [local irreducible] bigT rowF
end Tor
end

section
set_option linter.unusedVariables false
set_option linter.unusedSimpArgs false
namespace Tor
open Go Go.RowKit Go.Proofs
theorem elim04 {c : Nat} (hc : c ≤ 4) : elim0 1 c := ⟨by decide, by
  have : 2 ^ c ≤ 2 ^ 4 := Nat.pow_le_pow_right (by decide) hc
  have h16 : 2 ^ 4 = 16 := rfl
  omega⟩
attribute [local irreducible] Tor.J Tor.PJ Tor.StepO Tor.one Tor.slT Tor.ptrT Tor.aggT Tor.tupT Tor.exT Tor.andT Tor.eP Tor.boxO Tor.sliO Tor.slV Tor.VT.le Tor.Ret Tor.anyT Tor.xO
attribute [local irreducible] bigT ratT rowF ratF
end Tor
end

section
set_option linter.unusedVariables false
set_option linter.unusedSimpArgs false
namespace Tor
open Go Go.RowKit Go.Proofs
theorem piv_cast (l : List Nat) : VT.le (pivT l) (numT .i64 (l.map fun x : Nat => (x : Int))) := slT_le' (by simp) (fun q hq => by
  show one (Value.int .i64 ((l.getD q 0 : Nat) : Int)) = one (Value.int .i64 ((l.map fun x : Nat => (x : Int)).getD q 0))
  simp [List.getD, hq])
theorem out_cast {l : List Nat} {r : Nat} (h : ∀ x ∈ l, x < r) : outs r (l.map fun x : Nat => (x : Int)) = false := notOut (fun i hi => by
  have hi : i < l.length := by simpa using hi
  have := h (l[i]) (List.getElem_mem hi)
  simp [List.getD, hi]; omega)
theorem rPickN_ok (r c : Nat) (F : Nat → Nat → Int) (l m : List Nat) (hl : l.length ≤ 1048576) (hm : m.length ≤ 1048576) (h1 : ∀ x ∈ l, x < r) (h2 : ∀ x ∈ m, x < c) :
    Ok Tryz.prog 24 [matF r c F, pivT l, pivT m] (tupT [matF l.length m.length (fun a b => F (l.getD a 0) (m.getD b 0)), one (.int .i64 0)]) := by
  have h := rPick_ok r c F (l.map fun x : Nat => (x : Int)) (m.map fun x : Nat => (x : Int)) (by simpa using hl) (by simpa using hm)
  rw [out_cast h1, out_cast h2] at h
  refine h.le ⟨VT.le_refl _, piv_cast l, piv_cast m, trivial⟩ ?_
  unfold resMT
  simp only [Bool.or_self, Bool.not_false, if_true, List.length_map]
  exact tup2_le (matF_le fun i j hi hj => by
    unfold pickF
    simp [List.getD, hi, hj])
theorem rRangeP_ok (n : Nat) (hn : n ≤ 1048576) : Ok Tryz.prog 27 [one (.int .i64 (n : Nat))] (pivT (List.range n)) := (rRange_ok n hn).le ⟨VT.le_refl _, trivial⟩ (slT_le' (by simp) fun q hq => by
  show one (Value.int .i64 ((q : Nat) : Int)) = one (Value.int .i64 (((List.range n).getD q 0 : Nat) : Int))
  simp [List.getD, hq])
def cntN (l : List Nat) (i : Nat) : Nat → Nat
  | 0 => 0
  | k + 1 => cntN l i k + (if l.getD k 0 < i then 1 else 0)
theorem cntN_take (l : List Nat) (i : Nat) : ∀ k, k ≤ l.length → cntN l i k = ((l.take k).filter fun x => decide (x < i)).length
  | 0, _ => rfl
  | k + 1, h => by
    rw [List.take_add_one, List.filter_append, List.length_append, ← cntN_take l i k (by omega)]
    have hk : k < l.length := h
    show cntN l i k + _ = _
    rw [List.getElem?_eq_getElem hk]
    have e : l.getD k 0 = l[k] := by simp [List.getD, hk]
    rw [e]
    by_cases c : l[k] < i <;> simp [c]
theorem cntN_all {l : List Nat} {i : Nat} : cntN l i l.length = (l.filter fun x => decide (x < i)).length := by
  rw [cntN_take l i _ (Nat.le_refl _), List.take_length]
theorem rdB4 {n : Nat} (h : n ≤ 4) : rdB 1 n ≤ 1099511627700 := Nat.le_trans (rdB_mono h) (by decide)
attribute [local irreducible] Tor.J Tor.PJ Tor.StepO Tor.one Tor.slT Tor.ptrT Tor.aggT Tor.tupT Tor.exT Tor.andT Tor.eP Tor.boxO Tor.sliO Tor.slV Tor.VT.le Tor.Ret Tor.anyT Tor.xO
attribute [local irreducible] bigT ratT rowF
set_option maxRecDepth 100000 in
set_option maxHeartbeats 8000000 in
theorem rankLaw_ok (r c : Nat) (l : List Int) : Ok Tryz.prog 4 [rawInT r c l] (one (.bool true)) := by
  have hmk := rMade5_ok r c l
  have hr : r % 5 ≤ 4 := by omega
  have hc : c % 5 ≤ 4 := by omega
  generalize hF : (fun i j => dig l (i * (c % 5) + j)) = F at *
  have lF : ∀ i j, lz 1 (F i j) := fun i j => by rw [← hF]; exact lz_dig _ _
  generalize r % 5 = r at *
  generalize c % 5 = c at *
  have hsan := sanity_ok
  have hrk := Rank_ok r c F 1 (by omega) (by omega) (elim04 hr) (elim04 hc) lF
  have hrt : Ok Tryz.prog 11 [matF c r (fun i j => F j i)] (tupT [pivT (Lin.newL r c F c), pivT (Lin.newL c r (fun i j => F j i) r)]) := Rank_ok c r (fun i j => F j i) 1 (by omega) (by omega) (elim04 hc) (elim04 hr) (fun i j => lF j i)
  have ht := rTranspose_ok r c F (by omega) (by omega)
  have hlr : ∀ x ∈ Lin.newL c r (fun i j => F j i) r, x < r := fun x hx => (Lin.mem_newL.1 hx).1
  have hlc : ∀ x ∈ Lin.newL r c F c, x < c := fun x hx => (Lin.mem_newL.1 hx).1
  have hn := Lin.new_len r c F
  have hd := Lin.minor_ne r c F
  have hle := Lin.newL_le r c F c
  have hpk := rPickN_ok r c F (Lin.newL c r (fun i j => F j i) r) (Lin.newL r c F c) (by omega) (by omega) hlr hlc
  rw [hn] at hpk
  have hpk' : Ok Tryz.prog 24 [matF r c F, pivT (Lin.newL c r (fun i j => F j i) r), pivT (Lin.newL r c F c)] (tupT [matF (Lin.newL r c F c).length (Lin.newL r c F c).length (Lin.minorF r c F), one (.int .i64 0)]) := hpk
  have hval := r8Value_ok (Lin.newL r c F c).length (Lin.minorF r c F) 1 (by omega) (by decide) (fun i j => lF _ _) (rdB4 (by omega))
  have hsg := rSignI_ok (Lin.detZ (Lin.newL r c F c).length (Lin.minorF r c F))
  have hsz : sgnI (Lin.detZ (Lin.newL r c F c).length (Lin.minorF r c F)) ≠ 0 := fun h => hd ((sgnI_zero _).1 h)
  have hi1 := r8Ints_ok (Lin.newL r c F c).length (Lin.newL r c F c).length (fun q => (((Lin.newL r c F c).getD q 0 : Nat) : Int)) (fun q => (((Lin.newL r c F c).getD q 0 : Nat) : Int)) (by omega)
  rw [decide_eq_true ⟨rfl, fun _ _ => rfl⟩] at hi1
  have hi2 := r8Ints_ok (Lin.newL c r (fun i j => F j i) r).length (Lin.newL c r (fun i j => F j i) r).length (fun q => (((Lin.newL c r (fun i j => F j i) r).getD q 0 : Nat) : Int)) (fun q => (((Lin.newL c r (fun i j => F j i) r).getD q 0 : Nat) : Int)) (by omega)
  rw [decide_eq_true ⟨rfl, fun _ _ => rfl⟩] at hi2
  have hrg := fun i (hi : i ≤ r) => rRangeP_ok i (by omega)
  have hrc := rRangeP_ok c (by omega)
  have hph : ∀ i, i ≤ r → Ok Tryz.prog 24 [matF r c F, pivT (List.range i), pivT (List.range c)] (tupT [matF i c F, one (.int .i64 0)]) := fun i hi => (rPickN_ok r c F (List.range i) (List.range c) (by rw [List.length_range]; omega) (by rw [List.length_range]; omega) (fun x hx => by have := List.mem_range.1 hx; omega) (fun x hx => List.mem_range.1 hx)).le ⟨VT.le_refl _, VT.le_refl _, VT.le_refl _, trivial⟩ (tup2_le (by
    rw [List.length_range, List.length_range]
    exact matF_le fun a b ha hb => by simp [List.getD, ha, hb]))
  have hcnt : ∀ i, i ≤ r → cntN (Lin.newL c r (fun i j => F j i) r) i (Lin.newL c r (fun i j => F j i) r).length = (Lin.newL c i (fun i j => F j i) i).length := fun i hi => by
    rw [cntN_all, Lin.newL_below hi, Lin.newL_congr (w' := i) (G := fun i j => F j i) (by omega) (Nat.le_refl _) (fun _ _ _ _ => rfl)]
  generalize Lin.detZ (Lin.newL r c F c).length (Lin.minorF r c F) = d at *
  generalize Lin.minorF r c F = M at *
  clear hpk hd hlr hlc
  generalize Lin.newL c r (fun i j => F j i) r = rows at *
  generalize Lin.newL r c F c = cols at *
  generalize sgnI d = sg at *
  unfold matF pivT pivF at *
  refine Ok.enter Tryz.func4 rfl Tryz.ntmps4 rfl (fun w O => ?_)
  refine J_seq ?_
  refine J_reg ?_
  refine a_boxS rfl rfl (ltN rfl) (fun b1 => ?_)
  refine st (s_assign rfl) rfl ?_
  refine Run.nil ?_
  refine pj_then ?_
  refine J_seq ?_
  refine J_reg ?_
  refine st (s_callk (hsan ) rfl trivial) rfl ?_
  refine st (s_assign rfl) rfl ?_
  refine Run.nil ?_
  refine pj_then ?_
  refine J_seq ?_
  refine J_reg ?_
  refine st (s_loadW 0 rfl rfl) rfl ?_
  refine st (s_callk (hmk ) rfl ⟨VT.le_refl _, trivial⟩) rfl ?_
  refine a_allocS (T := 28) rfl rfl rfl (fun b4 => ?_)
  refine a_storeW 0 rfl rfl rfl rfl ?_
  refine Run.nil ?_
  refine pj_then ?_
  refine J_seq ?_
  refine J_reg ?_
  refine st (s_loadW 0 rfl rfl) rfl ?_
  refine st (s_callk (hrk ) rfl ⟨VT.le_refl _, trivial⟩) rfl ?_
  refine st (s_move rfl) rfl ?_
  refine st (s_extract rfl rfl) rfl ?_
  refine st (s_extract rfl rfl) rfl ?_
  refine st (s_assign rfl) rfl ?_
  refine st (s_assign rfl) rfl ?_
  refine Run.nil ?_
  refine pj_then ?_
  refine J_seq ?_
  refine J_reg ?_
  refine st (s_loadW 0 rfl rfl) rfl ?_
  refine st (s_callk (ht ) rfl ⟨VT.le_refl _, trivial⟩) rfl ?_
  refine st (s_callk (hrt ) rfl ⟨VT.le_refl _, trivial⟩) rfl ?_
  refine st (s_move rfl) rfl ?_
  refine st (s_extract rfl rfl) rfl ?_
  refine st (s_extract rfl rfl) rfl ?_
  refine st (s_assign rfl) rfl ?_
  refine st (s_assign rfl) rfl ?_
  refine Run.nil ?_
  refine pj_then ?_
  refine J_seq ?_
  refine J_reg ?_
  refine st (s_loadW 0 rfl rfl) rfl ?_
  refine st (s_move rfl) rfl ?_
  refine st (s_move rfl) rfl ?_
  refine st (s_callk (hpk' ) rfl ⟨VT.le_refl _, VT.le_refl _, VT.le_refl _, trivial⟩) rfl ?_
  refine st (s_move rfl) rfl ?_
  refine st (s_extract rfl rfl) rfl ?_
  refine st (s_extract rfl rfl) rfl ?_
  refine a_allocS (T := 28) rfl rfl rfl (fun b9 => ?_)
  refine a_storeW 0 rfl rfl rfl rfl ?_
  refine st (s_assign rfl) rfl ?_
  refine Run.nil ?_
  refine pj_then ?_
  refine J_seq ?_
  refine J_seq ?_
  refine J_reg ?_
  refine st (s_move rfl) rfl ?_
  refine st (sF (by omega) (s_ne rfl rfl)) rfl ?_
  refine st (s_move rfl) rfl ?_
  refine sg1 rfl rfl (s_move rfl) rfl ?_
  refine sg1 rfl rfl (s_len rfl) rfl ?_
  refine sg1 rfl rfl (s_move rfl) rfl ?_
  refine sg1 rfl rfl (s_len rfl) rfl ?_
  refine sg1 rfl rfl (sF (by omega) (s_ne rfl rfl)) rfl ?_
  refine st (s_pickF rfl rfl) rfl ?_
  refine st (s_move rfl) rfl ?_
  refine sg1 rfl rfl (s_loadW 0 rfl rfl) rfl ?_
  refine sg1 rfl rfl (s_callk (hval ) rfl ⟨VT.le_refl _, trivial⟩) rfl ?_
  refine sg1 rfl rfl (s_callk (hsg ) rfl ⟨VT.le_refl _, trivial⟩) rfl ?_
  refine sg1 rfl rfl (sF (by assumption) (s_eq rfl rfl)) rfl ?_
  refine st (s_pickF rfl rfl) rfl ?_
  refine st (s_move rfl) rfl ?_
  refine sg1 rfl rfl (s_move rfl) rfl ?_
  refine sg1 rfl rfl (s_move rfl) rfl ?_
  refine sg1 rfl rfl (s_callk (hi1 ) rfl ⟨VT.le_refl _, VT.le_refl _, trivial⟩) rfl ?_
  refine sg1 rfl rfl (s_not rfl) rfl ?_
  refine st (s_pickF rfl rfl) rfl ?_
  refine st (s_move rfl) rfl ?_
  refine sg1 rfl rfl (s_move rfl) rfl ?_
  refine sg1 rfl rfl (s_move rfl) rfl ?_
  refine sg1 rfl rfl (s_callk (hi2 ) rfl ⟨VT.le_refl _, VT.le_refl _, trivial⟩) rfl ?_
  refine sg1 rfl rfl (s_not rfl) rfl ?_
  refine st (s_pickF rfl rfl) rfl ?_
  refine Run.nil ?_
  refine pj_then ?_
  refine J_cond0 rfl ?_
  refine J_skip ?_
  refine pj_then ?_
  refine J_seq ?_
  refine J_seq ?_
  refine J_reg ?_
  refine st (s_assign rfl) rfl ?_
  refine Run.nil ?_
  refine pj_then ?_
  refine J_block ?_
  refine J_sub (Γ' := [(2, _), (3, _), (4, _), (5, _), (11, _)]) (SubG.cons rfl (VT.le_refl _) (SubG.cons rfl (VT.le_refl _) (SubG.cons rfl (VT.le_refl _) (SubG.cons rfl (VT.le_refl _) (SubG.cons rfl (VT.le_refl _) (SubG.nil)))))) (SubM.refl _) ?_
  refine J_loopA (σ := Nat) (Γk := [(3, _), (4, _), (5, _)]) (SubG.cons rfl (VT.le_refl _) (SubG.cons rfl (VT.le_refl _) (SubG.cons rfl (VT.le_refl _) (SubG.nil)))) (fun i => [(11, one (.int .i64 (i : Nat)))]) (fun i M0 => M0) (fun i => i ≤ r + 1) (fun i => r + 1 - i) (0) (Nat.zero_le _) (by repeat (first | exact SubG.refl _ | exact SubG.nil | refine SubG.cons rfl (VT.le_refl _) ?_ | (refine SubG.cons rfl (one_le ?_) ?_; (congr 1; first | omega | (simp; omega) | simp)))) (.keep (Own.le_refl _) (.keep (Own.le_refl _) (.keep (Own.le_refl _) (.nil)))) (fun i hi => ?_)
  refine J_norm (Γ' := [(11, _), (3, _), (4, _), (5, _)]) (M' := [_, _, _]) rfl rfl ?_
  by_cases hi : i ≤ r
  · have h1 := hrg i hi
    have h2 := hph i hi
    have h3 := Rank_ok i c F 1 (by omega) (by omega) (elim04 (by omega)) (elim04 hc) lF
    unfold matF pivT pivF at h3
    have h4 := hcnt i hi
    clear hrg hph hcnt hrk
    refine J_seq ?_
    refine J_seq ?_
    refine J_reg ?_
    refine st (s_move rfl) rfl ?_
    refine st (s_fieldAddr rfl) rfl ?_
    refine st (s_loadB 1 rfl rfl rfl) rfl ?_
    refine st (sT (by omega) (s_le rfl rfl)) rfl ?_
    refine Run.nil ?_
    refine pj_then ?_
    refine J_cond1 rfl ?_
    refine J_skip ?_
    refine pj_then ?_
    refine J_seq ?_
    refine J_block ?_
    refine J_seq ?_
    refine J_reg ?_
    refine st (s_assign rfl) rfl ?_
    refine Run.nil ?_
    refine pj_then ?_
    refine J_seq ?_
    refine J_seq ?_
    refine J_reg ?_
    refine st (s_assign rfl) rfl ?_
    refine Run.nil ?_
    refine pj_then ?_
    refine J_block ?_
    refine J_sub (Γ' := [(3, _), (4, _), (5, _), (11, _), (12, _), (13, _)]) (SubG.cons rfl (VT.le_refl _) (SubG.cons rfl (VT.le_refl _) (SubG.cons rfl (VT.le_refl _) (SubG.cons rfl (VT.le_refl _) (SubG.cons rfl (VT.le_refl _) (SubG.cons rfl (VT.le_refl _) (SubG.nil))))))) (SubM.refl _) ?_
    refine J_loopA (σ := Nat) (Γk := [(3, _), (4, _), (5, _), (11, _)]) (SubG.cons rfl (VT.le_refl _) (SubG.cons rfl (VT.le_refl _) (SubG.cons rfl (VT.le_refl _) (SubG.cons rfl (VT.le_refl _) (SubG.nil))))) (fun k => [(13, one (.int .i64 (k : Nat))), (12, one (.int .i64 (cntN rows i k : Nat)))]) (fun k M0 => M0) (fun k => k ≤ rows.length) (fun k => rows.length - k) (0) (Nat.zero_le _) (by repeat (first | exact SubG.refl _ | exact SubG.nil | refine SubG.cons rfl (VT.le_refl _) ?_ | (refine SubG.cons rfl (one_le ?_) ?_; (congr 1; first | omega | (simp; omega) | simp)))) (.keep (Own.le_refl _) (.keep (Own.le_refl _) (.keep (Own.le_refl _) (.nil)))) (fun k hk => ?_)
    refine J_norm (Γ' := [(13, _), (12, _), (3, _), (4, _), (5, _), (11, _)]) (M' := [_, _, _]) rfl rfl ?_
    by_cases hk : k < rows.length
    · have hs : cntN rows i (k + 1) = cntN rows i k + (if rows.getD k 0 < i then 1 else 0) := rfl
      have hcb : cntN rows i k ≤ k := by
        rw [cntN_take rows i k (by omega)]
        refine Nat.le_trans (List.length_filter_le _ _) ?_
        rw [List.length_take]; omega
      by_cases hlt : rows.getD k 0 < i
      · rw [if_pos hlt] at hs
        refine J_seq ?_
        refine J_seq ?_
        refine J_reg ?_
        refine st (s_move rfl) rfl ?_
        refine st (s_move rfl) rfl ?_
        refine st (s_len rfl) rfl ?_
        refine st (sT (by omega) (s_lt rfl rfl)) rfl ?_
        refine Run.nil ?_
        refine pj_then ?_
        refine J_cond1 rfl ?_
        refine J_skip ?_
        refine pj_then ?_
        refine J_seq ?_
        refine J_block ?_
        refine J_seq ?_
        refine J_reg ?_
        refine st (s_move rfl) rfl ?_
        refine st (s_move rfl) rfl ?_
        refine st (s_indexIN rfl rfl (by omega)) rfl ?_
        refine st (s_load rfl) rfl ?_
        refine st (s_move rfl) rfl ?_
        refine st (sT (by omega) (s_lt rfl rfl)) rfl ?_
        refine Run.nil ?_
        refine pj_then ?_
        refine J_cond1 rfl ?_
        refine J_reg ?_
        refine st (s_move rfl) rfl ?_
        refine st (s_addN _ 1 rfl rfl (by omega)) rfl ?_
        refine st (s_assign rfl) rfl ?_
        refine Run.nil ?_
        refine pn_block ?_
        refine pj_then ?_
        refine J_reg ?_
        refine st (s_move rfl) rfl ?_
        refine st (s_addN _ 1 rfl rfl (by omega)) rfl ?_
        refine st (s_assign rfl) rfl ?_
        refine Run.nil ?_
        refine pj_roundM (k + 1) (hk) (by omega) (by repeat (first | exact SubG.refl _ | exact SubG.nil | refine SubG.cons rfl (VT.le_refl _) ?_ | (refine SubG.cons rfl (one_le ?_) ?_; (congr 1; first | omega | (simp; omega) | simp)))) (.keep (Own.le_refl _) (.keep (Own.le_refl _) (.keep (Own.le_refl _) (.nil))))
      · rw [if_neg hlt] at hs
        refine J_seq ?_
        refine J_seq ?_
        refine J_reg ?_
        refine st (s_move rfl) rfl ?_
        refine st (s_move rfl) rfl ?_
        refine st (s_len rfl) rfl ?_
        refine st (sT (by omega) (s_lt rfl rfl)) rfl ?_
        refine Run.nil ?_
        refine pj_then ?_
        refine J_cond1 rfl ?_
        refine J_skip ?_
        refine pj_then ?_
        refine J_seq ?_
        refine J_block ?_
        refine J_seq ?_
        refine J_reg ?_
        refine st (s_move rfl) rfl ?_
        refine st (s_move rfl) rfl ?_
        refine st (s_indexIN rfl rfl (by omega)) rfl ?_
        refine st (s_load rfl) rfl ?_
        refine st (s_move rfl) rfl ?_
        refine st (sF (by omega) (s_lt rfl rfl)) rfl ?_
        refine Run.nil ?_
        refine pj_then ?_
        refine J_cond0 rfl ?_
        refine J_skip ?_
        refine pn_block ?_
        refine pj_then ?_
        refine J_reg ?_
        refine st (s_move rfl) rfl ?_
        refine st (s_addN _ 1 rfl rfl (by omega)) rfl ?_
        refine st (s_assign rfl) rfl ?_
        refine Run.nil ?_
        refine pj_roundM (k + 1) (hk) (by omega) (by repeat (first | exact SubG.refl _ | exact SubG.nil | refine SubG.cons rfl (VT.le_refl _) ?_ | (refine SubG.cons rfl (one_le ?_) ?_; (congr 1; first | omega | (simp; omega) | simp)))) (.keep (Own.le_refl _) (.keep (Own.le_refl _) (.keep (Own.le_refl _) (.nil))))
    · have hke : k = rows.length := by omega
      subst hke
      refine J_seq ?_
      refine J_seq ?_
      refine J_reg ?_
      refine st (s_move rfl) rfl ?_
      refine st (s_move rfl) rfl ?_
      refine st (s_len rfl) rfl ?_
      refine st (sF (by omega) (s_lt rfl rfl)) rfl ?_
      refine Run.nil ?_
      refine pj_then ?_
      refine J_cond0 rfl ?_
      refine J_exit ?_
      refine px_then ?_
      refine px_then ?_
      refine px_block ?_
      refine pj_then ?_
      refine J_seq ?_
      refine J_regU2 mixed (by kernel_rfl) (by kernel_rfl) ?_
      refine ux (fun B => s_loadW 1 rfl rfl) rfl rfl ?_
      refine ux (fun B => s_move rfl) rfl rfl ?_
      refine uxk (h1 ) rfl ⟨VT.le_refl _, trivial⟩ rfl ?_
      refine ux (fun B => s_fieldAddr rfl) rfl rfl ?_
      refine ux (fun B => s_loadB 1 rfl rfl rfl) rfl rfl ?_
      refine uxk (hrc ) rfl ⟨VT.le_refl _, trivial⟩ rfl ?_
      refine uxk (h2 ) rfl ⟨VT.le_refl _, VT.le_refl _, VT.le_refl _, trivial⟩ rfl ?_
      refine ux (fun B => s_move rfl) rfl rfl ?_
      refine ux (fun B => s_extract rfl rfl) rfl rfl ?_
      refine ux (fun B => s_extract rfl rfl) rfl rfl ?_
      refine ua rfl ?_
      refine us rfl ?_
      refine ux (fun B => s_assign rfl) rfl rfl ?_
      refine RunU.nil (fun γ => ?_)
      refine PJ_normM (M' := [_, _, _, _]) rfl ?_
      refine PJ_sub (SubG.refl _) (.keep box_flat (SubM.refl _)) ?_
      refine pj_then ?_
      refine J_seq ?_
      refine J_reg ?_
      refine st (s_loadW 0 rfl rfl) rfl ?_
      refine st (s_callk (h3 ) rfl ⟨VT.le_refl _, trivial⟩) rfl ?_
      refine st (s_move rfl) rfl ?_
      refine st (s_extract rfl rfl) rfl ?_
      refine st (s_extract rfl rfl) rfl ?_
      refine st (s_assign rfl) rfl ?_
      refine st (s_assign rfl) rfl ?_
      refine Run.nil ?_
      refine pj_then ?_
      refine J_seq ?_
      refine J_reg ?_
      refine st (s_move rfl) rfl ?_
      refine st (s_len rfl) rfl ?_
      refine st (s_move rfl) rfl ?_
      refine st (sF (by omega) (s_ne rfl rfl)) rfl ?_
      refine Run.nil ?_
      refine pj_then ?_
      refine J_cond0 rfl ?_
      refine J_skip ?_
      refine pn_block ?_
      refine pj_then ?_
      refine J_reg ?_
      refine st (s_move rfl) rfl ?_
      refine st (s_addN _ 1 rfl rfl (by omega)) rfl ?_
      refine st (s_assign rfl) rfl ?_
      refine Run.nil ?_
      refine pj_roundM (i + 1) (by omega) (by omega) (by repeat (first | exact SubG.refl _ | exact SubG.nil | refine SubG.cons rfl (VT.le_refl _) ?_ | (refine SubG.cons rfl (one_le ?_) ?_; (congr 1; first | omega | (simp; omega) | simp)))) (.drop (.keep (Own.le_refl _) (.keep (Own.le_refl _) (.keep (Own.le_refl _) (.nil)))))
  · refine J_seq ?_
    refine J_seq ?_
    refine J_reg ?_
    refine st (s_move rfl) rfl ?_
    refine st (s_fieldAddr rfl) rfl ?_
    refine st (s_loadB 1 rfl rfl rfl) rfl ?_
    refine st (sF (by omega) (s_le rfl rfl)) rfl ?_
    refine Run.nil ?_
    refine pj_then ?_
    refine J_cond0 rfl ?_
    refine J_exit ?_
    refine px_then ?_
    refine px_then ?_
    refine px_block ?_
    refine pj_then ?_
    refine J_seq ?_
    refine J_reg ?_
    refine st (s_move rfl) rfl ?_
    refine st (s_assign rfl) rfl ?_
    refine Run.nil ?_
    refine pj_then ?_
    refine J_ret ?_
    refine retc1 Tryz.results4 (.tmp rfl (VT.le_refl _))
end Tor
end

section
set_option linter.unusedVariables false
set_option linter.unusedSimpArgs false
set_option maxRecDepth 100000
namespace Tor
open Go Go.RowKit Go.ChangeShapes Go.WideShapes Go.ChangeAt Go.Joins Go.Proofs
theorem rd_raw {H : Type} {enc : TypeId × Value → H} {W : World} {base : Nat} {v : Value} {d : DataW H} {ps : List MemPlace} (hval : Value.okWide Tryz.prog W .any base 24 v) (hT : DataW.Trod enc Tryz.prog W 0 (fun _ => true) true 24 v d ps) (hw : ∀ x ∈ DataW.weights Tryz.prog 24 d, x ≤ reachBytes) :
    ∃ (r : Nat) (c : Nat) (l : List Int), (rawInT r c l).p v (view W) ∧ (r : Int) ≤ IntKind.max .u8 ∧ (c : Int) ≤ IntKind.max .u8 ∧ (∀ x ∈ l, IntKind.min .i8 ≤ x ∧ x ≤ IntKind.max .i8) ∧ True := by
  obtain ⟨cs, rfl, h⟩ := arg_agg 8 (ts := [5, 5, 22]) (by kernel_rfl) (.inl ⟨_, Tryz.underlying24⟩) hval hT hw
  obtain ⟨c0, r0, rfl, h0, g0⟩ := h
  obtain ⟨c1, r1, rfl, h1, g1⟩ := g0
  obtain ⟨c2, r2, rfl, h2, g2⟩ := g1
  cases g2
  obtain ⟨r, rfl, b0⟩ := leaf_nat Tryz.underlying5 rfl h0
  obtain ⟨c, rfl, b1⟩ := leaf_nat Tryz.underlying5 rfl h1
  obtain ⟨l, k2, b2⟩ := leaf_nums Tryz.underlying22 Tryz.underlying113 (by kernel_rfl) (of_decide_eq_true (by kernel_rfl)) h2
  exact ⟨r, c, l, agg_p (φs := [one (.int .u8 r), one (.int .u8 c), numT .i8 l]) ⟨rfl, rfl, ⟨rfl, rfl, ⟨k2, slT_one k2, trivial⟩⟩⟩, b0, b1, b2, trivial⟩
end Tor
namespace Go.Proofs.YtinfobmidgammaaGreat
open Go.ChangeShapes Go.WideShapes Go.ChangeAt Go.RowKit Go.Joins Tor
theorem bareissRank_own : ownKnob Tryz.prog.godebug = none := by kernel_rfl
theorem bareissRank_laid : laidOutB Tryz.prog = true := by kernel_rfl
set_option maxRecDepth 100000 in
theorem bareissRank_lifted (os : Os) (started : os.Started) (H : Type) (enc : TypeId × Value → H) :
    ReturnsInHanded {} Tryz.checked os 4 .any (Rows.bareissRankSpec.pre6 enc Tryz.prog Tryz.f4 Rows.bareissRankRow.domain false) (Rows.bareissRankSpec.post enc Tryz.prog Tryz.f4 false true false false) := by
  refine returnsInHanded_of_change_sized (C := Tryz.checked) bareissRank_own started (by kernel_rfl) Tryz.func4
    (ChangeSpec.witness6 (enc := enc) (C := Tryz.checked) false ⟨#[], #[.agg #[.int .u8 0, .int .u8 0, .slice none 0 0]], []⟩ 8 (by kernel_rfl) (by kernel_rfl) (by kernel_rfl) (by kernel_rfl)) ?_
  intro W base args ds gs before hval0 hW hcnd hsz0 _
  have hval : ∀ (j : Nat) t v, Tryz.f4.params[j]? = some t → args[j]? = some v → Value.okWide Tryz.prog W .any base t v := hval0
  have hsz : (DataW.weightsEach Tryz.prog (Tryz.f4.params.toList ++ Rows.bareissRankSpec.plain.varTypes Tryz.prog) (ds ++ gs)).all (· ≤ reachBytes) = true := hsz0
  have hW' := hW
  obtain ⟨p, q, hA0, hV, rfl, hfz, hnd⟩ := hW
  have hA : DataW.TrodAll enc Tryz.prog W 0 (fun _ => true) true Tryz.f4.params.toList args.toList ds p := hA0
  rw [Tryz.params4] at hA hval hsz
  obtain ⟨v0, d0, rfl, rfl, h0⟩ := trodAll_one hA
  obtain ⟨rfl, rfl⟩ := trodVars_none hV
  obtain ⟨r_0, c_0, l_0, x0, y0⟩ := rd_raw (hval 0 24 _ rfl rfl) h0 (arg_weights hsz 0 rfl rfl)
  refine (Ok.outside (W := W) (args := #[v0]) (rankLaw_ok r_0 c_0 l_0) (And.intro x0 (trivial))).mono fun e W' ⟨v, he, hv, hw⟩ => ?_
  subst he
  have hv : v = .bool true := hv
  subst hv
  refine ⟨_, rfl, _, [], _, [], _, [], hW', trodAll_mk1 (shut_bool Tryz.underlying4 true), trodAll_mk1
    (Below.trod bareissRank_laid (by kernel_rfl) (of_decide_eq_true (by kernel_rfl)) h0 hw (fun x hx => by simpa using hW'.lt x (by simp only [List.mem_append] at hx ⊢; simp [hx]))), rfl, hw.frame _, fun h => by cases h⟩
theorem bareissRank_holds : Rows.BareissRankSaid :=
  OpenClaim.holds_of_wide 4 Tryz.f4 rfl rfl rfl rfl rfl rfl rfl ⟨rfl, rfl, rfl, rfl, rfl⟩ rfl rfl rfl rfl rfl (by kernel_rfl) Tryz.func4 (by kernel_rfl)
    (of_decide_eq_true (by kernel_rfl)) (by unfold Func.isWrapper; first | (rw [if_pos (by decide +kernel)]; kernel_rfl) | (rw [if_neg (by decide +kernel)]; exact ⟨rfl, rfl⟩))
    (fun os started H enc _ => bareissRank_lifted os started H enc)
end Go.Proofs.YtinfobmidgammaaGreat
namespace Tor
end Tor
end
