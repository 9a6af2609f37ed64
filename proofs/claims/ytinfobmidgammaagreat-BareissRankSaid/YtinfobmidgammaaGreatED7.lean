/-
  Theorems that the proofs of laws of this seat rest on.
  No condition.
-/
import Derived.Test.YtinfobmidgammaaGreatED6
section
set_option linter.unusedVariables false
set_option linter.unusedSimpArgs false
namespace Tor
open Go Go.RowKit Go.Proofs
theorem small_zero : small 0 := Nat.zero_le _
abbrev pivT (l : List Nat) : VT := slT .one l.length (pivF l)
def elim0 (n r : Nat) : Prop := 1 ≤ n ∧ (n + 1) * 2 ^ r ≤ 1099511627700
theorem elim0.b {n r : Nat} (h : elim0 n r) : (n + 1) * 2 ^ r ≤ 1099511627776 := Nat.le_trans h.2 (by decide)
theorem elim0.lz {n r : Nat} (h : elim0 n r) {e : ElS} (he : ElOk n r e) {x : Int} (hx : lz (bndN n e.piv.length) x) : lz 1099511627700 x := hx.mono (by
  have h1 := bndN_le (n := n) he.p
  have h2 := bndN_eq n r
  have h3 := h.2
  omega)
theorem det_lz {n r : Nat} {F : Nat → Nat → Int} (he : elim0 n r) (hF : ∀ i j, lz n (F i j)) : lz 1099511627700 (Lin.detZ r F) := by
  rw [← Lin.detE_eq]
  have hok := elN_ok (r := r) false he.1 hF r
  have h := he.lz hok hok.last
  unfold Lin.detE
  split
  · exact lz_zero _
  · split
    · exact lz_neg h
    · exact h
theorem elim0.le {n r s : Nat} (h : elim0 n r) (hs : s ≤ r) : elim0 n s := ⟨h.1, Nat.le_trans (Nat.mul_le_mul_left _ (Nat.pow_le_pow_right (by decide) hs)) h.2⟩
attribute [local irreducible] Tor.J Tor.PJ Tor.StepO Tor.one Tor.slT Tor.ptrT Tor.aggT Tor.tupT Tor.exT Tor.andT Tor.eP Tor.boxO Tor.sliO Tor.slV Tor.VT.le Tor.Ret Tor.anyT Tor.xO
attribute [local irreducible] bigT rowF
set_option maxHeartbeats 4000000 in
theorem square_ok (r c : Nat) (F : Nat → Nat → Int) : Ok Tryz.prog 58 [matF r c F] (one (.bool (decide (r = c)))) := by
  have hv := matValidF_ok r c F
  unfold matF at *
  refine Ok.enter Tryz.func58 rfl Tryz.ntmps58 rfl (fun w O => ?_)
  by_cases h : r = c
  · rw [decide_eq_true h]
    refine J_seq ?_
    refine J_reg ?_
    refine a_boxS rfl rfl (ltN rfl) (fun b1 => ?_)
    refine st (s_assign rfl) rfl ?_
    refine Run.nil ?_
    refine pj_then ?_
    refine J_seq ?_
    refine J_reg ?_
    refine st (s_loadW 0 rfl rfl) rfl ?_
    refine st (s_callk (hv ) rfl ⟨VT.le_refl _, trivial⟩) rfl ?_
    refine st (s_move rfl) rfl ?_
    refine sg1 rfl rfl (s_fieldAddr rfl) rfl ?_
    refine sg1 rfl rfl (s_loadB 0 rfl rfl rfl) rfl ?_
    refine sg1 rfl rfl (s_fieldAddr rfl) rfl ?_
    refine sg1 rfl rfl (s_loadB 0 rfl rfl rfl) rfl ?_
    refine sg1 rfl rfl (sT (by omega) (s_eq rfl rfl)) rfl ?_
    refine st (s_pickT rfl rfl) rfl ?_
    refine st (s_assign rfl) rfl ?_
    refine Run.nil ?_
    refine pj_then ?_
    refine J_ret ?_
    refine retc1 Tryz.results58 (.tmp rfl (VT.le_refl _))
  · rw [decide_eq_false h]
    refine J_seq ?_
    refine J_reg ?_
    refine a_boxS rfl rfl (ltN rfl) (fun b1 => ?_)
    refine st (s_assign rfl) rfl ?_
    refine Run.nil ?_
    refine pj_then ?_
    refine J_seq ?_
    refine J_reg ?_
    refine st (s_loadW 0 rfl rfl) rfl ?_
    refine st (s_callk (hv ) rfl ⟨VT.le_refl _, trivial⟩) rfl ?_
    refine st (s_move rfl) rfl ?_
    refine sg1 rfl rfl (s_fieldAddr rfl) rfl ?_
    refine sg1 rfl rfl (s_loadB 0 rfl rfl rfl) rfl ?_
    refine sg1 rfl rfl (s_fieldAddr rfl) rfl ?_
    refine sg1 rfl rfl (s_loadB 0 rfl rfl rfl) rfl ?_
    refine sg1 rfl rfl (sF (by omega) (s_eq rfl rfl)) rfl ?_
    refine st (s_pickT rfl rfl) rfl ?_
    refine st (s_assign rfl) rfl ?_
    refine Run.nil ?_
    refine pj_then ?_
    refine J_ret ?_
    refine retc1 Tryz.results58 (.tmp rfl (VT.le_refl _))
set_option maxHeartbeats 4000000 in
theorem DetS_ok (r c : Nat) (F : Nat → Nat → Int) (h : r ≠ c) : Ok Tryz.prog 17 [matF r c F] (tupT [bigT 0, one (.int .i64 50)]) := by
  have hs := square_ok r c F
  rw [decide_eq_false h] at hs
  refine Ok.enter Tryz.func17 rfl Tryz.ntmps17 rfl (fun w O => ?_)
  refine J_seq ?_
  refine J_reg ?_
  refine a_boxS rfl rfl (ltN rfl) (fun b1 => ?_)
  refine a_alloc (T := 43) rfl (ltN rfl) (fun b2 => ?_)
  refine st (s_assign rfl) rfl ?_
  refine Run.nil ?_
  refine pj_then ?_
  refine J_seq ?_
  refine J_seq ?_
  refine J_reg ?_
  refine st (s_loadW 1 rfl rfl) rfl ?_
  refine st (s_callk (hs ) rfl ⟨VT.le_refl _, trivial⟩) rfl ?_
  refine st (s_not rfl) rfl ?_
  refine Run.nil ?_
  refine pj_then ?_
  refine J_cond1 rfl ?_
  refine J_seq ?_
  refine J_reg ?_
  refine stB rfl rfl rfl ?_
  refine BuildK.nil ?_
  refine a_storeB 0 rfl rfl rfl rfl rfl (leN rfl) rfl ?_
  refine st (s_assign rfl) rfl ?_
  refine Run.nil ?_
  refine pj_then ?_
  refine J_ret ?_
  refine pr_then ?_
  refine retc2 Tryz.results17 (.cellB 0 rfl rfl rfl (zero_bigC)) (.tmp rfl (VT.le_refl _))
set_option maxHeartbeats 4000000 in
theorem Det_ok (r : Nat) (F : Nat → Nat → Int) (n : Nat) (hr : r ≤ 1048576) (he : elim0 n r) (hF : ∀ i j, lz n (F i j)) : Ok Tryz.prog 17 [matF r r F] (tupT [bigT (Lin.detZ r F), one (.int .i64 0)]) := by
  have hs := square_ok r r F
  rw [decide_eq_true rfl] at hs
  have hru := runR_ok r r r F false n hr hr (Nat.le_refl _) he.1 he.b hF
  rw [← Lin.detE_eq]
  obtain ⟨A, V, hEL⟩ := Lin.elN_EL r r false F r (Nat.le_refl _)
  have hpr := hEL.gj.pr
  unfold Lin.detE
  have hok := elN_ok (r := r) false he.1 hF r
  generalize elN r false F r = e at *
  have hlast : small e.last := (he.lz hok hok.last).small (by decide)
  have hneg := NegI_ok e.last hlast
  have hadd := AddI_ok e.last 0 hlast small_zero
  rw [Int.add_zero] at hadd
  unfold matF elimT at *
  refine Ok.enter Tryz.func17 rfl Tryz.ntmps17 rfl (fun w O => ?_)
  by_cases h : e.piv.length < r
  · rw [if_pos h]
    refine J_seq ?_
    refine J_reg ?_
    refine a_boxS rfl rfl (ltN rfl) (fun b1 => ?_)
    refine a_alloc (T := 43) rfl (ltN rfl) (fun b2 => ?_)
    refine st (s_assign rfl) rfl ?_
    refine Run.nil ?_
    refine pj_then ?_
    refine J_seq ?_
    refine J_seq ?_
    refine J_reg ?_
    refine st (s_loadW 1 rfl rfl) rfl ?_
    refine st (s_callk (hs ) rfl ⟨VT.le_refl _, trivial⟩) rfl ?_
    refine st (s_not rfl) rfl ?_
    refine Run.nil ?_
    refine pj_then ?_
    refine J_cond0 rfl ?_
    refine J_skip ?_
    refine pj_then ?_
    refine J_seq ?_
    refine J_reg ?_
    refine st (s_fieldAddr rfl) rfl ?_
    refine st (s_loadB 1 rfl rfl rfl) rfl ?_
    refine st (s_fieldAddr rfl) rfl ?_
    refine st (s_loadB 1 rfl rfl rfl) rfl ?_
    refine st (s_callk (hru ) rfl ⟨VT.le_refl _, VT.le_refl _, VT.le_refl _, trivial⟩) rfl ?_
    refine st (s_assign rfl) rfl ?_
    refine Run.nil ?_
    refine pj_then ?_
    refine J_seq ?_
    refine J_block ?_
    refine J_seq ?_
    refine J_regd 9 mixed (by kernel_rfl) (by decide) ?_
    refine st (s_move rfl) rfl ?_
    refine st (s_nilCheckI rfl) rfl ?_
    refine st (s_fieldI rfl rfl) rfl ?_
    refine st (s_load rfl) rfl ?_
    refine st (s_len rfl) rfl ?_
    refine st (s_fieldAddr rfl) rfl ?_
    refine st (s_loadB 1 rfl rfl rfl) rfl ?_
    refine st (sT (by omega) (s_lt rfl rfl)) rfl ?_
    refine st (s_assign rfl) rfl ?_
    refine Run.nil ?_
    refine Run.nil ?_
    refine pj_then ?_
    refine J_cond1 rfl ?_
    refine J_seq ?_
    refine J_reg ?_
    refine stB rfl rfl rfl ?_
    refine BuildK.nil ?_
    refine a_storeB 0 rfl rfl rfl rfl rfl (leN rfl) rfl ?_
    refine st (s_assign rfl) rfl ?_
    refine Run.nil ?_
    refine pj_then ?_
    refine J_ret ?_
    refine pr_block ?_
    refine pr_then ?_
    refine retc2 Tryz.results17 (.cellB 0 rfl rfl rfl (zero_bigC)) (.tmp rfl (VT.le_refl _))
  · rw [if_neg h]
    cases ho : e.odd
    · simp only [ho] at *
      refine J_seq ?_
      refine J_reg ?_
      refine a_boxS rfl rfl (ltN rfl) (fun b1 => ?_)
      refine a_alloc (T := 43) rfl (ltN rfl) (fun b2 => ?_)
      refine st (s_assign rfl) rfl ?_
      refine Run.nil ?_
      refine pj_then ?_
      refine J_seq ?_
      refine J_seq ?_
      refine J_reg ?_
      refine st (s_loadW 1 rfl rfl) rfl ?_
      refine st (s_callk (hs ) rfl ⟨VT.le_refl _, trivial⟩) rfl ?_
      refine st (s_not rfl) rfl ?_
      refine Run.nil ?_
      refine pj_then ?_
      refine J_cond0 rfl ?_
      refine J_skip ?_
      refine pj_then ?_
      refine J_seq ?_
      refine J_reg ?_
      refine st (s_fieldAddr rfl) rfl ?_
      refine st (s_loadB 1 rfl rfl rfl) rfl ?_
      refine st (s_fieldAddr rfl) rfl ?_
      refine st (s_loadB 1 rfl rfl rfl) rfl ?_
      refine st (s_callk (hru ) rfl ⟨VT.le_refl _, VT.le_refl _, VT.le_refl _, trivial⟩) rfl ?_
      refine st (s_assign rfl) rfl ?_
      refine Run.nil ?_
      refine pj_then ?_
      refine J_seq ?_
      refine J_block ?_
      refine J_seq ?_
      refine J_regd 9 mixed (by kernel_rfl) (by decide) ?_
      refine st (s_move rfl) rfl ?_
      refine st (s_nilCheckI rfl) rfl ?_
      refine st (s_fieldI rfl rfl) rfl ?_
      refine st (s_load rfl) rfl ?_
      refine st (s_len rfl) rfl ?_
      refine st (s_fieldAddr rfl) rfl ?_
      refine st (s_loadB 1 rfl rfl rfl) rfl ?_
      refine st (sF (by omega) (s_lt rfl rfl)) rfl ?_
      refine st (s_assign rfl) rfl ?_
      refine Run.nil ?_
      refine Run.nil ?_
      refine pj_then ?_
      refine J_cond0 rfl ?_
      refine J_seq ?_
      refine J_reg ?_
      refine st (s_move rfl) rfl ?_
      refine st (s_nilCheckI rfl) rfl ?_
      refine st (s_fieldI rfl rfl) rfl ?_
      refine st (s_fieldI rfl rfl) rfl ?_
      refine st (s_load rfl) rfl ?_
      refine st (s_assign rfl) rfl ?_
      refine Run.nil ?_
      refine pj_then ?_
      refine J_cond0 rfl ?_
      refine J_skip ?_
      refine pn_block ?_
      refine pj_then ?_
      refine J_seq ?_
      refine J_reg ?_
      refine st (s_move rfl) rfl ?_
      refine st (s_nilCheckI rfl) rfl ?_
      refine st (s_fieldI rfl rfl) rfl ?_
      refine st (s_fieldI rfl rfl) rfl ?_
      refine st (s_load rfl) rfl ?_
      refine stB rfl rfl rfl ?_
      refine BuildK.nil ?_
      refine st (s_callk (hadd ) rfl ⟨VT.le_refl _, (zero_bigC), trivial⟩) rfl ?_
      refine a_storeB 0 rfl rfl rfl rfl rfl (leN rfl) rfl ?_
      refine st (s_assign rfl) rfl ?_
      refine Run.nil ?_
      refine pj_then ?_
      refine J_ret ?_
      refine retc2 Tryz.results17 (.cellB 0 rfl rfl rfl (VT.le_refl _)) (.tmp rfl (VT.le_refl _))
    · simp only [ho] at *
      refine J_seq ?_
      refine J_reg ?_
      refine a_boxS rfl rfl (ltN rfl) (fun b1 => ?_)
      refine a_alloc (T := 43) rfl (ltN rfl) (fun b2 => ?_)
      refine st (s_assign rfl) rfl ?_
      refine Run.nil ?_
      refine pj_then ?_
      refine J_seq ?_
      refine J_seq ?_
      refine J_reg ?_
      refine st (s_loadW 1 rfl rfl) rfl ?_
      refine st (s_callk (hs ) rfl ⟨VT.le_refl _, trivial⟩) rfl ?_
      refine st (s_not rfl) rfl ?_
      refine Run.nil ?_
      refine pj_then ?_
      refine J_cond0 rfl ?_
      refine J_skip ?_
      refine pj_then ?_
      refine J_seq ?_
      refine J_reg ?_
      refine st (s_fieldAddr rfl) rfl ?_
      refine st (s_loadB 1 rfl rfl rfl) rfl ?_
      refine st (s_fieldAddr rfl) rfl ?_
      refine st (s_loadB 1 rfl rfl rfl) rfl ?_
      refine st (s_callk (hru ) rfl ⟨VT.le_refl _, VT.le_refl _, VT.le_refl _, trivial⟩) rfl ?_
      refine st (s_assign rfl) rfl ?_
      refine Run.nil ?_
      refine pj_then ?_
      refine J_seq ?_
      refine J_block ?_
      refine J_seq ?_
      refine J_regd 9 mixed (by kernel_rfl) (by decide) ?_
      refine st (s_move rfl) rfl ?_
      refine st (s_nilCheckI rfl) rfl ?_
      refine st (s_fieldI rfl rfl) rfl ?_
      refine st (s_load rfl) rfl ?_
      refine st (s_len rfl) rfl ?_
      refine st (s_fieldAddr rfl) rfl ?_
      refine st (s_loadB 1 rfl rfl rfl) rfl ?_
      refine st (sF (by omega) (s_lt rfl rfl)) rfl ?_
      refine st (s_assign rfl) rfl ?_
      refine Run.nil ?_
      refine Run.nil ?_
      refine pj_then ?_
      refine J_cond0 rfl ?_
      refine J_seq ?_
      refine J_reg ?_
      refine st (s_move rfl) rfl ?_
      refine st (s_nilCheckI rfl) rfl ?_
      refine st (s_fieldI rfl rfl) rfl ?_
      refine st (s_fieldI rfl rfl) rfl ?_
      refine st (s_load rfl) rfl ?_
      refine st (s_assign rfl) rfl ?_
      refine Run.nil ?_
      refine pj_then ?_
      refine J_cond1 rfl ?_
      refine J_seq ?_
      refine J_reg ?_
      refine st (s_move rfl) rfl ?_
      refine st (s_nilCheckI rfl) rfl ?_
      refine st (s_fieldI rfl rfl) rfl ?_
      refine st (s_fieldI rfl rfl) rfl ?_
      refine st (s_load rfl) rfl ?_
      refine st (s_callk (hneg ) rfl ⟨VT.le_refl _, trivial⟩) rfl ?_
      refine a_storeB 0 rfl rfl rfl rfl rfl (leN rfl) rfl ?_
      refine st (s_assign rfl) rfl ?_
      refine Run.nil ?_
      refine pj_then ?_
      refine J_ret ?_
      refine pr_block ?_
      refine pr_then ?_
      refine retc2 Tryz.results17 (.cellB 0 rfl rfl rfl (VT.le_refl _)) (.tmp rfl (VT.le_refl _))
set_option maxHeartbeats 4000000 in
theorem Rank_ok (r c : Nat) (F : Nat → Nat → Int) (n : Nat) (hr : r ≤ 1048576) (hc : c ≤ 1048576) (he : elim0 n r) (he' : elim0 n c) (hF : ∀ i j, lz n (F i j)) :
    Ok Tryz.prog 11 [matF r c F] (tupT [pivT (Lin.newL c r (fun i j => F j i) r), pivT (Lin.newL r c F c)]) := by
  have hv := matValidF_ok r c F
  have hF' : ∀ i j, lz n ((fun i j => F j i : Nat → Nat → Int) i j) := fun i j => hF j i
  have hn : n ≤ 1099511627776 := by
    have h1 := he.2
    have h2 : 1 ≤ 2 ^ r := Nat.one_le_two_pow
    have h3 := Nat.mul_le_mul_left (n + 1) h2
    omega
  have ht := Transpose_ok r c F hr hc (fun i j => (hF i j).small hn)
  have h1 := runR_ok r c c F false n hr hc (Nat.le_refl _) he.1 he.b hF
  have h2 := runR_ok c r r (fun i j => F j i) false n hc hr (Nat.le_refl _) he.1 he'.b hF'
  obtain ⟨A, V, hE1⟩ := Lin.elN_EL r c false F c (Nat.le_refl _)
  obtain ⟨A', V', hE2⟩ := Lin.elN_EL c r false (fun i j => F j i) r (Nat.le_refl _)
  rw [← hE1.pl, ← hE2.pl]
  have p1 := hE1.gj.pr
  have p2 := hE2.gj.pr
  have p0 : r = 0 → (elN c false (fun i j => F j i) r).piv.length = 0 ∧ (elN r false F c).piv.length = 0 := fun h => by
    subst h; exact ⟨rfl, by omega⟩
  generalize elN r false F c = e1 at *
  generalize elN c false (fun i j => F j i) r = e2 at *
  unfold matF elimT at *
  refine Ok.enter Tryz.func11 rfl Tryz.ntmps11 rfl (fun w O => ?_)
  by_cases h : r = 0
  · obtain ⟨q1, q2⟩ := p0 h
    refine J_seq ?_
    refine J_reg ?_
    refine a_boxS rfl rfl (ltN rfl) (fun b1 => ?_)
    refine st (s_assign rfl) rfl ?_
    refine st (s_assign rfl) rfl ?_
    refine Run.nil ?_
    refine pj_then ?_
    refine J_seq ?_
    refine J_seq ?_
    refine J_reg ?_
    refine st (s_loadW 0 rfl rfl) rfl ?_
    refine st (s_callk (hv ) rfl ⟨VT.le_refl _, trivial⟩) rfl ?_
    refine st (s_not rfl) rfl ?_
    refine st (s_move rfl) rfl ?_
    refine sg1 rfl rfl (s_fieldAddr rfl) rfl ?_
    refine sg1 rfl rfl (s_loadB 0 rfl rfl rfl) rfl ?_
    refine sg1 rfl rfl (sT (by omega) (s_eq rfl rfl)) rfl ?_
    refine st (s_pickF rfl rfl) rfl ?_
    refine Run.nil ?_
    refine pj_then ?_
    refine J_cond1 rfl ?_
    refine J_seq ?_
    refine J_reg ?_
    refine st (s_assign rfl) rfl ?_
    refine st (s_assign rfl) rfl ?_
    refine Run.nil ?_
    refine pj_then ?_
    refine J_ret ?_
    refine pr_then ?_
    refine retc2 Tryz.results11 (.tmp rfl (by (unfold pivT; rw [q1]; exact nil_slT))) (.tmp rfl (by (unfold pivT; rw [q2]; exact nil_slT)))
  · refine J_seq ?_
    refine J_reg ?_
    refine a_boxS rfl rfl (ltN rfl) (fun b1 => ?_)
    refine st (s_assign rfl) rfl ?_
    refine st (s_assign rfl) rfl ?_
    refine Run.nil ?_
    refine pj_then ?_
    refine J_seq ?_
    refine J_seq ?_
    refine J_reg ?_
    refine st (s_loadW 0 rfl rfl) rfl ?_
    refine st (s_callk (hv ) rfl ⟨VT.le_refl _, trivial⟩) rfl ?_
    refine st (s_not rfl) rfl ?_
    refine st (s_move rfl) rfl ?_
    refine sg1 rfl rfl (s_fieldAddr rfl) rfl ?_
    refine sg1 rfl rfl (s_loadB 0 rfl rfl rfl) rfl ?_
    refine sg1 rfl rfl (sF (by omega) (s_eq rfl rfl)) rfl ?_
    refine st (s_pickF rfl rfl) rfl ?_
    refine Run.nil ?_
    refine pj_then ?_
    refine J_cond0 rfl ?_
    refine J_skip ?_
    refine pj_then ?_
    refine J_seq ?_
    refine J_regd 9 mixed (by kernel_rfl) (by decide) ?_
    refine st (s_loadW 0 rfl rfl) rfl ?_
    refine st (s_callk (ht ) rfl ⟨VT.le_refl _, trivial⟩) rfl ?_
    refine st (s_field rfl rfl) rfl ?_
    refine st (s_fieldAddr rfl) rfl ?_
    refine st (s_loadB 0 rfl rfl rfl) rfl ?_
    refine st (s_callk (h2 ) rfl ⟨VT.le_refl _, VT.le_refl _, VT.le_refl _, trivial⟩) rfl ?_
    refine st (s_nilCheckI rfl) rfl ?_
    refine st (s_fieldI rfl rfl) rfl ?_
    refine st (s_load rfl) rfl ?_
    refine Run.nil ?_
    refine st (s_assign rfl) rfl ?_
    refine Run.nil ?_
    refine pj_then ?_
    refine J_seq ?_
    refine J_regd 10 mixed (by kernel_rfl) (by decide) ?_
    refine st (s_move rfl) rfl ?_
    refine st (s_fieldAddr rfl) rfl ?_
    refine st (s_loadB 0 rfl rfl rfl) rfl ?_
    refine st (s_fieldAddr rfl) rfl ?_
    refine st (s_loadB 0 rfl rfl rfl) rfl ?_
    refine st (s_callk (h1 ) rfl ⟨VT.le_refl _, VT.le_refl _, VT.le_refl _, trivial⟩) rfl ?_
    refine st (s_nilCheckI rfl) rfl ?_
    refine st (s_fieldI rfl rfl) rfl ?_
    refine st (s_load rfl) rfl ?_
    refine st (s_assign rfl) rfl ?_
    refine Run.nil ?_
    refine st (s_assign rfl) rfl ?_
    refine Run.nil ?_
    refine pj_then ?_
    refine J_ret ?_
    refine retc2 Tryz.results11 (.tmp rfl (VT.le_refl _)) (.tmp rfl (VT.le_refl _))
end Tor
end

section
set_option linter.unusedVariables false
set_option linter.unusedSimpArgs false
namespace Tor
open Go Go.RowKit Go.Proofs
theorem rden_le (n d : Int) (h : d ≠ 0) : (Rat.divInt n d).den ≤ d.natAbs := by
  rw [Rat.den_divInt, if_neg h]
  exact Nat.div_le_self _ _
theorem rnum_le (n d : Int) : (Rat.divInt n d).num.natAbs ≤ n.natAbs := by
  rw [Rat.num_divInt]
  refine Nat.le_trans (Int.natAbs_ediv_le_natAbs _ _) ?_
  rw [Int.natAbs_mul]
  have : d.sign.natAbs ≤ 1 := by rw [Int.natAbs_sign]; split <;> omega
  exact Nat.le_trans (Nat.mul_le_mul_right _ this) (by omega)
theorem radd_div (a b : Rat) : a + b = Rat.divInt (a.num * b.den + b.num * a.den) (a.den * b.den) := by
  rw [Rat.add_def', ← Rat.divInt_ofNat]; simp
theorem rmul_div (a b : Rat) : a * b = Rat.divInt (a.num * b.num) (a.den * b.den) := by
  rw [Rat.mul_def', ← Rat.divInt_ofNat]; simp
theorem rself_div (a : Rat) : Rat.divInt a.num a.den = a := by
  rw [Rat.divInt_ofNat, Rat.mkRat_self]
theorem rdiv_div (a b : Rat) : a / b = Rat.divInt (a.num * b.den) (a.den * b.num) := by
  rw [Rat.div_def, Rat.inv_def]
  conv => lhs; rw [← rself_div a]
  rw [Rat.divInt_mul_divInt]
def qz (n : Nat) (q : Rat) : Prop := lz n q.num ∧ lz n (q.den : Int)
theorem qz.mono {n m : Nat} {q : Rat} (h : qz n q) (hn : n ≤ m) : qz m q := ⟨h.1.mono hn, h.2.mono hn⟩
theorem qz_div {n : Nat} {a d : Int} (ha : lz n a) (hd : lz n d) (h : d ≠ 0) : qz n (Rat.divInt a d) := ⟨lz_le ha (rnum_le a d), lz_le hd (by rw [Int.natAbs_natCast]; exact rden_le a d h)⟩
theorem qz_int {n : Nat} {a : Int} (hn : 1 ≤ n) (h : lz n a) : qz n (a : Rat) := ⟨by rw [Rat.num_intCast]; exact h, by rw [Rat.den_intCast]; exact lz_one hn⟩
theorem qden_ne (q : Rat) : (q.den : Int) ≠ 0 := by have := q.den_nz; omega
theorem qz_neg {n : Nat} {q : Rat} (h : qz n q) : qz n (-q) := ⟨by rw [Rat.neg_num]; exact lz_neg h.1, by rw [Rat.neg_den]; exact h.2⟩
theorem qz_add {n m : Nat} {p q : Rat} (hp : qz n p) (hq : qz m q) : qz (n + m + 1) (p + q) := by
  rw [radd_div]
  have h1 := lz_mul hp.1 hq.2
  have h2 := lz_mul hq.1 hp.2
  rw [Nat.add_comm m n] at h2
  exact qz_div (lz_add h1 h2) ((lz_mul hp.2 hq.2).mono (by omega)) (Int.mul_ne_zero (qden_ne p) (qden_ne q))
theorem qz_sub {n m : Nat} {p q : Rat} (hp : qz n p) (hq : qz m q) : qz (n + m + 1) (p - q) := by
  rw [Rat.sub_eq_add_neg]; exact qz_add hp (qz_neg hq)
theorem qz_mul {n m : Nat} {p q : Rat} (hp : qz n p) (hq : qz m q) : qz (n + m) (p * q) := by
  rw [rmul_div]
  exact qz_div (lz_mul hp.1 hq.1) (lz_mul hp.2 hq.2) (Int.mul_ne_zero (qden_ne p) (qden_ne q))
theorem qz_over {n m : Nat} {p q : Rat} (hp : qz n p) (hq : qz m q) (h : q ≠ 0) : qz (n + m) (p / q) := by
  rw [rdiv_div]
  exact qz_div (lz_mul hp.1 hq.2) (lz_mul hp.2 hq.1) (Int.mul_ne_zero (qden_ne p) (fun e => h (Rat.num_eq_zero.1 e)))
attribute [local irreducible] Tor.J Tor.PJ Tor.StepO Tor.one Tor.slT Tor.ptrT Tor.aggT Tor.tupT Tor.exT Tor.andT Tor.eP Tor.boxO Tor.sliO Tor.slV Tor.VT.le Tor.Ret Tor.anyT Tor.xO
attribute [local irreducible] bigT
set_option maxHeartbeats 4000000 in
theorem rqWhole_ok (a : Int) : Ok Tryz.prog 52 [bigT a] (ratT (a : Rat)) := by
  have h1 := rOf_ok 1 (by decide) (by decide)
  unfold ratT
  rw [Rat.num_intCast, Rat.den_intCast]
  refine Ok.enter Tryz.func52 rfl Tryz.ntmps52 rfl (fun w O => ?_)
  refine J_seq ?_
  refine J_reg ?_
  refine a_box rfl rfl (ltN rfl) (fun b1 => ?_)
  refine a_allocS (T := 63) rfl rfl rfl (fun b2 => ?_)
  refine Run.nil ?_
  refine pj_then ?_
  refine J_seq ?_
  refine J_regd 2 mixed (by kernel_rfl) (by decide) ?_
  refine st (s_loadB 1 rfl rfl rfl) rfl ?_
  refine st (s_callk (h1 ) rfl ⟨VT.le_refl _, trivial⟩) rfl ?_
  refine Run.nil ?_
  refine stB rfl rfl rfl ?_
  refine BuildK.cons rfl rfl rfl ?_
  refine BuildK.cons rfl rfl rfl ?_
  refine BuildK.nil ?_
  refine a_storeW 0 rfl rfl rfl rfl ?_
  refine Run.nil ?_
  refine pj_then ?_
  refine J_ret ?_
  refine retc1 Tryz.results52 (.cellW 0 rfl rfl (fracT_of rfl rfl))
set_option maxHeartbeats 4000000 in
theorem rqNumber_ok (n : Int) (h1 : -9223372036854775808 ≤ n) (h2 : n ≤ 9223372036854775807) : Ok Tryz.prog 33 [one (.int .i64 n)] (ratT (n : Rat)) := by
  have ho := rOf_ok n h1 h2
  refine Ok.enter Tryz.func33 rfl Tryz.ntmps33 rfl (fun w O => ?_)
  refine J_seq ?_
  refine J_reg ?_
  refine a_allocS (T := 63) rfl rfl rfl (fun b2 => ?_)
  refine Run.nil ?_
  refine pj_then ?_
  refine J_seq ?_
  refine J_reg ?_
  refine st (s_move rfl) rfl ?_
  refine st (s_callk (ho ) rfl ⟨VT.le_refl _, trivial⟩) rfl ?_
  refine st (s_callk (rqWhole_ok _) rfl ⟨VT.le_refl _, trivial⟩) rfl ?_
  refine a_storeW 0 rfl rfl rfl rfl ?_
  refine Run.nil ?_
  refine pj_then ?_
  refine J_ret ?_
  refine retc1 Tryz.results33 (.cellW 0 rfl rfl (VT.le_refl _))
set_option maxHeartbeats 4000000 in
theorem rqSign_ok (q : Rat) : Ok Tryz.prog 36 [ratT q] (one (.int .i64 (sgnI q.num))) := by
  unfold ratT fracT
  refine Ok.enter Tryz.func36 rfl Tryz.ntmps36 rfl (fun w O => ?_)
  refine J_seq ?_
  refine J_reg ?_
  refine a_boxS rfl rfl (ltN rfl) (fun b1 => ?_)
  refine st (s_assign rfl) rfl ?_
  refine Run.nil ?_
  refine pj_then ?_
  refine J_seq ?_
  refine J_reg ?_
  refine st (s_fieldAddr rfl) rfl ?_
  refine st (s_loadB 0 rfl rfl rfl) rfl ?_
  refine st (s_callk (rSignI_ok _) rfl ⟨VT.le_refl _, trivial⟩) rfl ?_
  refine st (s_assign rfl) rfl ?_
  refine Run.nil ?_
  refine pj_then ?_
  refine J_ret ?_
  refine retc1 Tryz.results36 (.tmp rfl (VT.le_refl _))
set_option maxHeartbeats 4000000 in
theorem rqNeg_ok (q : Rat) (h : small q.num) : Ok Tryz.prog 61 [ratT q] (ratT (-q)) := by
  have hn := rNegI_ok q.num h
  rw [← Rat.neg_num] at hn
  unfold ratT fracT
  refine Ok.enter Tryz.func61 rfl Tryz.ntmps61 rfl (fun w O => ?_)
  refine J_seq ?_
  refine J_reg ?_
  refine a_boxS rfl rfl (ltN rfl) (fun b1 => ?_)
  refine a_allocS (T := 63) rfl rfl rfl (fun b2 => ?_)
  refine Run.nil ?_
  refine pj_then ?_
  refine J_seq ?_
  refine J_regd 6 mixed (by kernel_rfl) (by decide) ?_
  refine st (s_fieldAddr rfl) rfl ?_
  refine st (s_loadB 1 rfl rfl rfl) rfl ?_
  refine st (s_callk (hn ) rfl ⟨VT.le_refl _, trivial⟩) rfl ?_
  refine st (s_fieldAddr rfl) rfl ?_
  refine st (s_loadB 1 rfl rfl rfl) rfl ?_
  refine stB rfl rfl rfl ?_
  refine BuildK.cons rfl rfl rfl ?_
  refine BuildK.cons rfl rfl rfl ?_
  refine BuildK.nil ?_
  refine Run.nil ?_
  refine a_storeW 0 rfl rfl rfl rfl ?_
  refine Run.nil ?_
  refine pj_then ?_
  refine J_ret ?_
  refine retc1 Tryz.results61 (.cellW 0 rfl rfl (fracT_of rfl (by rw [Rat.neg_den])))
set_option maxHeartbeats 4000000 in
theorem rqof_ok (n d : Int) (hd : d ≠ 0) (hn : small0 n) (hds : small0 d) : Ok Tryz.prog 87 [bigT n, bigT d] (ratT (Rat.divInt n d)) := by
  have h := rqOf_ok n d hd hn hds
  unfold ratT fracT at *
  refine Ok.enter Tryz.func87 rfl Tryz.ntmps87 rfl (fun w O => ?_)
  refine J_seq ?_
  refine J_reg ?_
  refine a_box rfl rfl (ltN rfl) (fun b2 => ?_)
  refine a_box rfl rfl (ltN rfl) (fun b3 => ?_)
  refine a_allocS (T := 63) rfl rfl rfl (fun b4 => ?_)
  refine Run.nil ?_
  refine pj_then ?_
  refine J_seq ?_
  refine J_reg ?_
  refine st (s_loadB 2 rfl rfl rfl) rfl ?_
  refine st (s_loadB 1 rfl rfl rfl) rfl ?_
  refine st (s_callk (h ) rfl ⟨VT.le_refl _, VT.le_refl _, trivial⟩) rfl ?_
  refine st (s_move rfl) rfl ?_
  refine st (s_extract rfl rfl) rfl ?_
  refine st (s_extract rfl rfl) rfl ?_
  refine a_allocS (T := 63) rfl rfl rfl (fun b5 => ?_)
  refine a_storeW 0 rfl rfl rfl rfl ?_
  refine st (s_assign rfl) rfl ?_
  refine Run.nil ?_
  refine pj_then ?_
  refine J_seq ?_
  refine J_reg ?_
  refine st (s_loadW 0 rfl rfl) rfl ?_
  refine a_storeW 1 rfl rfl rfl rfl ?_
  refine Run.nil ?_
  refine pj_then ?_
  refine J_ret ?_
  refine retc1 Tryz.results87 (.cellW 1 rfl rfl (VT.le_refl _))
set_option maxHeartbeats 4000000 in
theorem rqAdd_ok (p q : Rat) (n m : Nat) (hp : qz n p) (hq : qz m q) (h : n + m + 1 ≤ 1099511627700) : Ok Tryz.prog 73 [ratT p, ratT q] (ratT (p + q)) := by
  have m1 := lz_mul hp.1 hq.2
  have m2 := lz_mul hq.1 hp.2
  have m3 := lz_mul hp.2 hq.2
  rw [Nat.add_comm m n] at m2
  have c1 := rMulI_ok p.num q.den (hp.1.small (by omega)) (hq.2.small (by omega))
  have c2 := rMulI_ok q.num p.den (hq.1.small (by omega)) (hp.2.small (by omega))
  have c3 := rMulI_ok (p.den : Int) q.den (hp.2.small (by omega)) (hq.2.small (by omega))
  have c4 := rAddI_ok (p.num * q.den) (q.num * p.den) (m1.small (by omega)) (m2.small (by omega))
  have c5 := rqof_ok (p.num * q.den + q.num * p.den) (p.den * q.den) (Int.mul_ne_zero (qden_ne p) (qden_ne q)) ((lz_add m1 m2).small0 h) (m3.small0 (by omega))
  rw [radd_div]
  unfold ratT fracT at *
  refine Ok.enter Tryz.func73 rfl Tryz.ntmps73 rfl (fun w O => ?_)
  refine J_seq ?_
  refine J_reg ?_
  refine a_boxS rfl rfl (ltN rfl) (fun b2 => ?_)
  refine a_boxS rfl rfl (ltN rfl) (fun b3 => ?_)
  refine a_allocS (T := 63) rfl rfl rfl (fun b4 => ?_)
  refine Run.nil ?_
  refine pj_then ?_
  refine J_seq ?_
  refine J_regU2 mixed (by kernel_rfl) (by kernel_rfl) ?_
  refine ux (fun B => s_fieldAddr rfl) rfl rfl ?_
  refine ux (fun B => s_loadB 2 rfl rfl rfl) rfl rfl ?_
  refine ux (fun B => s_fieldAddr rfl) rfl rfl ?_
  refine ux (fun B => s_loadB 1 rfl rfl rfl) rfl rfl ?_
  refine uxk (c1 ) rfl ⟨VT.le_refl _, VT.le_refl _, trivial⟩ rfl ?_
  refine ux (fun B => s_fieldAddr rfl) rfl rfl ?_
  refine ux (fun B => s_loadB 1 rfl rfl rfl) rfl rfl ?_
  refine ux (fun B => s_fieldAddr rfl) rfl rfl ?_
  refine ux (fun B => s_loadB 2 rfl rfl rfl) rfl rfl ?_
  refine uxk (c2 ) rfl ⟨VT.le_refl _, VT.le_refl _, trivial⟩ rfl ?_
  refine uxk (c4 ) rfl ⟨VT.le_refl _, VT.le_refl _, trivial⟩ rfl ?_
  refine ua rfl ?_
  refine us rfl ?_
  refine RunU.nil (fun γ => ?_)
  refine PJ_normM (M' := [_, _, _, _]) rfl ?_
  refine pj_then ?_
  refine J_seq ?_
  refine J_regd 7 mixed (by kernel_rfl) (by decide) ?_
  refine st (s_loadB 0 rfl rfl rfl) rfl ?_
  refine st (s_fieldAddr rfl) rfl ?_
  refine st (s_loadB 3 rfl rfl rfl) rfl ?_
  refine st (s_fieldAddr rfl) rfl ?_
  refine st (s_loadB 2 rfl rfl rfl) rfl ?_
  refine st (s_callk (c3 ) rfl ⟨VT.le_refl _, VT.le_refl _, trivial⟩) rfl ?_
  refine st (s_callk (c5 ) rfl ⟨VT.le_refl _, VT.le_refl _, trivial⟩) rfl ?_
  refine Run.nil ?_
  refine a_storeW 1 rfl rfl rfl rfl ?_
  refine Run.nil ?_
  refine pj_then ?_
  refine J_ret ?_
  refine retc1 Tryz.results73 (.cellW 1 rfl rfl (VT.le_refl _))
set_option maxHeartbeats 4000000 in
theorem rqSub_ok (p q : Rat) (n m : Nat) (hp : qz n p) (hq : qz m q) (h : n + m + 1 ≤ 1099511627700) : Ok Tryz.prog 56 [ratT p, ratT q] (ratT (p - q)) := by
  have c1 := rqNeg_ok q (hq.1.small (by omega))
  have c2 := rqAdd_ok p (-q) n m hp (qz_neg hq) h
  rw [← Rat.sub_eq_add_neg] at c2
  refine Ok.enter Tryz.func56 rfl Tryz.ntmps56 rfl (fun w O => ?_)
  refine J_seq ?_
  refine J_reg ?_
  refine a_boxS rfl rfl (ltN rfl) (fun b2 => ?_)
  refine a_boxS rfl rfl (ltN rfl) (fun b3 => ?_)
  refine a_allocS (T := 63) rfl rfl rfl (fun b4 => ?_)
  refine Run.nil ?_
  refine pj_then ?_
  refine J_seq ?_
  refine J_regd 4 mixed (by kernel_rfl) (by decide) ?_
  refine st (s_loadW 2 rfl rfl) rfl ?_
  refine st (s_loadW 1 rfl rfl) rfl ?_
  refine st (s_callk (c1 ) rfl ⟨VT.le_refl _, trivial⟩) rfl ?_
  refine st (s_callk (c2 ) rfl ⟨VT.le_refl _, VT.le_refl _, trivial⟩) rfl ?_
  refine Run.nil ?_
  refine a_storeW 0 rfl rfl rfl rfl ?_
  refine Run.nil ?_
  refine pj_then ?_
  refine J_ret ?_
  refine retc1 Tryz.results56 (.cellW 0 rfl rfl (VT.le_refl _))
set_option maxHeartbeats 4000000 in
theorem rqMul_ok (p q : Rat) (n m : Nat) (hp : qz n p) (hq : qz m q) (h : n + m ≤ 1099511627700) : Ok Tryz.prog 57 [ratT p, ratT q] (ratT (p * q)) := by
  have c1 := rMulI_ok p.num q.num (hp.1.small (by omega)) (hq.1.small (by omega))
  have c2 := rMulI_ok (p.den : Int) q.den (hp.2.small (by omega)) (hq.2.small (by omega))
  have c3 := rqof_ok (p.num * q.num) (p.den * q.den) (Int.mul_ne_zero (qden_ne p) (qden_ne q)) ((lz_mul hp.1 hq.1).small0 h) ((lz_mul hp.2 hq.2).small0 h)
  rw [rmul_div]
  unfold ratT fracT at *
  refine Ok.enter Tryz.func57 rfl Tryz.ntmps57 rfl (fun w O => ?_)
  refine J_seq ?_
  refine J_reg ?_
  refine a_boxS rfl rfl (ltN rfl) (fun b2 => ?_)
  refine a_boxS rfl rfl (ltN rfl) (fun b3 => ?_)
  refine a_allocS (T := 63) rfl rfl rfl (fun b4 => ?_)
  refine Run.nil ?_
  refine pj_then ?_
  refine J_seq ?_
  refine J_regd 11 mixed (by kernel_rfl) (by decide) ?_
  refine st (s_fieldAddr rfl) rfl ?_
  refine st (s_loadB 2 rfl rfl rfl) rfl ?_
  refine st (s_fieldAddr rfl) rfl ?_
  refine st (s_loadB 1 rfl rfl rfl) rfl ?_
  refine st (s_callk (c1 ) rfl ⟨VT.le_refl _, VT.le_refl _, trivial⟩) rfl ?_
  refine st (s_fieldAddr rfl) rfl ?_
  refine st (s_loadB 2 rfl rfl rfl) rfl ?_
  refine st (s_fieldAddr rfl) rfl ?_
  refine st (s_loadB 1 rfl rfl rfl) rfl ?_
  refine st (s_callk (c2 ) rfl ⟨VT.le_refl _, VT.le_refl _, trivial⟩) rfl ?_
  refine st (s_callk (c3 ) rfl ⟨VT.le_refl _, VT.le_refl _, trivial⟩) rfl ?_
  refine Run.nil ?_
  refine a_storeW 0 rfl rfl rfl rfl ?_
  refine Run.nil ?_
  refine pj_then ?_
  refine J_ret ?_
  refine retc1 Tryz.results57 (.cellW 0 rfl rfl (VT.le_refl _))
set_option maxHeartbeats 4000000 in
theorem rqDiv_ok (p q : Rat) (n m : Nat) (hp : qz n p) (hq : qz m q) (h : n + m ≤ 1099511627700) (h0 : q ≠ 0) : Ok Tryz.prog 86 [ratT p, ratT q] (tupT [ratT (p / q), one (.int .i64 0)]) := by
  have c1 := rMulI_ok p.num q.den (hp.1.small (by omega)) (hq.2.small (by omega))
  have c2 := rMulI_ok (p.den : Int) q.num (hp.2.small (by omega)) (hq.1.small (by omega))
  have c3 := rqOf_ok (p.num * q.den) (p.den * q.num) (Int.mul_ne_zero (qden_ne p) (fun e => h0 (Rat.num_eq_zero.1 e))) ((lz_mul hp.1 hq.2).small0 h) ((lz_mul hp.2 hq.1).small0 h)
  rw [rdiv_div]
  unfold ratT fracT at *
  refine Ok.enter Tryz.func86 rfl Tryz.ntmps86 rfl (fun w O => ?_)
  refine J_seq ?_
  refine J_reg ?_
  refine a_boxS rfl rfl (ltN rfl) (fun b2 => ?_)
  refine a_boxS rfl rfl (ltN rfl) (fun b3 => ?_)
  refine a_allocS (T := 63) rfl rfl rfl (fun b4 => ?_)
  refine st (s_assign rfl) rfl ?_
  refine Run.nil ?_
  refine pj_then ?_
  refine J_seq ?_
  refine J_regd 13 mixed (by kernel_rfl) (by decide) ?_
  refine st (s_fieldAddr rfl) rfl ?_
  refine st (s_loadB 2 rfl rfl rfl) rfl ?_
  refine st (s_fieldAddr rfl) rfl ?_
  refine st (s_loadB 1 rfl rfl rfl) rfl ?_
  refine st (s_callk (c1 ) rfl ⟨VT.le_refl _, VT.le_refl _, trivial⟩) rfl ?_
  refine st (s_fieldAddr rfl) rfl ?_
  refine st (s_loadB 2 rfl rfl rfl) rfl ?_
  refine st (s_fieldAddr rfl) rfl ?_
  refine st (s_loadB 1 rfl rfl rfl) rfl ?_
  refine st (s_callk (c2 ) rfl ⟨VT.le_refl _, VT.le_refl _, trivial⟩) rfl ?_
  refine st (s_callk (c3 ) rfl ⟨VT.le_refl _, VT.le_refl _, trivial⟩) rfl ?_
  refine st (s_extract rfl rfl) rfl ?_
  refine st (s_extract rfl rfl) rfl ?_
  refine Run.nil ?_
  refine a_storeW 0 rfl rfl rfl rfl ?_
  refine st (s_assign rfl) rfl ?_
  refine Run.nil ?_
  refine pj_then ?_
  refine J_ret ?_
  refine retc2 Tryz.results86 (.cellW 0 rfl rfl (VT.le_refl _)) (.tmp rfl (VT.le_refl _))
set_option maxHeartbeats 4000000 in
theorem rqOver_ok (p q : Rat) (n m : Nat) (hp : qz n p) (hq : qz m q) (h : n + m ≤ 1099511627700) (h0 : q ≠ 0) : Ok Tryz.prog 55 [ratT p, ratT q] (ratT (p / q)) := by
  have c := rqDiv_ok p q n m hp hq h h0
  unfold ratT fracT at *
  refine Ok.enter Tryz.func55 rfl Tryz.ntmps55 rfl (fun w O => ?_)
  refine J_seq ?_
  refine J_reg ?_
  refine a_boxS rfl rfl (ltN rfl) (fun b2 => ?_)
  refine a_boxS rfl rfl (ltN rfl) (fun b3 => ?_)
  refine a_allocS (T := 63) rfl rfl rfl (fun b4 => ?_)
  refine Run.nil ?_
  refine pj_then ?_
  refine J_seq ?_
  refine J_reg ?_
  refine st (s_loadW 2 rfl rfl) rfl ?_
  refine st (s_loadW 1 rfl rfl) rfl ?_
  refine st (s_callk (c ) rfl ⟨VT.le_refl _, VT.le_refl _, trivial⟩) rfl ?_
  refine st (s_move rfl) rfl ?_
  refine st (s_extract rfl rfl) rfl ?_
  refine st (s_extract rfl rfl) rfl ?_
  refine a_allocS (T := 63) rfl rfl rfl (fun b5 => ?_)
  refine a_storeW 0 rfl rfl rfl rfl ?_
  refine st (s_assign rfl) rfl ?_
  refine Run.nil ?_
  refine pj_then ?_
  refine J_seq ?_
  refine J_reg ?_
  refine st (s_loadW 0 rfl rfl) rfl ?_
  refine a_storeW 1 rfl rfl rfl rfl ?_
  refine Run.nil ?_
  refine pj_then ?_
  refine J_ret ?_
  refine retc1 Tryz.results55 (.cellW 1 rfl rfl (VT.le_refl _))
set_option maxHeartbeats 4000000 in
theorem rqMade_ok (n d : Int) (hd : d ≠ 0) (n1 : -9223372036854775808 ≤ n) (n2 : n ≤ 9223372036854775807) (d1 : -9223372036854775808 ≤ d) (d2 : d ≤ 9223372036854775807) : Ok Tryz.prog 76 [one (.int .i64 n), one (.int .i64 d)] (ratT (Rat.divInt n d)) := by
  have o1 := rOf_ok n n1 n2
  have o2 := rOf_ok d d1 d2
  have c := rqof_ok n d hd (small0_lt (by omega)) (small0_lt (by omega))
  refine Ok.enter Tryz.func76 rfl Tryz.ntmps76 rfl (fun w O => ?_)
  refine J_seq ?_
  refine J_reg ?_
  refine a_allocS (T := 63) rfl rfl rfl (fun b4 => ?_)
  refine Run.nil ?_
  refine pj_then ?_
  refine J_seq ?_
  refine J_seq ?_
  refine J_reg ?_
  refine st (s_move rfl) rfl ?_
  refine st (sF (by assumption) (s_eq rfl rfl)) rfl ?_
  refine Run.nil ?_
  refine pj_then ?_
  refine J_cond0 rfl ?_
  refine J_skip ?_
  refine pj_then ?_
  refine J_seq ?_
  refine J_reg ?_
  refine st (s_move rfl) rfl ?_
  refine st (s_callk (o1 ) rfl ⟨VT.le_refl _, trivial⟩) rfl ?_
  refine st (s_move rfl) rfl ?_
  refine st (s_callk (o2 ) rfl ⟨VT.le_refl _, trivial⟩) rfl ?_
  refine st (s_callk (c ) rfl ⟨VT.le_refl _, VT.le_refl _, trivial⟩) rfl ?_
  refine a_storeW 0 rfl rfl rfl rfl ?_
  refine Run.nil ?_
  refine pj_then ?_
  refine J_ret ?_
  refine retc1 Tryz.results76 (.cellW 0 rfl rfl (VT.le_refl _))
set_option maxHeartbeats 4000000 in
theorem rqList_ok (n m : Nat) (l k : Nat → Rat) (hn : n ≤ 1048576) : Ok Tryz.prog 16 [slT (.agg 4) n (fun i => ratT (l i)), slT (.agg 4) m (fun i => ratT (k i))] (one (.bool (decide (n = m ∧ ∀ i, i < n → l i = k i)))) := by
  refine Ok.enter Tryz.func16 rfl Tryz.ntmps16 rfl (fun w O => ?_)
  by_cases h : n = m
  · subst h
    refine J_seq ?_
    refine J_reg ?_
    refine st (s_assign rfl) rfl ?_
    refine Run.nil ?_
    refine pj_then ?_
    refine J_seq ?_
    refine J_seq ?_
    refine J_reg ?_
    refine st (s_move rfl) rfl ?_
    refine st (s_len rfl) rfl ?_
    refine st (s_move rfl) rfl ?_
    refine st (s_len rfl) rfl ?_
    refine st (sF (by omega) (s_ne rfl rfl)) rfl ?_
    refine Run.nil ?_
    refine pj_then ?_
    refine J_cond0 rfl ?_
    refine J_skip ?_
    refine pj_then ?_
    refine J_seq ?_
    refine J_seq ?_
    refine J_reg ?_
    refine st (s_assign rfl) rfl ?_
    refine Run.nil ?_
    refine pj_then ?_
    refine J_block ?_
    refine J_sub (Γ' := [(0, _), (1, _), (4, _), (5, _)]) (SubG.cons rfl (VT.le_refl _) (SubG.cons rfl (VT.le_refl _) (SubG.cons rfl (VT.le_refl _) (SubG.cons rfl (VT.le_refl _) (SubG.nil))))) (SubM.refl _) ?_
    refine J_loopA (σ := Nat) (Γk := [(0, _), (1, _)]) (SubG.cons rfl (VT.le_refl _) (SubG.cons rfl (VT.le_refl _) (SubG.nil))) (fun i => [(5, one (.int .i64 (i : Nat)))]) (fun i M0 => M0) (fun i => i ≤ n ∧ ∀ q, q < i → l q = k q) (fun i => n - i) (0) (⟨Nat.zero_le _, fun q h => absurd h (Nat.not_lt_zero _)⟩) (by repeat (first | exact SubG.refl _ | exact SubG.nil | refine SubG.cons rfl (VT.le_refl _) ?_ | (refine SubG.cons rfl (one_le ?_) ?_; (congr 1; first | omega | (simp; omega) | simp)))) (.nil) (fun i hi => ?_)
    refine J_norm (Γ' := [(5, _), (0, _), (1, _)]) (M' := []) rfl rfl ?_
    obtain ⟨hi, hq⟩ := hi
    by_cases hin : i < n
    · have hs := rqSame_ok (l i) (k i)
      by_cases he : l i = k i
      · rw [decide_eq_true he] at hs
        refine J_seq ?_
        refine J_seq ?_
        refine J_reg ?_
        refine st (s_move rfl) rfl ?_
        refine st (s_move rfl) rfl ?_
        refine st (s_len rfl) rfl ?_
        refine st (sT (by omega) (s_lt rfl rfl)) rfl ?_
        refine Run.nil ?_
        refine pj_then ?_
        refine J_cond1 rfl ?_
        refine J_skip ?_
        refine pj_then ?_
        refine J_seq ?_
        refine J_block ?_
        refine J_seq ?_
        refine J_regd 10 mixed (by kernel_rfl) (by decide) ?_
        refine st (s_move rfl) rfl ?_
        refine st (s_move rfl) rfl ?_
        refine st (s_indexIN rfl rfl (by omega)) rfl ?_
        refine st (s_load rfl) rfl ?_
        refine st (s_move rfl) rfl ?_
        refine st (s_move rfl) rfl ?_
        refine st (s_indexIN rfl rfl (by omega)) rfl ?_
        refine st (s_load rfl) rfl ?_
        refine st (s_callk (hs ) rfl ⟨VT.le_refl _, VT.le_refl _, trivial⟩) rfl ?_
        refine st (s_not rfl) rfl ?_
        refine Run.nil ?_
        refine Run.nil ?_
        refine pj_then ?_
        refine J_cond0 rfl ?_
        refine J_skip ?_
        refine pn_block ?_
        refine pj_then ?_
        refine J_reg ?_
        refine st (s_move rfl) rfl ?_
        refine st (s_addN _ 1 rfl rfl (by omega)) rfl ?_
        refine st (s_assign rfl) rfl ?_
        refine Run.nil ?_
        refine pj_roundM (i + 1) (⟨hin, fun q h => by by_cases h3 : q = i; exact h3 ▸ he; exact hq q (by omega)⟩) (by omega) (by repeat (first | exact SubG.refl _ | exact SubG.nil | refine SubG.cons rfl (VT.le_refl _) ?_ | (refine SubG.cons rfl (one_le ?_) ?_; (congr 1; first | omega | (simp; omega) | simp)))) (.nil)
      · rw [decide_eq_false he] at hs
        rw [decide_eq_false (fun h => he (h.2 i hin))]
        refine J_seq ?_
        refine J_seq ?_
        refine J_reg ?_
        refine st (s_move rfl) rfl ?_
        refine st (s_move rfl) rfl ?_
        refine st (s_len rfl) rfl ?_
        refine st (sT (by omega) (s_lt rfl rfl)) rfl ?_
        refine Run.nil ?_
        refine pj_then ?_
        refine J_cond1 rfl ?_
        refine J_skip ?_
        refine pj_then ?_
        refine J_seq ?_
        refine J_block ?_
        refine J_seq ?_
        refine J_regd 10 mixed (by kernel_rfl) (by decide) ?_
        refine st (s_move rfl) rfl ?_
        refine st (s_move rfl) rfl ?_
        refine st (s_indexIN rfl rfl (by omega)) rfl ?_
        refine st (s_load rfl) rfl ?_
        refine st (s_move rfl) rfl ?_
        refine st (s_move rfl) rfl ?_
        refine st (s_indexIN rfl rfl (by omega)) rfl ?_
        refine st (s_load rfl) rfl ?_
        refine st (s_callk (hs ) rfl ⟨VT.le_refl _, VT.le_refl _, trivial⟩) rfl ?_
        refine st (s_not rfl) rfl ?_
        refine Run.nil ?_
        refine Run.nil ?_
        refine pj_then ?_
        refine J_cond1 rfl ?_
        refine J_seq ?_
        refine J_reg ?_
        refine st (s_assign rfl) rfl ?_
        refine Run.nil ?_
        refine pj_then ?_
        refine J_ret ?_
        refine pr_block ?_
        refine pr_then ?_
        refine pr_then ?_
        refine pr_block ?_
        refine pr_then ?_
        refine retc1 Tryz.results16 (.tmp rfl (VT.le_refl _))
    · rw [decide_eq_true ⟨rfl, fun q h => hq q (by omega)⟩]
      refine J_seq ?_
      refine J_seq ?_
      refine J_reg ?_
      refine st (s_move rfl) rfl ?_
      refine st (s_move rfl) rfl ?_
      refine st (s_len rfl) rfl ?_
      refine st (sF (by omega) (s_lt rfl rfl)) rfl ?_
      refine Run.nil ?_
      refine pj_then ?_
      refine J_cond0 rfl ?_
      refine J_exit ?_
      refine px_then ?_
      refine px_then ?_
      refine px_block ?_
      refine pj_then ?_
      refine J_seq ?_
      refine J_reg ?_
      refine st (s_assign rfl) rfl ?_
      refine Run.nil ?_
      refine pj_then ?_
      refine J_ret ?_
      refine retc1 Tryz.results16 (.tmp rfl (VT.le_refl _))
  · rw [decide_eq_false (fun k => h k.1)]
    refine J_seq ?_
    refine J_reg ?_
    refine st (s_assign rfl) rfl ?_
    refine Run.nil ?_
    refine pj_then ?_
    refine J_seq ?_
    refine J_seq ?_
    refine J_reg ?_
    refine st (s_move rfl) rfl ?_
    refine st (s_len rfl) rfl ?_
    refine st (s_move rfl) rfl ?_
    refine st (s_len rfl) rfl ?_
    refine st (sT (by omega) (s_ne rfl rfl)) rfl ?_
    refine Run.nil ?_
    refine pj_then ?_
    refine J_cond1 rfl ?_
    refine J_seq ?_
    refine J_reg ?_
    refine st (s_assign rfl) rfl ?_
    refine Run.nil ?_
    refine pj_then ?_
    refine J_ret ?_
    refine pr_then ?_
    refine retc1 Tryz.results16 (.tmp rfl (VT.le_refl _))
end Tor
end

section
set_option linter.unusedVariables false
set_option linter.unusedSimpArgs false
namespace Tor
open Go Go.RowKit Go.Proofs
theorem grow_le {sv : Option Nat} {T : TypeId} {L : Lay} {cap n m : Nat} {φ ψ χ : Nat → VT} (hm : m = n + 1) (h1 : ∀ q, q < n → φ q = χ q) (h2 : ψ 0 = χ n) :
    Own.le (sliO sv T L cap (n + 1) (fun q => if q < n then φ q else ψ (q - n))) (sliO sv T L cap m χ) := by
  subst hm
  refine sliO_eq fun q hq => ?_
  by_cases h : q < n
  · rw [if_pos h]; exact h1 q h
  · have : q = n := by omega
    subst this
    rw [if_neg h, Nat.sub_self]; exact h2
theorem grow_le1 {sv : Option Nat} {T : TypeId} {L : Lay} {cap n m : Nat} {φ χ : Nat → VT} {ψ : VT} (hm : m = n + 1) (h1 : ∀ q, q < n → φ q = χ q) (h2 : ψ = χ n) :
    Own.le (sliO sv T L cap (n + 1) (fun q => if q < n then φ q else ψ)) (sliO sv T L cap m χ) := grow_le (ψ := fun _ => ψ) hm h1 h2
theorem notOut {n : Nat} {l : List Int} (h : ∀ i, i < l.length → 0 ≤ l.getD i 0 ∧ l.getD i 0 < n) : outs n l = false := by
  rw [outs, List.any_eq_false]
  intro x hx
  obtain ⟨i, hi, rfl⟩ := List.getElem_of_mem hx
  have := h i hi
  have e : l.getD i 0 = l[i] := by simp [List.getD, hi]
  rw [e] at this
  simp; omega
theorem isOut {n : Nat} {l : List Int} {i : Nat} (hi : i < l.length) (h : l.getD i 0 < 0 ∨ (n : Int) ≤ l.getD i 0) : outs n l = true := by
  rw [outs, List.any_eq_true]
  have e : l.getD i 0 = l[i] := by simp [List.getD, hi]
  rw [e] at h
  exact ⟨l[i], List.getElem_mem hi, decide_eq_true h⟩
attribute [local irreducible] Tor.J Tor.PJ Tor.StepO Tor.one Tor.slT Tor.ptrT Tor.aggT Tor.tupT Tor.exT Tor.andT Tor.eP Tor.boxO Tor.sliO Tor.slV Tor.VT.le Tor.Ret Tor.anyT
attribute [local irreducible] bigT Tor.rowsO
set_option maxHeartbeats 4000000 in
theorem rInside_ok (l : List Int) (n : Nat) (hl : l.length ≤ 1048576) : Ok Tryz.prog 71 [numT .i64 l, one (.int .i64 n)] (one (.bool (!outs n l))) := by
  unfold numT
  refine Ok.enter Tryz.func71 rfl Tryz.ntmps71 rfl (fun w O => ?_)
  refine J_seq ?_
  refine J_reg ?_
  refine st (s_assign rfl) rfl ?_
  refine Run.nil ?_
  refine pj_then ?_
  refine J_seq ?_
  refine J_seq ?_
  refine J_reg ?_
  refine st (s_assign rfl) rfl ?_
  refine Run.nil ?_
  refine pj_then ?_
  refine J_block ?_
  refine J_sub (Γ' := [(0, _), (1, _), (4, _), (5, _)]) (SubG.cons rfl (VT.le_refl _) (SubG.cons rfl (VT.le_refl _) (SubG.cons rfl (VT.le_refl _) (SubG.cons rfl (VT.le_refl _) (SubG.nil))))) (SubM.refl _) ?_
  refine J_loopA (σ := Nat) (Γk := [(0, _), (1, _)]) (SubG.cons rfl (VT.le_refl _) (SubG.cons rfl (VT.le_refl _) (SubG.nil))) (fun i => [(5, one (.int .i64 (i : Nat)))]) (fun i M0 => M0) (fun i => i ≤ l.length ∧ ∀ j, j < i → 0 ≤ l.getD j 0 ∧ l.getD j 0 < n) (fun i => l.length - i) (0) (⟨Nat.zero_le _, fun j hj => absurd hj (Nat.not_lt_zero _)⟩) (by repeat (first | exact SubG.refl _ | exact SubG.nil | refine SubG.cons rfl (VT.le_refl _) ?_ | (refine SubG.cons rfl (one_le ?_) ?_; (congr 1; first | omega | (simp; omega) | simp)))) (.nil) (fun i hi => ?_)
  refine J_norm (Γ' := [(5, _), (0, _), (1, _)]) (M' := []) rfl rfl ?_
  refine J_seq ?_
  refine J_seq ?_
  refine J_reg ?_
  refine st (s_move rfl) rfl ?_
  refine st (s_move rfl) rfl ?_
  refine st (s_len rfl) rfl ?_
  refine st (s_lt rfl rfl) rfl ?_
  refine Run.nil ?_
  refine pj_then ?_
  refine J_if rfl (fun hc => ?_) (fun hc => ?_)
  · by_cases h1 : l.getD i 0 < 0
    · refine J_skip ?_
      refine pj_then ?_
      refine J_seq ?_
      refine J_block ?_
      refine J_seq ?_
      refine J_reg ?_
      refine st (s_move rfl) rfl ?_
      refine st (s_move rfl) rfl ?_
      (refine st (s_indexIN rfl rfl ?_) rfl ?_; omega)
      refine st (s_load rfl) rfl ?_
      refine st (sT (by assumption) (s_lt rfl rfl)) rfl ?_
      refine st (s_move rfl) rfl ?_
      refine sg0 rfl rfl rfl rfl ?_
      refine sg0 rfl rfl rfl rfl ?_
      refine sg0 rfl rfl rfl rfl ?_
      refine sg0 rfl rfl rfl rfl ?_
      refine sg0 rfl rfl rfl rfl ?_
      refine sg0 rfl rfl rfl rfl ?_
      refine st (s_pickT rfl rfl) rfl ?_
      refine Run.nil ?_
      refine pj_then ?_
      refine J_cond1 rfl ?_
      refine J_seq ?_
      refine J_reg ?_
      refine st (s_assign rfl) rfl ?_
      refine Run.nil ?_
      refine pj_then ?_
      refine J_ret ?_
      refine pr_block ?_
      refine pr_then ?_
      refine pr_then ?_
      refine pr_block ?_
      refine pr_then ?_
      refine retc1 Tryz.results71 (.tmp rfl (one_le (by rw [isOut (show i < l.length by omega) (.inl h1)]; rfl)))
    · by_cases h2 : (n : Int) ≤ l.getD i 0
      · refine J_skip ?_
        refine pj_then ?_
        refine J_seq ?_
        refine J_block ?_
        refine J_seq ?_
        refine J_reg ?_
        refine st (s_move rfl) rfl ?_
        refine st (s_move rfl) rfl ?_
        (refine st (s_indexIN rfl rfl ?_) rfl ?_; omega)
        refine st (s_load rfl) rfl ?_
        refine st (sF (by assumption) (s_lt rfl rfl)) rfl ?_
        refine st (s_move rfl) rfl ?_
        refine sg1 rfl rfl (s_move rfl) rfl ?_
        refine sg1 rfl rfl (s_move rfl) rfl ?_
        (refine sg1 rfl rfl (s_indexIN rfl rfl ?_) rfl ?_; omega)
        refine sg1 rfl rfl (s_load rfl) rfl ?_
        refine sg1 rfl rfl (s_move rfl) rfl ?_
        refine sg1 rfl rfl (sT (by assumption) (s_ge rfl rfl)) rfl ?_
        refine st (s_pickF rfl rfl) rfl ?_
        refine Run.nil ?_
        refine pj_then ?_
        refine J_cond1 rfl ?_
        refine J_seq ?_
        refine J_reg ?_
        refine st (s_assign rfl) rfl ?_
        refine Run.nil ?_
        refine pj_then ?_
        refine J_ret ?_
        refine pr_block ?_
        refine pr_then ?_
        refine pr_then ?_
        refine pr_block ?_
        refine pr_then ?_
        refine retc1 Tryz.results71 (.tmp rfl (one_le (by rw [isOut (show i < l.length by omega) (.inr h2)]; rfl)))
      · refine J_skip ?_
        refine pj_then ?_
        refine J_seq ?_
        refine J_block ?_
        refine J_seq ?_
        refine J_reg ?_
        refine st (s_move rfl) rfl ?_
        refine st (s_move rfl) rfl ?_
        (refine st (s_indexIN rfl rfl ?_) rfl ?_; omega)
        refine st (s_load rfl) rfl ?_
        refine st (sF (by assumption) (s_lt rfl rfl)) rfl ?_
        refine st (s_move rfl) rfl ?_
        refine sg1 rfl rfl (s_move rfl) rfl ?_
        refine sg1 rfl rfl (s_move rfl) rfl ?_
        (refine sg1 rfl rfl (s_indexIN rfl rfl ?_) rfl ?_; omega)
        refine sg1 rfl rfl (s_load rfl) rfl ?_
        refine sg1 rfl rfl (s_move rfl) rfl ?_
        refine sg1 rfl rfl (sF (by assumption) (s_ge rfl rfl)) rfl ?_
        refine st (s_pickF rfl rfl) rfl ?_
        refine Run.nil ?_
        refine pj_then ?_
        refine J_cond0 rfl ?_
        refine J_skip ?_
        refine pn_block ?_
        refine pj_then ?_
        refine J_reg ?_
        refine st (s_move rfl) rfl ?_
        (refine st (s_add rfl rfl (wrap_i64 ?_ ?_)) rfl ?_; omega; omega)
        refine st (s_assign rfl) rfl ?_
        refine Run.nil ?_
        refine pj_roundM (i + 1) (⟨by omega, fun j hj => (Nat.lt_succ_iff_lt_or_eq.1 hj).elim (hi.2 j) (fun e => by subst e; omega)⟩) (by omega) (by repeat (first | exact SubG.refl _ | exact SubG.nil | refine SubG.cons rfl (VT.le_refl _) ?_ | (refine SubG.cons rfl (one_le ?_) ?_; (congr 1; first | omega | (simp; omega) | simp)))) (.nil)
  · refine J_exit ?_
    refine px_then ?_
    refine px_then ?_
    refine px_block ?_
    refine pj_then ?_
    refine J_seq ?_
    refine J_reg ?_
    refine st (s_assign rfl) rfl ?_
    refine Run.nil ?_
    refine pj_then ?_
    refine J_ret ?_
    refine retc1 Tryz.results71 (.tmp rfl (one_le (by rw [notOut (fun j hj => hi.2 j (by omega))]; rfl)))
set_option maxHeartbeats 4000000 in
theorem rRange_ok (n : Nat) (hn : n ≤ 1048576) : Ok Tryz.prog 27 [one (.int .i64 n)] (slT .one n (fun i => one (.int .i64 (i : Nat)))) := by
  refine Ok.enter Tryz.func27 rfl Tryz.ntmps27 rfl (fun w O => ?_)
  refine J_seq ?_
  refine J_reg ?_
  refine st (s_assign rfl) rfl ?_
  refine Run.nil ?_
  refine pj_then ?_
  refine J_seq ?_
  refine J_reg ?_
  refine stSO (n := 0) rfl rfl rfl rfl rfl ?_
  refine PartsK.nil (fun bl => ?_)
  refine st (s_assign rfl) rfl ?_
  refine Run.nil ?_
  refine pj_then ?_
  refine J_seq ?_
  refine J_seq ?_
  refine J_reg ?_
  refine st (s_assign rfl) rfl ?_
  refine Run.nil ?_
  refine pj_then ?_
  refine J_block ?_
  refine J_sub (Γ' := [(0, _), (2, _), (3, _), (4, _)]) (SubG.cons rfl (VT.le_refl _) (SubG.cons rfl (VT.le_refl _) (SubG.cons rfl (VT.le_refl _) (SubG.cons rfl (VT.le_refl _) (SubG.nil))))) (SubM.refl _) ?_
  refine J_loopA (σ := Nat × Option Nat × Nat) (Γk := [(0, _), (2, _)]) (SubG.cons rfl (VT.le_refl _) (SubG.cons rfl (VT.le_refl _) (SubG.nil))) (fun s => [(4, one (.int .i64 (s.1 : Nat))), (3, one (slV s.2.1 s.1 s.2.2))]) (fun s M0 => (M0.set 0 (sliO s.2.1 3 .one s.2.2 s.1 (fun q => one (.int .i64 (q : Nat)))))) (fun s => s.1 ≤ n) (fun s => n - s.1) ((0, some bl, 0)) (Nat.zero_le _) (by repeat (first | exact SubG.refl _ | exact SubG.nil | refine SubG.cons rfl (VT.le_refl _) ?_ | (refine SubG.cons rfl (one_le ?_) ?_; (congr 1; first | omega | (simp; omega) | simp)))) (.keep (sliO_eq (fun q hq => by omega)) (.nil)) (fun s hs => ?_)
  refine J_norm (Γ' := [(4, _), (3, _), (0, _), (2, _)]) (M' := [_]) rfl rfl ?_
  obtain ⟨i, sv, cap⟩ := s
  dsimp only at hs ⊢
  refine J_seq ?_
  refine J_seq ?_
  refine J_reg ?_
  refine st (s_move rfl) rfl ?_
  refine st (s_move rfl) rfl ?_
  refine st (s_lt rfl rfl) rfl ?_
  refine Run.nil ?_
  refine pj_then ?_
  refine J_if rfl (fun hc => ?_) (fun hc => ?_)
  · refine J_skip ?_
    refine pj_then ?_
    refine J_seq ?_
    refine J_block ?_
    refine J_reg ?_
    refine st (s_move rfl) rfl ?_
    refine st (s_move rfl) rfl ?_
    refine stS1 rfl rfl rfl rfl ?_
    (refine a_append 0 rfl rfl rfl (leN rfl) ?_ ?_ rfl (ltN rfl) (fun sv14 cap14 => ?_); omega; omega)
    refine st (s_assign rfl) rfl ?_
    refine Run.nil ?_
    refine pn_block ?_
    refine pj_then ?_
    refine J_reg ?_
    refine st (s_move rfl) rfl ?_
    (refine st (s_add rfl rfl (wrap_i64 ?_ ?_)) rfl ?_; omega; omega)
    refine st (s_assign rfl) rfl ?_
    refine Run.nil ?_
    refine pj_roundM ((i + 1, sv14, cap14)) (by omega) (by omega) (by repeat (first | exact SubG.refl _ | exact SubG.nil | refine SubG.cons rfl (VT.le_refl _) ?_ | (refine SubG.cons rfl (one_le ?_) ?_; (congr 1; first | omega | (simp; omega) | simp)))) (.keep (grow_le1 rfl (fun _ _ => rfl) rfl) (.nil))
  · have e : i = n := by omega
    subst e
    refine J_exit ?_
    refine px_then ?_
    refine px_then ?_
    refine px_block ?_
    refine pj_then ?_
    refine J_seq ?_
    refine J_reg ?_
    refine st (s_move rfl) rfl ?_
    refine st (s_assign rfl) rfl ?_
    refine Run.nil ?_
    refine pj_then ?_
    refine J_ret ?_
    refine PJ_freeze (t := 2) (i := 0) rfl rfl ?_
    refine retc1 Tryz.results27 (.tmp rfl (VT.le_refl _))
end Tor
end

section
set_option linter.unusedVariables false
set_option linter.unusedSimpArgs false
namespace Tor
open Go Go.RowKit Go.Proofs
theorem perm6 (x y z u t s : Own) : [x, y, z, u, t, s].Perm ([y, z] ++ [x, u, t, s]) := (List.Perm.swap y x _).trans (List.Perm.cons y (List.Perm.swap z x _))
theorem perm5 (x y z u t : Own) : [x, y, z, u, t].Perm ([y, z] ++ [x, u, t]) := (List.Perm.swap y x _).trans (List.Perm.cons y (List.Perm.swap z x _))
attribute [local irreducible] Tor.J Tor.PJ Tor.StepO Tor.one Tor.slT Tor.ptrT Tor.aggT Tor.tupT Tor.exT Tor.andT Tor.eP Tor.boxO Tor.sliO Tor.slV Tor.VT.le Tor.Ret Tor.anyT
attribute [local irreducible] bigT Tor.rowsO
set_option maxHeartbeats 4000000 in
theorem rPick_ok (r c : Nat) (F : Nat → Nat → Int) (l m : List Int) (hl : l.length ≤ 1048576) (hm : m.length ≤ 1048576) :
    Ok Tryz.prog 24 [matF r c F, numT .i64 l, numT .i64 m] (resMT (!(outs r l || outs c m)) 1 l.length m.length (pickF l m F)) := by
  unfold resMT matF
  have hi1 := rInside_ok l r hl
  have hi2 := rInside_ok m c hm
  unfold numT at hi1 hi2 ⊢
  refine Ok.enter Tryz.func24 rfl Tryz.ntmps24 rfl (fun w O => ?_)
  cases h1 : outs r l with
  | true =>
    rw [h1] at hi1
    refine J_seq ?_
    refine J_reg ?_
    refine a_boxS rfl rfl (ltN rfl) (fun b3 => ?_)
    refine a_allocS (T := 28) rfl rfl rfl (fun b6 => ?_)
    refine st (s_assign rfl) rfl ?_
    refine Run.nil ?_
    refine pj_then ?_
    refine J_seq ?_
    refine J_seq ?_
    refine J_reg ?_
    refine st (s_move rfl) rfl ?_
    refine st (s_fieldAddr rfl) rfl ?_
    refine st (s_loadB 1 rfl rfl rfl) rfl ?_
    refine st (s_callk (hi1 ) rfl ⟨VT.le_refl _, VT.le_refl _, trivial⟩) rfl ?_
    refine st (s_not rfl) rfl ?_
    refine st (s_move rfl) rfl ?_
    refine sg0 rfl rfl rfl rfl ?_
    refine sg0 rfl rfl rfl rfl ?_
    refine sg0 rfl rfl rfl rfl ?_
    refine sg0 rfl rfl rfl rfl ?_
    refine sg0 rfl rfl rfl rfl ?_
    refine st (s_pickT rfl rfl) rfl ?_
    refine Run.nil ?_
    refine pj_then ?_
    refine J_cond1 rfl ?_
    refine J_seq ?_
    refine J_reg ?_
    refine stB rfl rfl rfl ?_
    refine BuildK.nil ?_
    refine a_storeW 0 rfl rfl rfl rfl ?_
    refine st (s_assign rfl) rfl ?_
    refine Run.nil ?_
    refine pj_then ?_
    refine J_ret ?_
    refine pr_then ?_
    refine retc2 Tryz.results24 (.cellW 0 rfl rfl (zero_mat _)) (.tmp rfl (VT.le_refl _))
  | false =>
    rw [h1] at hi1
    cases h2 : outs c m with
    | true =>
      rw [h2] at hi2
      refine J_seq ?_
      refine J_reg ?_
      refine a_boxS rfl rfl (ltN rfl) (fun b3 => ?_)
      refine a_allocS (T := 28) rfl rfl rfl (fun b6 => ?_)
      refine st (s_assign rfl) rfl ?_
      refine Run.nil ?_
      refine pj_then ?_
      refine J_seq ?_
      refine J_seq ?_
      refine J_reg ?_
      refine st (s_move rfl) rfl ?_
      refine st (s_fieldAddr rfl) rfl ?_
      refine st (s_loadB 1 rfl rfl rfl) rfl ?_
      refine st (s_callk (hi1 ) rfl ⟨VT.le_refl _, VT.le_refl _, trivial⟩) rfl ?_
      refine st (s_not rfl) rfl ?_
      refine st (s_move rfl) rfl ?_
      refine sg1 rfl rfl (s_move rfl) rfl ?_
      refine sg1 rfl rfl (s_fieldAddr rfl) rfl ?_
      refine sg1 rfl rfl (s_loadB 1 rfl rfl rfl) rfl ?_
      refine sg1 rfl rfl (s_callk (hi2 ) rfl ⟨VT.le_refl _, VT.le_refl _, trivial⟩) rfl ?_
      refine sg1 rfl rfl (s_not rfl) rfl ?_
      refine st (s_pickF rfl rfl) rfl ?_
      refine Run.nil ?_
      refine pj_then ?_
      refine J_cond1 rfl ?_
      refine J_seq ?_
      refine J_reg ?_
      refine stB rfl rfl rfl ?_
      refine BuildK.nil ?_
      refine a_storeW 0 rfl rfl rfl rfl ?_
      refine st (s_assign rfl) rfl ?_
      refine Run.nil ?_
      refine pj_then ?_
      refine J_ret ?_
      refine pr_then ?_
      refine retc2 Tryz.results24 (.cellW 0 rfl rfl (zero_mat _)) (.tmp rfl (VT.le_refl _))
    | false =>
      rw [h2] at hi2
      refine J_seq ?_
      refine J_reg ?_
      refine a_boxS rfl rfl (ltN rfl) (fun b3 => ?_)
      refine a_allocS (T := 28) rfl rfl rfl (fun b6 => ?_)
      refine st (s_assign rfl) rfl ?_
      refine Run.nil ?_
      refine pj_then ?_
      refine J_seq ?_
      refine J_seq ?_
      refine J_reg ?_
      refine st (s_move rfl) rfl ?_
      refine st (s_fieldAddr rfl) rfl ?_
      refine st (s_loadB 1 rfl rfl rfl) rfl ?_
      refine st (s_callk (hi1 ) rfl ⟨VT.le_refl _, VT.le_refl _, trivial⟩) rfl ?_
      refine st (s_not rfl) rfl ?_
      refine st (s_move rfl) rfl ?_
      refine sg1 rfl rfl (s_move rfl) rfl ?_
      refine sg1 rfl rfl (s_fieldAddr rfl) rfl ?_
      refine sg1 rfl rfl (s_loadB 1 rfl rfl rfl) rfl ?_
      refine sg1 rfl rfl (s_callk (hi2 ) rfl ⟨VT.le_refl _, VT.le_refl _, trivial⟩) rfl ?_
      refine sg1 rfl rfl (s_not rfl) rfl ?_
      refine st (s_pickF rfl rfl) rfl ?_
      refine Run.nil ?_
      refine pj_then ?_
      refine J_cond0 rfl ?_
      refine J_skip ?_
      refine pj_then ?_
      refine J_seq ?_
      refine J_reg ?_
      refine st (s_move rfl) rfl ?_
      refine st (s_len rfl) rfl ?_
      refine st (s_move rfl) rfl ?_
      refine st (s_len rfl) rfl ?_
      refine a_callM (rNew_ok _ _ (by assumption) (by assumption)) rfl ⟨VT.le_refl _, VT.le_refl _, trivial⟩ rfl rfl (fun s28 => ?_)
      refine a_allocS (T := 28) rfl rfl rfl (fun b8 => ?_)
      refine a_storeW 0 rfl rfl rfl rfl ?_
      refine Run.nil ?_
      refine pj_then ?_
      refine J_seq ?_
      refine J_seq ?_
      refine J_reg ?_
      refine st (s_assign rfl) rfl ?_
      refine Run.nil ?_
      refine pj_then ?_
      refine J_block ?_
      obtain ⟨⟨bs, sv1, cap1⟩, hlen, hsv⟩ := s28
      simp only at hlen hsv
      unfold newT
      dsimp only
      refine J_sub (Γ' := [(1, _), (2, _), (3, _), (6, _), (7, _), (8, _), (9, _)]) (SubG.cons rfl (VT.le_refl _) (SubG.cons rfl (VT.le_refl _) (SubG.cons rfl (VT.le_refl _) (SubG.cons rfl (VT.le_refl _) (SubG.cons rfl (VT.le_refl _) (SubG.cons rfl (VT.le_refl _) (SubG.cons rfl (VT.le_refl _) (SubG.nil)))))))) (SubM.refl _) ?_
      refine J_loopA (σ := Nat) (Γk := [(1, _), (2, _), (3, _), (6, _), (7, _), (8, _)]) (SubG.cons rfl (VT.le_refl _) (SubG.cons rfl (VT.le_refl _) (SubG.cons rfl (VT.le_refl _) (SubG.cons rfl (VT.le_refl _) (SubG.cons rfl (VT.le_refl _) (SubG.cons rfl (VT.le_refl _) (SubG.nil))))))) (fun i => [(9, one (.int .i64 (i : Nat)))]) (fun i M0 => (M0.set 2 (ownR m.length bs (fill2 (pickF l m F) i 0)))) (fun i => i ≤ l.length) (fun i => l.length - i) (0) (Nat.zero_le _) (by repeat (first | exact SubG.refl _ | exact SubG.nil | refine SubG.cons rfl (VT.le_refl _) ?_ | (refine SubG.cons rfl (one_le ?_) ?_; (congr 1; first | omega | (simp; omega) | simp)))) (.keep (Own.le_refl _) (.keep (Own.le_refl _) (.keep (ownR_le fun i j hi hj => by simp [fill2]) (.keep (Own.le_refl _) (.keep (Own.le_refl _) (.nil)))))) (fun i hi => ?_)
      refine J_norm (Γ' := [(9, _), (1, _), (2, _), (3, _), (6, _), (7, _), (8, _)]) (M' := [_, _, _, _, _]) rfl rfl ?_
      refine J_seq ?_
      refine J_seq ?_
      refine J_reg ?_
      refine st (s_move rfl) rfl ?_
      refine st (s_move rfl) rfl ?_
      refine st (s_len rfl) rfl ?_
      refine st (s_lt rfl rfl) rfl ?_
      refine Run.nil ?_
      refine pj_then ?_
      refine J_if rfl (fun hc => ?_) (fun hc => ?_)
      · obtain ⟨bo, rfl⟩ := sv_some hsv (by omega)
        have hx := outs_at h1 (show i < l.length by omega)
        refine J_skip ?_
        refine pj_then ?_
        refine J_seq ?_
        refine J_block ?_
        refine J_seq ?_
        refine J_reg ?_
        refine st (s_assign rfl) rfl ?_
        refine Run.nil ?_
        refine pj_then ?_
        refine J_block ?_
        refine J_sub (Γ' := [(1, _), (2, _), (3, _), (6, _), (7, _), (8, _), (9, _), (10, _)]) (SubG.cons rfl (VT.le_refl _) (SubG.cons rfl (VT.le_refl _) (SubG.cons rfl (VT.le_refl _) (SubG.cons rfl (VT.le_refl _) (SubG.cons rfl (VT.le_refl _) (SubG.cons rfl (VT.le_refl _) (SubG.cons rfl (VT.le_refl _) (SubG.cons rfl (VT.le_refl _) (SubG.nil))))))))) (SubM.refl _) ?_
        refine J_loopA (σ := Nat) (Γk := [(1, _), (2, _), (3, _), (6, _), (7, _), (8, _), (9, _)]) (SubG.cons rfl (VT.le_refl _) (SubG.cons rfl (VT.le_refl _) (SubG.cons rfl (VT.le_refl _) (SubG.cons rfl (VT.le_refl _) (SubG.cons rfl (VT.le_refl _) (SubG.cons rfl (VT.le_refl _) (SubG.cons rfl (VT.le_refl _) (SubG.nil)))))))) (fun j => [(10, one (.int .i64 (j : Nat)))]) (fun j M0 => (M0.set 2 (ownR m.length bs (fill2 (pickF l m F) i j)))) (fun j => j ≤ m.length) (fun j => m.length - j) (0) (Nat.zero_le _) (by repeat (first | exact SubG.refl _ | exact SubG.nil | refine SubG.cons rfl (VT.le_refl _) ?_ | (refine SubG.cons rfl (one_le ?_) ?_; (congr 1; first | omega | (simp; omega) | simp)))) (.keep (Own.le_refl _) (.keep (Own.le_refl _) (.keep (Own.le_refl _) (.keep (Own.le_refl _) (.keep (Own.le_refl _) (.nil)))))) (fun j hj => ?_)
        refine J_norm (Γ' := [(10, _), (1, _), (2, _), (3, _), (6, _), (7, _), (8, _), (9, _)]) (M' := [_, _, _, _, _]) rfl rfl ?_
        refine J_seq ?_
        refine J_seq ?_
        refine J_reg ?_
        refine st (s_move rfl) rfl ?_
        refine st (s_move rfl) rfl ?_
        refine st (s_len rfl) rfl ?_
        refine st (s_lt rfl rfl) rfl ?_
        refine Run.nil ?_
        refine pj_then ?_
        refine J_if rfl (fun hc2 => ?_) (fun hc2 => ?_)
        · have hy := outs_at h2 (show j < m.length by omega)
          refine J_skip ?_
          refine pj_then ?_
          refine J_seq ?_
          refine J_block ?_
          refine J_regd 20 mixed (by kernel_rfl) (by decide) ?_
          refine st (s_fieldAddr rfl) rfl ?_
          refine st (s_loadB 0 rfl rfl rfl) rfl ?_
          refine st (s_move rfl) rfl ?_
          (refine st (s_indexON rfl rfl ?_) rfl ?_; omega)
          (refine st (s_loadE 1 rfl rfl ?_) rfl ?_; omega)
          refine st (s_move rfl) rfl ?_
          refine st (s_fieldAddr rfl) rfl ?_
          refine st (s_loadB 4 rfl rfl rfl) rfl ?_
          refine st (s_move rfl) rfl ?_
          refine st (s_move rfl) rfl ?_
          (refine st (s_indexIN rfl rfl ?_) rfl ?_; omega)
          refine st (s_load rfl) rfl ?_
          (refine st (s_indexI rfl rfl ?_ ?_) rfl ?_; omega; omega)
          refine st (s_load rfl) rfl ?_
          refine st (s_move rfl) rfl ?_
          refine st (s_move rfl) rfl ?_
          (refine st (s_indexIN rfl rfl ?_) rfl ?_; omega)
          refine st (s_load rfl) rfl ?_
          (refine st (s_indexI rfl rfl ?_ ?_) rfl ?_; omega; omega)
          refine st (s_load rfl) rfl ?_
          refine Run.nil ?_
          (refine st (s_indexON rfl rfl ?_) rfl ?_; omega)
          (refine a_storeR 2 rfl rfl rfl (getq ?_) ?_ rfl ?_; omega; omega)
          refine Run.nil ?_
          refine pn_block ?_
          refine pj_then ?_
          refine J_reg ?_
          refine st (s_move rfl) rfl ?_
          refine st (s_addN _ 1 rfl rfl (by omega)) rfl ?_
          refine st (s_assign rfl) rfl ?_
          refine Run.nil ?_
          refine pj_roundM (j + 1) (by omega) (by omega) (by repeat (first | exact SubG.refl _ | exact SubG.nil | refine SubG.cons rfl (VT.le_refl _) ?_ | (refine SubG.cons rfl (one_le ?_) ?_; (congr 1; first | omega | (simp; omega) | simp)))) (.keep (Own.le_refl _) (.keep (Own.le_refl _) (.keep (upd_fill2 _ rfl) (.keep (Own.le_refl _) (.keep (Own.le_refl _) (.nil))))))
        · have hjm : j = m.length := by omega
          subst hjm
          refine J_exit ?_
          refine px_then ?_
          refine px_then ?_
          refine px_block ?_
          refine pn_block ?_
          refine pj_then ?_
          refine J_reg ?_
          refine st (s_move rfl) rfl ?_
          refine st (s_addN _ 1 rfl rfl (by omega)) rfl ?_
          refine st (s_assign rfl) rfl ?_
          refine Run.nil ?_
          refine pj_roundM (i + 1) (by omega) (by omega) (by repeat (first | exact SubG.refl _ | exact SubG.nil | refine SubG.cons rfl (VT.le_refl _) ?_ | (refine SubG.cons rfl (one_le ?_) ?_; (congr 1; first | omega | (simp; omega) | simp)))) (.keep (Own.le_refl _) (.keep (Own.le_refl _) (.keep (next_fill2) (.keep (Own.le_refl _) (.keep (Own.le_refl _) (.nil))))))
      · have hin : i = l.length := by omega
        subst hin
        refine J_exit ?_
        refine px_then ?_
        refine px_then ?_
        refine px_block ?_
        refine pj_then ?_
        refine J_seq ?_
        refine J_reg ?_
        refine st (s_loadW 0 rfl rfl) rfl ?_
        refine a_storeW 3 rfl rfl rfl rfl ?_
        refine st (s_assign rfl) rfl ?_
        refine Run.nil ?_
        refine pj_then ?_
        refine J_ret ?_
        refine PJ_open [outO sv1 cap1 l.length m.length bs, ownR m.length bs (fill2 (pickF l m F) l.length 0)] (perm5 _ _ _ _ _) (.keep (EntO.refl _) (.keep (EntO.box (newT_open hlen ⟨by simp, by simp, by simp⟩)) (.keep (EntO.refl _) .nil))) (EntG.refl _) ?_
        refine retc2 Tryz.results24 (.cellW 1 rfl rfl ((matF_le fun a b ha hb => by simp [fill2, ha]))) (.tmp rfl (VT.le_refl _))
end Tor
end

section
set_option linter.unusedVariables false
set_option linter.unusedSimpArgs false
namespace Tor
open Go Go.RowKit Go.Proofs
def ratF (n : Nat) (f : Nat → Rat) : VT := slT (.agg 4) n (fun i => ratT (f i))
theorem ratF_le {n : Nat} {f g : Nat → Rat} (h : ∀ i, i < n → f i = g i) : VT.le (ratF n f) (ratF n g) := slT_le fun i hi => le_eq (by rw [h i hi])
instance {n : Nat} {f : Nat → Rat} : Flat (ratF n f) .one := by unfold ratF; infer_instance
theorem rat_snoc {sv : Option Nat} {T : TypeId} {cap i : Nat} {h : Nat → Rat} {x : Rat} (hx : x = h i) : Own.le (sliO sv T (.agg 4) cap (i + 1) (fun q => if q < i then ratT (h q) else ratT x)) (sliO sv T (.agg 4) cap (i + 1) (fun q => ratT (h q))) := sliO_eq fun q hq => by
  subst hx
  by_cases c : q < i
  · rw [if_pos c]
  · rw [if_neg c, show q = i by omega]
attribute [local irreducible] Tor.J Tor.PJ Tor.StepO Tor.one Tor.slT Tor.ptrT Tor.aggT Tor.tupT Tor.exT Tor.andT Tor.eP Tor.boxO Tor.sliO Tor.slV Tor.VT.le Tor.Ret Tor.anyT Tor.xO
attribute [local irreducible] bigT ratT
set_option maxHeartbeats 4000000 in
theorem r8Rationals_ok (n : Nat) (f : Nat → Int) (hn : n ≤ 1048576) : Ok Tryz.prog 35 [rowF n f] (ratF n (fun i => (f i : Rat))) := by
  unfold ratF rowF
  refine Ok.enter Tryz.func35 rfl Tryz.ntmps35 rfl (fun w O => ?_)
  refine J_seq ?_
  refine J_reg ?_
  refine st (s_assign rfl) rfl ?_
  refine Run.nil ?_
  refine pj_then ?_
  refine J_seq ?_
  refine J_reg ?_
  refine stSO (n := 0) rfl rfl rfl rfl rfl ?_
  refine PartsK.nil (fun bl => ?_)
  refine st (s_assign rfl) rfl ?_
  refine Run.nil ?_
  refine pj_then ?_
  refine J_seq ?_
  refine J_seq ?_
  refine J_reg ?_
  refine st (s_assign rfl) rfl ?_
  refine Run.nil ?_
  refine pj_then ?_
  refine J_block ?_
  refine J_sub (Γ' := [(0, _), (2, _), (3, _), (4, _)]) (SubG.cons rfl (VT.le_refl _) (SubG.cons rfl (VT.le_refl _) (SubG.cons rfl (VT.le_refl _) (SubG.cons rfl (VT.le_refl _) (SubG.nil))))) (SubM.refl _) ?_
  refine J_loopA (σ := Nat × Option Nat × Nat) (Γk := [(0, _), (2, _)]) (SubG.cons rfl (VT.le_refl _) (SubG.cons rfl (VT.le_refl _) (SubG.nil))) (fun s => [(4, one (.int .i64 (s.1 : Nat))), (3, one (slV s.2.1 s.1 s.2.2))]) (fun s M0 => (M0.set 0 (sliO s.2.1 63 (.agg 4) s.2.2 s.1 (fun q => ratT (f q : Rat))))) (fun s => s.1 ≤ n) (fun s => n - s.1) ((0, some bl, 0)) (Nat.zero_le _) (by repeat (first | exact SubG.refl _ | exact SubG.nil | refine SubG.cons rfl (VT.le_refl _) ?_ | (refine SubG.cons rfl (one_le ?_) ?_; (congr 1; first | omega | (simp; omega) | simp)))) (.keep (sliO_eq (fun q hq => absurd hq (Nat.not_lt_zero _))) (.nil)) (fun s hs => ?_)
  refine J_norm (Γ' := [(4, _), (3, _), (0, _), (2, _)]) (M' := [_]) rfl rfl ?_
  obtain ⟨i, sv, cap⟩ := s
  dsimp only at hs ⊢
  by_cases hi : i < n
  · refine J_seq ?_
    refine J_seq ?_
    refine J_reg ?_
    refine st (s_move rfl) rfl ?_
    refine st (s_move rfl) rfl ?_
    refine st (s_len rfl) rfl ?_
    refine st (sT (by omega) (s_lt rfl rfl)) rfl ?_
    refine Run.nil ?_
    refine pj_then ?_
    refine J_cond1 rfl ?_
    refine J_skip ?_
    refine pj_then ?_
    refine J_seq ?_
    refine J_block ?_
    refine J_reg ?_
    refine st (s_move rfl) rfl ?_
    refine st (s_move rfl) rfl ?_
    refine st (s_move rfl) rfl ?_
    refine st (s_indexIN rfl rfl (by omega)) rfl ?_
    refine st (s_load rfl) rfl ?_
    refine st (s_callk (rqWhole_ok _) rfl ⟨VT.le_refl _, trivial⟩) rfl ?_
    refine stS1 rfl rfl rfl rfl ?_
    (refine a_append 0 rfl rfl rfl (leN rfl) ?_ ?_ rfl (ltN rfl) (fun sv19 cap19 => ?_); omega; omega)
    refine st (s_assign rfl) rfl ?_
    refine Run.nil ?_
    refine pn_block ?_
    refine pj_then ?_
    refine J_reg ?_
    refine st (s_move rfl) rfl ?_
    refine st (s_addN _ 1 rfl rfl (by omega)) rfl ?_
    refine st (s_assign rfl) rfl ?_
    refine Run.nil ?_
    refine pj_roundM ((i + 1, sv19, cap19)) (hi) (by omega) (by repeat (first | exact SubG.refl _ | exact SubG.nil | refine SubG.cons rfl (VT.le_refl _) ?_ | (refine SubG.cons rfl (one_le ?_) ?_; (congr 1; first | omega | (simp; omega) | simp)))) (.keep (rat_snoc (h := fun q => (f q : Rat)) rfl) (.nil))
  · have he : i = n := by omega
    subst he
    refine J_seq ?_
    refine J_seq ?_
    refine J_reg ?_
    refine st (s_move rfl) rfl ?_
    refine st (s_move rfl) rfl ?_
    refine st (s_len rfl) rfl ?_
    refine st (sF (by omega) (s_lt rfl rfl)) rfl ?_
    refine Run.nil ?_
    refine pj_then ?_
    refine J_cond0 rfl ?_
    refine J_exit ?_
    refine px_then ?_
    refine px_then ?_
    refine px_block ?_
    refine pj_then ?_
    refine J_seq ?_
    refine J_reg ?_
    refine st (s_move rfl) rfl ?_
    refine st (s_assign rfl) rfl ?_
    refine Run.nil ?_
    refine pj_then ?_
    refine J_ret ?_
    refine PJ_freeze (t := 2) (i := 0) rfl rfl ?_
    refine retc1 Tryz.results35 (.tmp rfl (VT.le_refl _))
set_option maxHeartbeats 4000000 in
theorem r8less_ok (n m : Nat) (a b : Nat → Rat) (c : Rat) (A B C : Nat) (hn : n ≤ 1048576) (hm : n ≤ m) (ha : ∀ i, i < n → qz A (a i)) (hb : ∀ i, i < n → qz B (b i)) (hc : qz C c) (hz : A + (C + B) + 1 ≤ 1099511627700) :
    Ok Tryz.prog 62 [ratF n a, ratF m b, ratT c] (ratF n (fun i => a i - c * b i)) := by
  unfold ratF
  refine Ok.enter Tryz.func62 rfl Tryz.ntmps62 rfl (fun w O => ?_)
  refine J_seq ?_
  refine J_reg ?_
  refine a_box rfl rfl (ltN rfl) (fun b5 => ?_)
  refine st (s_assign rfl) rfl ?_
  refine Run.nil ?_
  refine pj_then ?_
  refine J_seq ?_
  refine J_reg ?_
  refine stSO (n := 0) rfl rfl rfl rfl rfl ?_
  refine PartsK.nil (fun bl => ?_)
  refine st (s_assign rfl) rfl ?_
  refine Run.nil ?_
  refine pj_then ?_
  refine J_seq ?_
  refine J_seq ?_
  refine J_reg ?_
  refine st (s_assign rfl) rfl ?_
  refine Run.nil ?_
  refine pj_then ?_
  refine J_block ?_
  refine J_sub (Γ' := [(0, _), (1, _), (5, _), (6, _), (7, _), (8, _)]) (SubG.cons rfl (VT.le_refl _) (SubG.cons rfl (VT.le_refl _) (SubG.cons rfl (VT.le_refl _) (SubG.cons rfl (VT.le_refl _) (SubG.cons rfl (VT.le_refl _) (SubG.cons rfl (VT.le_refl _) (SubG.nil))))))) (SubM.refl _) ?_
  refine J_loopA (σ := Nat × Option Nat × Nat) (Γk := [(0, _), (1, _), (5, _), (6, _)]) (SubG.cons rfl (VT.le_refl _) (SubG.cons rfl (VT.le_refl _) (SubG.cons rfl (VT.le_refl _) (SubG.cons rfl (VT.le_refl _) (SubG.nil))))) (fun s => [(8, one (.int .i64 (s.1 : Nat))), (7, one (slV s.2.1 s.1 s.2.2))]) (fun s M0 => (M0.set 0 (sliO s.2.1 63 (.agg 4) s.2.2 s.1 (fun q => ratT (a q - c * b q))))) (fun s => s.1 ≤ n) (fun s => n - s.1) ((0, some bl, 0)) (Nat.zero_le _) (by repeat (first | exact SubG.refl _ | exact SubG.nil | refine SubG.cons rfl (VT.le_refl _) ?_ | (refine SubG.cons rfl (one_le ?_) ?_; (congr 1; first | omega | (simp; omega) | simp)))) (.keep (sliO_eq (fun q hq => absurd hq (Nat.not_lt_zero _))) (.keep (Own.le_refl _) (.nil))) (fun s hs => ?_)
  refine J_norm (Γ' := [(8, _), (7, _), (0, _), (1, _), (5, _), (6, _)]) (M' := [_, _]) rfl rfl ?_
  obtain ⟨i, sv, cap⟩ := s
  dsimp only at hs ⊢
  by_cases hi : i < n
  · have h1 := rqMul_ok c (b i) C B hc (hb i hi) (by omega)
    have h2 := rqSub_ok (a i) (c * b i) A (C + B) (ha i hi) (qz_mul hc (hb i hi)) hz
    refine J_seq ?_
    refine J_seq ?_
    refine J_reg ?_
    refine st (s_move rfl) rfl ?_
    refine st (s_move rfl) rfl ?_
    refine st (s_len rfl) rfl ?_
    refine st (sT (by omega) (s_lt rfl rfl)) rfl ?_
    refine Run.nil ?_
    refine pj_then ?_
    refine J_cond1 rfl ?_
    refine J_skip ?_
    refine pj_then ?_
    refine J_seq ?_
    refine J_block ?_
    refine J_regdT 13 mixed (by kernel_rfl) (by decide) ?_
    refine st (s_move rfl) rfl ?_
    refine st (s_move rfl) rfl ?_
    refine st (s_move rfl) rfl ?_
    refine st (s_indexIN rfl rfl (by omega)) rfl ?_
    refine st (s_load rfl) rfl ?_
    refine st (s_loadB 1 rfl rfl rfl) rfl ?_
    refine st (s_move rfl) rfl ?_
    refine st (s_move rfl) rfl ?_
    refine st (s_indexIN rfl rfl (by omega)) rfl ?_
    refine st (s_load rfl) rfl ?_
    refine st (s_callk (h1 ) rfl ⟨VT.le_refl _, VT.le_refl _, trivial⟩) rfl ?_
    refine st (s_callk (h2 ) rfl ⟨VT.le_refl _, VT.le_refl _, trivial⟩) rfl ?_
    refine stS1 rfl rfl rfl rfl ?_
    refine Run.nil ?_
    (refine a_append 0 rfl rfl rfl (leN rfl) ?_ ?_ rfl (ltN rfl) (fun sv29 cap29 => ?_); omega; omega)
    refine st (s_assign rfl) rfl ?_
    refine Run.nil ?_
    refine pn_block ?_
    refine pj_then ?_
    refine J_reg ?_
    refine st (s_move rfl) rfl ?_
    refine st (s_addN _ 1 rfl rfl (by omega)) rfl ?_
    refine st (s_assign rfl) rfl ?_
    refine Run.nil ?_
    refine pj_roundM ((i + 1, sv29, cap29)) (hi) (by omega) (by repeat (first | exact SubG.refl _ | exact SubG.nil | refine SubG.cons rfl (VT.le_refl _) ?_ | (refine SubG.cons rfl (one_le ?_) ?_; (congr 1; first | omega | (simp; omega) | simp)))) (.keep (rat_snoc (h := fun q => a q - c * b q) rfl) (.keep (Own.le_refl _) (.nil)))
  · have he : i = n := by omega
    subst he
    refine J_seq ?_
    refine J_seq ?_
    refine J_reg ?_
    refine st (s_move rfl) rfl ?_
    refine st (s_move rfl) rfl ?_
    refine st (s_len rfl) rfl ?_
    refine st (sF (by omega) (s_lt rfl rfl)) rfl ?_
    refine Run.nil ?_
    refine pj_then ?_
    refine J_cond0 rfl ?_
    refine J_exit ?_
    refine px_then ?_
    refine px_then ?_
    refine px_block ?_
    refine pj_then ?_
    refine J_seq ?_
    refine J_reg ?_
    refine st (s_move rfl) rfl ?_
    refine st (s_assign rfl) rfl ?_
    refine Run.nil ?_
    refine pj_then ?_
    refine J_ret ?_
    refine PJ_freeze (t := 6) (i := 0) rfl rfl ?_
    refine retc1 Tryz.results62 (.tmp rfl (VT.le_refl _))
end Tor
end

section
set_option linter.unusedVariables false
set_option linter.unusedSimpArgs false
namespace Tor.Lin
theorem det_clear (m : Nat) (B : Nat → Nat → Rat) (c : Nat → Rat) : det m (fun i j => if 0 < i then B i j - c i * B 0 j else B i j) = det m B := by
  have key : ∀ t, t ≤ m → det m (fun i j => if 0 < i ∧ i < t then B i j - c i * B 0 j else B i j) = det m B := by
    intro t
    induction t with
    | zero => intro _; exact det_congr fun i j _ _ => by rw [if_neg (by omega)]
    | succ t ih =>
      intro ht
      by_cases h0 : t = 0
      · subst h0; exact det_congr fun i j _ _ => by rw [if_neg (by omega)]
      · rw [← ih (by omega), ← det_rowop two_rat (p := t) (q := 0) h0 (by omega) (by omega) (- c t) (fun i j => if 0 < i ∧ i < t then B i j - c i * B 0 j else B i j)]
        exact det_congr fun i j _ _ => by
          by_cases h1 : i = t
          · subst h1
            rw [if_pos (by omega), if_pos rfl, if_neg (by omega), if_neg (by omega)]; grind
          · rw [if_neg h1]
            by_cases h2 : 0 < i ∧ i < t
            · rw [if_pos (by omega), if_pos h2]
            · rw [if_neg (by omega), if_neg h2]
  rw [← key m (Nat.le_refl _)]
  exact det_congr fun i j hi _ => by
    by_cases h : 0 < i
    · rw [if_pos h, if_pos ⟨h, hi⟩]
    · rw [if_neg h, if_neg (fun k => h k.1)]
def DetI (n k : Nat) (F : Nat → Nat → Int) (R : Nat → Nat → Rat) (o : Rat) : Prop := det n (fun i j => (F i j : Rat)) = o * det (n - k) (fun i j => R (k + i) (k + j))
theorem DetI.start (n : Nat) (F : Nat → Nat → Int) : DetI n 0 F (fun i j => (F i j : Rat)) 1 := by
  show _ = (1 : Rat) * det (n - 0) (fun i j => ((F (0 + i) (0 + j) : Int) : Rat))
  rw [Nat.sub_zero, det_congr (F := fun i j => ((F (0 + i) (0 + j) : Int) : Rat)) (G := fun i j => (F i j : Rat)) (fun i j _ _ => by simp only [Nat.zero_add])]; grind
theorem DetI.done {n : Nat} {F : Nat → Nat → Int} {R : Nat → Nat → Rat} {o : Rat} (h : DetI n n F R o) : o = ((detZ n F : Int) : Rat) := by
  rw [detZ_cast, h, Nat.sub_self]
  show o = o * 1
  grind
theorem DetI.zero {n k : Nat} {F : Nat → Nat → Int} {R : Nat → Nat → Rat} {o : Rat} (h : DetI n k F R o) (hk : k < n) (h0 : ∀ i, k ≤ i → i < n → R i k = 0) : detZ n F = 0 := by
  have : ((detZ n F : Int) : Rat) = ((0 : Int) : Rat) := by
    rw [detZ_cast, h, det_zcol (p := 0) (by omega) (fun i hi => by rw [Nat.add_zero]; exact h0 _ (by omega) (by omega))]
    have : ((0 : Int) : Rat) = 0 := rfl
    rw [this]; grind
  exact_mod_cast this
theorem DetI.swap {n k a : Nat} {F : Nat → Nat → Int} {R : Nat → Nat → Rat} {o : Rat} (h : DetI n k F R o) (hk : k < n) (ha : k ≤ a) (han : a < n) : DetI n k F (Tor.swp a k R) (if a = k then o else -o) := by
  unfold DetI at *
  by_cases e : a = k
  · subst e; rw [swp_self, if_pos rfl]; exact h
  · rw [if_neg e, h]
    have hsw := det_swap two_rat (n := n - k) (p := a - k) (q := 0) (by omega) (by omega) (by omega) (fun i j => R (k + i) (k + j))
    have e2 : det (n - k) (tw (fun i j => R (k + i) (k + j)) (a - k) 0 ((fun i j => R (k + i) (k + j)) 0) ((fun i j => R (k + i) (k + j)) (a - k))) = det (n - k) (fun i j => Tor.swp a k R (k + i) (k + j)) := det_congr fun i j _ _ => by
      unfold tw Tor.swp
      by_cases h1 : i = a - k
      · rw [if_pos h1, if_pos (show k + i = a by omega)]; rfl
      · rw [if_neg h1, if_neg (show ¬ k + i = a by omega)]
        by_cases h2 : i = 0
        · rw [if_pos h2, if_pos (show k + i = k by omega)]; show R (k + (a - k)) (k + j) = _; rw [show k + (a - k) = a by omega]
        · rw [if_neg h2, if_neg (show ¬ k + i = k by omega)]
    rw [e2] at hsw
    rw [hsw]; grind
theorem DetI.step {n k : Nat} {F : Nat → Nat → Int} {R : Nat → Nat → Rat} {o : Rat} (h : DetI n k F R o) (hk : k < n) (hn : R k k ≠ 0) : DetI n (k + 1) F (fun i j => if k < i then R i j - R i k / R k k * R k j else R i j) (o * R k k) := by
  unfold DetI at *
  rw [h, ← det_clear (n - k) (fun i j => R (k + i) (k + j)) (fun i => R (k + i) k / R k k)]
  have hm : n - k = (n - (k + 1)) + 1 := by omega
  rw [hm, det_first (fun i hi => by
    show (if 0 < i + 1 then R (k + (i + 1)) (k + 0) - R (k + (i + 1)) k / R k k * R (k + 0) (k + 0) else R (k + (i + 1)) (k + 0)) = 0
    rw [if_pos (by omega), Nat.add_zero]; grind)]
  have e1 : (if 0 < 0 then R (k + 0) (k + 0) - R (k + 0) k / R k k * R (k + 0) (k + 0) else R (k + 0) (k + 0)) = R k k := by rw [if_neg (by omega), Nat.add_zero]
  have e2 : det (n - (k + 1)) (fun i j => if 0 < i + 1 then R (k + (i + 1)) (k + (j + 1)) - R (k + (i + 1)) k / R k k * R (k + 0) (k + (j + 1)) else R (k + (i + 1)) (k + (j + 1))) = det (n - (k + 1)) (fun i j => if k < k + 1 + i then R (k + 1 + i) (k + 1 + j) - R (k + 1 + i) k / R k k * R k (k + 1 + j) else R (k + 1 + i) (k + 1 + j)) := det_congr fun i j _ _ => by
    rw [if_pos (by omega), if_pos (by omega), show k + (i + 1) = k + 1 + i by omega, show k + (j + 1) = k + 1 + j by omega]
    simp only [Nat.add_zero]
  show o * ((if 0 < 0 then R (k + 0) (k + 0) - R (k + 0) k / R k k * R (k + 0) (k + 0) else R (k + 0) (k + 0)) * det (n - (k + 1)) (fun i j => if 0 < i + 1 then R (k + (i + 1)) (k + (j + 1)) - R (k + (i + 1)) k / R k k * R (k + 0) (k + (j + 1)) else R (k + (i + 1)) (k + (j + 1)))) = _
  rw [e1, e2]; grind
end Tor.Lin
end

section
set_option linter.unusedVariables false
set_option linter.unusedSimpArgs false
namespace Tor
open Go Go.RowKit Go.Proofs
def rdB (α : Nat) : Nat → Nat
  | 0 => α
  | k + 1 => 4 * rdB α k + 1
theorem rdB_mono {α i k : Nat} (h : i ≤ k) : rdB α i ≤ rdB α k := by
  induction k with
  | zero => have : i = 0 := by omega
            subst this; exact Nat.le_refl _
  | succ k ih =>
    by_cases e : i = k + 1
    · rw [e]; exact Nat.le_refl _
    · have := ih (by omega)
      show rdB α i ≤ 4 * rdB α k + 1
      omega
def clrR (k i : Nat) (R : Nat → Nat → Rat) : Nat → Nat → Rat := fun q j => if k < q ∧ q < i then R q j - R q k / R k k * R k j else R q j
theorem clr_upd {sv : Option Nat} {T : TypeId} {cap n k i : Nat} {R : Nat → Nat → Rat} (h : k < i) : Own.le (sliO sv T .one cap n (upd (fun q => ratF n (clrR k i R q)) i (ratF n (fun j => R i j - R i k / R k k * R k j)))) (sliO sv T .one cap n (fun q => ratF n (clrR k (i + 1) R q))) := sliO_eq fun q hq => by
  show (if q = i then ratF n (fun j => R i j - R i k / R k k * R k j) else ratF n (clrR k i R q)) = _
  by_cases c : q = i
  · subst c; rw [if_pos rfl]; congr 1; funext j; unfold clrR; rw [if_pos (by omega)]
  · rw [if_neg c]; congr 1; funext j; unfold clrR
    by_cases c2 : k < q ∧ q < i
    · rw [if_pos c2, if_pos (by omega)]
    · rw [if_neg c2, if_neg (by omega)]
theorem clr_at {k i : Nat} {R : Nat → Nat → Rat} : clrR k i R i = R i := by funext j; unfold clrR; rw [if_neg (by omega)]
theorem clr_k {k i : Nat} {R : Nat → Nat → Rat} : clrR k i R k = R k := by funext j; unfold clrR; rw [if_neg (by omega)]
theorem clr_start {k : Nat} {R : Nat → Nat → Rat} : clrR k (k + 1) R = R := by funext q j; unfold clrR; rw [if_neg (by omega)]
theorem clr_end {k n : Nat} {F : Nat → Nat → Int} {R : Nat → Nat → Rat} {o : Rat} (h : Lin.DetI n (k + 1) F (fun i j => if k < i then R i j - R i k / R k k * R k j else R i j) o) : Lin.DetI n (k + 1) F (clrR k n R) o := by
  unfold Lin.DetI at *
  rw [h]; congr 1
  exact Lin.det_congr fun i j hi hj => by
    unfold clrR
    show (if k < k + 1 + i then _ else _) = _
    rw [if_pos (by omega), if_pos (by omega)]
theorem qz_clr {β k i : Nat} {R : Nat → Nat → Rat} (h : ∀ q j, qz β (R q j)) (h0 : R k k ≠ 0) : ∀ q j, qz (4 * β + 1) (clrR k i R q j) := fun q j => by
  unfold clrR; split
  · exact (qz_sub (h q j) (qz_mul (qz_over (h q k) (h k k) h0) (h k j))).mono (by omega)
  · exact (h q j).mono (by omega)
theorem qz_swp {β i k : Nat} {R : Nat → Nat → Rat} (h : ∀ q j, qz β (R q j)) : ∀ q j, qz β (swp i k R q j) := fun q j => by
  unfold swp; split
  · exact h _ _
  · split
    · exact h _ _
    · exact h _ _
structure RdI (α n k : Nat) (F : Nat → Nat → Int) (R : Nat → Nat → Rat) (o : Rat) : Prop where
  d : Lin.DetI n k F R o
  q : ∀ i j, qz (rdB α k) (R i j)
  o : qz (rdB α k) o
theorem RdI.next {α n k a : Nat} {F : Nat → Nat → Int} {R : Nat → Nat → Rat} {o : Rat} (h : RdI α n k F R o) (hα : 1 ≤ α) (hk : k < n) (ha : k ≤ a) (han : a < n) (h0 : R a k ≠ 0) : RdI α n (k + 1) F (clrR k n (swp a k R)) ((if a = k then o else -o) * R a k) := by
  have hs := h.d.swap hk ha han
  have hkk : swp a k R k k ≠ 0 := by rw [swp_at]; exact h0
  have ht := hs.step hk hkk
  rw [swp_at] at ht
  refine ⟨clr_end (by rw [swp_at]; exact ht), fun i j => qz_clr (qz_swp h.q) hkk i j, ?_⟩
  have ho : qz (rdB α k) (if a = k then o else -o) := by split; exact h.o; exact qz_neg h.o
  exact (qz_mul ho (h.q a k)).mono (by show rdB α k + rdB α k ≤ 4 * rdB α k + 1; omega)
theorem rat_swp {sv : Option Nat} {T : TypeId} {cap n a k : Nat} {R : Nat → Nat → Rat} (h : a ≠ k) : Own.le (sliO sv T .one cap n (upd (upd (fun q => ratF n (R q)) k (ratF n (R a))) a (ratF n (R k)))) (sliO sv T .one cap n (fun q => ratF n (swp a k R q))) := sliO_eq fun q hq => by
  show (if q = a then ratF n (R k) else (if q = k then ratF n (R a) else ratF n (R q))) = ratF n (if q = a then R k else if q = k then R a else R q)
  split
  · rfl
  · split <;> rfl
theorem row_snoc {sv : Option Nat} {T : TypeId} {cap n i : Nat} {R : Nat → Nat → Rat} {f : Nat → Rat} (h : f = R i) : Own.le (sliO sv T .one cap (i + 1) (fun q => if q < i then ratF n (R q) else ratF n f)) (sliO sv T .one cap (i + 1) (fun q => ratF n (R q))) := sliO_eq fun q hq => by
  subst h
  by_cases c : q < i
  · rw [if_pos c]
  · rw [if_neg c, show q = i by omega]
attribute [local irreducible] Tor.J Tor.PJ Tor.StepO Tor.one Tor.slT Tor.ptrT Tor.aggT Tor.tupT Tor.exT Tor.andT Tor.eP Tor.boxO Tor.sliO Tor.slV Tor.VT.le Tor.Ret Tor.anyT Tor.xO
attribute [local irreducible] bigT ratT
set_option maxHeartbeats 4000000 in
theorem r8Det_ok (n : Nat) (F : Nat → Nat → Int) (α : Nat) (hn : n ≤ 1024) (hα : 1 ≤ α) (hF : ∀ i j, lz α (F i j)) (hz : rdB α n ≤ 1099511627700) : Ok Tryz.prog 18 [matF n n F] (tupT [bigT (Lin.detZ n F), one (.int .i64 0)]) := by
  have hone := rqNumber_ok 1 (by decide) (by decide)
  unfold matF
  refine Ok.enter Tryz.func18 rfl Tryz.ntmps18 rfl (fun w O => ?_)
  refine J_seq ?_
  refine J_reg ?_
  refine a_boxS rfl rfl (ltN rfl) (fun b1 => ?_)
  refine a_alloc (T := 43) rfl (ltN rfl) (fun b2 => ?_)
  refine st (s_assign rfl) rfl ?_
  refine Run.nil ?_
  refine pj_then ?_
  refine J_seq ?_
  refine J_seq ?_
  refine J_reg ?_
  refine st (s_fieldAddr rfl) rfl ?_
  refine st (s_loadB 1 rfl rfl rfl) rfl ?_
  refine st (s_fieldAddr rfl) rfl ?_
  refine st (s_loadB 1 rfl rfl rfl) rfl ?_
  refine st (sF (by omega) (s_ne rfl rfl)) rfl ?_
  refine Run.nil ?_
  refine pj_then ?_
  refine J_cond0 rfl ?_
  refine J_skip ?_
  refine pj_then ?_
  refine J_seq ?_
  refine J_reg ?_
  refine stSO (n := 0) rfl rfl rfl rfl rfl ?_
  refine PartsK.nil (fun bl => ?_)
  refine st (s_callk (hone ) rfl ⟨VT.le_refl _, trivial⟩) rfl ?_
  refine a_allocS (T := 63) rfl rfl rfl (fun b5 => ?_)
  refine st (s_assign rfl) rfl ?_
  refine a_storeV 0 rfl rfl rfl rfl ?_
  refine Run.nil ?_
  refine pj_then ?_
  refine J_seq ?_
  refine J_seq ?_
  refine J_reg ?_
  refine st (s_assign rfl) rfl ?_
  refine Run.nil ?_
  refine pj_then ?_
  refine J_block ?_
  refine J_sub (Γ' := [(1, _), (2, _), (3, _), (4, _), (5, _), (6, _)]) (SubG.cons rfl (VT.le_refl _) (SubG.cons rfl (VT.le_refl _) (SubG.cons rfl (VT.le_refl _) (SubG.cons rfl (VT.le_refl _) (SubG.cons rfl (VT.le_refl _) (SubG.cons rfl (VT.le_refl _) (SubG.nil))))))) (SubM.refl _) ?_
  refine J_loopA (σ := Nat × Option Nat × Nat) (Γk := [(1, _), (2, _), (3, _), (5, _)]) (SubG.cons rfl (VT.le_refl _) (SubG.cons rfl (VT.le_refl _) (SubG.cons rfl (VT.le_refl _) (SubG.cons rfl (VT.le_refl _) (SubG.nil))))) (fun s => [(6, one (.int .i64 (s.1 : Nat))), (4, one (slV s.2.1 s.1 s.2.2))]) (fun s M0 => (M0.set 1 (sliO s.2.1 36 .one s.2.2 s.1 (fun q => ratF n (fun j => (F q j : Rat)))))) (fun s => s.1 ≤ n) (fun s => n - s.1) ((0, some bl, 0)) (Nat.zero_le _) (by repeat (first | exact SubG.refl _ | exact SubG.nil | refine SubG.cons rfl (VT.le_refl _) ?_ | (refine SubG.cons rfl (one_le ?_) ?_; (congr 1; first | omega | (simp; omega) | simp)))) (.keep (Own.le_refl _) (.keep (sliO_eq (fun q hq => absurd hq (Nat.not_lt_zero _))) (.keep (Own.le_refl _) (.keep (Own.le_refl _) (.nil))))) (fun s hs => ?_)
  refine J_norm (Γ' := [(6, _), (4, _), (1, _), (2, _), (3, _), (5, _)]) (M' := [_, _, _, _]) rfl rfl ?_
  obtain ⟨i, sv, cap⟩ := s
  dsimp only at hs ⊢
  by_cases hi : i < n
  · have hrat := r8Rationals_ok n (F i) (by omega)
    refine J_seq ?_
    refine J_seq ?_
    refine J_reg ?_
    refine st (s_move rfl) rfl ?_
    refine st (s_fieldAddr rfl) rfl ?_
    refine st (s_loadB 3 rfl rfl rfl) rfl ?_
    refine st (sT (by omega) (s_lt rfl rfl)) rfl ?_
    refine Run.nil ?_
    refine pj_then ?_
    refine J_cond1 rfl ?_
    refine J_skip ?_
    refine pj_then ?_
    refine J_seq ?_
    refine J_block ?_
    refine J_reg ?_
    refine st (s_move rfl) rfl ?_
    refine st (s_fieldAddr rfl) rfl ?_
    refine st (s_loadB 3 rfl rfl rfl) rfl ?_
    refine st (s_move rfl) rfl ?_
    refine st (s_indexIN rfl rfl (by omega)) rfl ?_
    refine st (s_load rfl) rfl ?_
    refine st (s_callk (hrat ) rfl ⟨VT.le_refl _, trivial⟩) rfl ?_
    refine stS1 rfl rfl rfl rfl ?_
    (refine a_append 1 rfl rfl rfl (leN rfl) ?_ ?_ rfl (ltN rfl) (fun sv32 cap32 => ?_); omega; omega)
    refine st (s_assign rfl) rfl ?_
    refine Run.nil ?_
    refine pn_block ?_
    refine pj_then ?_
    refine J_reg ?_
    refine st (s_move rfl) rfl ?_
    refine st (s_addN _ 1 rfl rfl (by omega)) rfl ?_
    refine st (s_assign rfl) rfl ?_
    refine Run.nil ?_
    refine pj_roundM ((i + 1, sv32, cap32)) (hi) (by omega) (by repeat (first | exact SubG.refl _ | exact SubG.nil | refine SubG.cons rfl (VT.le_refl _) ?_ | (refine SubG.cons rfl (one_le ?_) ?_; (congr 1; first | omega | (simp; omega) | simp)))) (.keep (Own.le_refl _) (.keep (row_snoc (R := fun q j => (F q j : Rat)) rfl) (.keep (Own.le_refl _) (.keep (Own.le_refl _) (.nil)))))
  · have he : i = n := by omega
    subst he
    refine J_seq ?_
    refine J_seq ?_
    refine J_reg ?_
    refine st (s_move rfl) rfl ?_
    refine st (s_fieldAddr rfl) rfl ?_
    refine st (s_loadB 3 rfl rfl rfl) rfl ?_
    refine st (sF (by omega) (s_lt rfl rfl)) rfl ?_
    refine Run.nil ?_
    refine pj_then ?_
    refine J_cond0 rfl ?_
    refine J_exit ?_
    refine px_then ?_
    refine px_then ?_
    refine px_block ?_
    refine pj_then ?_
    refine J_seq ?_
    refine J_seq ?_
    refine J_reg ?_
    refine st (s_assign rfl) rfl ?_
    refine Run.nil ?_
    refine pj_then ?_
    refine J_block ?_
    refine J_sub (Γ' := [(2, _), (3, _), (4, _), (5, _), (7, _)]) (SubG.cons rfl (VT.le_refl _) (SubG.cons rfl (VT.le_refl _) (SubG.cons rfl (VT.le_refl _) (SubG.cons rfl (VT.le_refl _) (SubG.cons rfl (VT.le_refl _) (SubG.nil)))))) (SubM.refl _) ?_
    refine J_loopA (σ := Nat × (Nat → Nat → Rat) × Rat) (Γk := [(2, _), (4, _), (5, _)]) (SubG.cons rfl (VT.le_refl _) (SubG.cons rfl (VT.le_refl _) (SubG.cons rfl (VT.le_refl _) (SubG.nil)))) (fun s => [(7, one (.int .i64 (s.1 : Nat)))]) (fun s M0 => ((M0.set 1 (sliO sv 36 .one cap i (fun q => ratF i (s.2.1 q)))).set 0 (boxO b5 63 4 [(0, .agg 4, ratT s.2.2)]))) (fun s => s.1 ≤ i ∧ RdI α i s.1 F s.2.1 s.2.2) (fun s => i - s.1) ((0, fun q j => (F q j : Rat), ((1 : Int) : Rat))) (⟨Nat.zero_le _, Lin.DetI.start i F, fun a b => qz_int hα (hF a b), qz_int hα (lz_one hα)⟩) (by repeat (first | exact SubG.refl _ | exact SubG.nil | refine SubG.cons rfl (VT.le_refl _) ?_ | (refine SubG.cons rfl (one_le ?_) ?_; (congr 1; first | omega | (simp; omega) | simp)))) (.keep (Own.le_refl _) (.keep (Own.le_refl _) (.keep (Own.le_refl _) (.keep (Own.le_refl _) (.nil))))) (fun s hs => ?_)
    refine J_norm (Γ' := [(7, _), (2, _), (4, _), (5, _)]) (M' := [_, _, _, _]) rfl rfl ?_
    obtain ⟨k, R, o⟩ := s
    obtain ⟨hk, hI⟩ := hs
    dsimp only at hk hI ⊢
    refine J_factM (i := 1) (F := sv = none → i = 0) rfl (fun g h hp he => sliO_none hp he) (fun hsv => ?_)
    by_cases hki : k < i
    · obtain ⟨bs, rfl⟩ := sv_some hsv (by omega)
      have hz2 : rdB α (k + 1) ≤ 1099511627700 := Nat.le_trans (rdB_mono (by omega)) hz
      have hz3 : rdB α (k + 1) = 4 * rdB α k + 1 := rfl
      refine J_seq ?_
      refine J_seq ?_
      refine J_reg ?_
      refine st (s_move rfl) rfl ?_
      refine st (s_move rfl) rfl ?_
      refine st (s_lenO rfl) rfl ?_
      refine st (sT (by omega) (s_lt rfl rfl)) rfl ?_
      refine Run.nil ?_
      refine pj_then ?_
      refine J_cond1 rfl ?_
      refine J_skip ?_
      refine pj_then ?_
      refine J_seq ?_
      refine J_block ?_
      refine J_seq ?_
      refine J_reg ?_
      refine st (s_move rfl) rfl ?_
      refine st (s_assign rfl) rfl ?_
      refine Run.nil ?_
      refine pj_then ?_
      refine J_seq ?_
      refine J_block ?_
      refine J_sub (Γ' := [(2, _), (4, _), (5, _), (7, _), (8, _)]) (SubG.cons rfl (VT.le_refl _) (SubG.cons rfl (VT.le_refl _) (SubG.cons rfl (VT.le_refl _) (SubG.cons rfl (VT.le_refl _) (SubG.cons rfl (VT.le_refl _) (SubG.nil)))))) (SubM.refl _) ?_
      refine J_loopA (σ := Nat) (Γk := [(2, _), (4, _), (5, _), (7, _)]) (SubG.cons rfl (VT.le_refl _) (SubG.cons rfl (VT.le_refl _) (SubG.cons rfl (VT.le_refl _) (SubG.cons rfl (VT.le_refl _) (SubG.nil))))) (fun a => [(8, one (.int .i64 (a : Nat)))]) (fun a M0 => M0) (fun a => k ≤ a ∧ a ≤ i ∧ ∀ q, k ≤ q → q < a → R q k = 0) (fun a => i - a) (k) (⟨Nat.le_refl _, hk, fun q h1 h2 => absurd h2 (by omega)⟩) (by repeat (first | exact SubG.refl _ | exact SubG.nil | refine SubG.cons rfl (VT.le_refl _) ?_ | (refine SubG.cons rfl (one_le ?_) ?_; (congr 1; first | omega | (simp; omega) | simp)))) (.keep (Own.le_refl _) (.keep (Own.le_refl _) (.keep (Own.le_refl _) (.keep (Own.le_refl _) (.nil))))) (fun a ha => ?_)
      refine J_norm (Γ' := [(8, _), (2, _), (4, _), (5, _), (7, _)]) (M' := [_, _, _, _]) rfl rfl ?_
      obtain ⟨ha1, ha2, ha3⟩ := ha
      unfold ratF
      by_cases hai : a < i
      · have hsg := sgnI_zero (R a k).num
        by_cases h0 : R a k = 0
        · have hs0 := hsg.2 (Rat.num_eq_zero.2 h0)
          refine J_seq ?_
          refine J_seq ?_
          refine J_reg ?_
          refine st (s_move rfl) rfl ?_
          refine st (s_move rfl) rfl ?_
          refine st (s_lenO rfl) rfl ?_
          refine st (sT (by omega) (s_lt rfl rfl)) rfl ?_
          refine st (s_move rfl) rfl ?_
          refine sg1 rfl rfl (s_move rfl) rfl ?_
          refine sg1 rfl rfl (s_move rfl) rfl ?_
          refine sg1 rfl rfl (s_indexON rfl rfl (by omega)) rfl ?_
          refine sg1 rfl rfl (s_loadE 1 rfl rfl (by omega)) rfl ?_
          refine sg1 rfl rfl (s_move rfl) rfl ?_
          refine sg1 rfl rfl (s_indexIN rfl rfl (by omega)) rfl ?_
          refine sg1 rfl rfl (s_load rfl) rfl ?_
          refine sg1 rfl rfl (s_callk (rqSign_ok _) rfl ⟨VT.le_refl _, trivial⟩) rfl ?_
          refine sg1 rfl rfl (sT (by assumption) (s_eq rfl rfl)) rfl ?_
          refine st (s_pickT rfl rfl) rfl ?_
          refine Run.nil ?_
          refine pj_then ?_
          refine J_cond1 rfl ?_
          refine J_skip ?_
          refine pj_then ?_
          refine J_block ?_
          refine J_reg ?_
          refine st (s_move rfl) rfl ?_
          refine st (s_addN _ 1 rfl rfl (by omega)) rfl ?_
          refine st (s_assign rfl) rfl ?_
          refine Run.nil ?_
          refine pn_block ?_
          refine pj_roundM (a + 1) (⟨by omega, hai, fun q h1 h2 => by by_cases h3 : q = a; exact h3 ▸ h0; exact ha3 q h1 (by omega)⟩) (by omega) (by repeat (first | exact SubG.refl _ | exact SubG.nil | refine SubG.cons rfl (VT.le_refl _) ?_ | (refine SubG.cons rfl (one_le ?_) ?_; (congr 1; first | omega | (simp; omega) | simp)))) (.keep (Own.le_refl _) (.keep (Own.le_refl _) (.keep (Own.le_refl _) (.keep (Own.le_refl _) (.nil)))))
        · have hs0 : sgnI (R a k).num ≠ 0 := fun h => h0 (Rat.num_eq_zero.1 (hsg.1 h))
          have hnx := hI.next hα hki ha1 hai h0
          by_cases hak : a = k
          · have hnx' : RdI α i (k + 1) F (clrR k i R) (o * R k k) := by rw [hak, swp_self, if_pos rfl] at hnx; exact hnx
            have hkk : R k k ≠ 0 := by rw [← hak]; rw [hak] at h0 ⊢; exact h0
            have hq1 := hI.q
            have hq2 := hI.o
            have hmul := rqMul_ok o (R k k) (rdB α k) (rdB α k) hq2 (hq1 k k) (by omega)
            refine J_seq ?_
            refine J_seq ?_
            refine J_reg ?_
            refine st (s_move rfl) rfl ?_
            refine st (s_move rfl) rfl ?_
            refine st (s_lenO rfl) rfl ?_
            refine st (sT (by omega) (s_lt rfl rfl)) rfl ?_
            refine st (s_move rfl) rfl ?_
            refine sg1 rfl rfl (s_move rfl) rfl ?_
            refine sg1 rfl rfl (s_move rfl) rfl ?_
            refine sg1 rfl rfl (s_indexON rfl rfl (by omega)) rfl ?_
            refine sg1 rfl rfl (s_loadE 1 rfl rfl (by omega)) rfl ?_
            refine sg1 rfl rfl (s_move rfl) rfl ?_
            refine sg1 rfl rfl (s_indexIN rfl rfl (by omega)) rfl ?_
            refine sg1 rfl rfl (s_load rfl) rfl ?_
            refine sg1 rfl rfl (s_callk (rqSign_ok _) rfl ⟨VT.le_refl _, trivial⟩) rfl ?_
            refine sg1 rfl rfl (sF (by assumption) (s_eq rfl rfl)) rfl ?_
            refine st (s_pickT rfl rfl) rfl ?_
            refine Run.nil ?_
            refine pj_then ?_
            refine J_cond0 rfl ?_
            refine J_exit ?_
            refine px_then ?_
            refine px_then ?_
            refine px_block ?_
            refine pj_then ?_
            refine J_seq ?_
            refine J_seq ?_
            refine J_reg ?_
            refine st (s_move rfl) rfl ?_
            refine st (s_move rfl) rfl ?_
            refine st (s_lenO rfl) rfl ?_
            refine st (sF (by omega) (s_eq rfl rfl)) rfl ?_
            refine Run.nil ?_
            refine pj_then ?_
            refine J_cond0 rfl ?_
            refine J_skip ?_
            refine pj_then ?_
            refine J_seq ?_
            refine J_seq ?_
            refine J_reg ?_
            refine st (s_move rfl) rfl ?_
            refine st (s_move rfl) rfl ?_
            refine st (sF (by omega) (s_ne rfl rfl)) rfl ?_
            refine Run.nil ?_
            refine pj_then ?_
            refine J_cond0 rfl ?_
            refine J_skip ?_
            refine pj_then ?_
            refine J_seq ?_
            refine J_regd 9 mixed (by kernel_rfl) (by decide) ?_
            refine st (s_loadB 0 rfl rfl rfl) rfl ?_
            refine st (s_move rfl) rfl ?_
            refine st (s_move rfl) rfl ?_
            refine st (s_indexON rfl rfl (by omega)) rfl ?_
            refine st (s_loadE 1 rfl rfl (by omega)) rfl ?_
            refine st (s_move rfl) rfl ?_
            refine st (s_indexIN rfl rfl (by omega)) rfl ?_
            refine st (s_load rfl) rfl ?_
            refine st (s_callk (hmul ) rfl ⟨VT.le_refl _, VT.le_refl _, trivial⟩) rfl ?_
            refine Run.nil ?_
            refine a_storeB 0 rfl rfl rfl rfl rfl (leN rfl) rfl ?_
            refine Run.nil ?_
            refine pj_then ?_
            refine J_seq ?_
            refine J_reg ?_
            refine st (s_move rfl) rfl ?_
            refine st (s_addN _ 1 rfl rfl (by omega)) rfl ?_
            refine st (s_assign rfl) rfl ?_
            refine Run.nil ?_
            refine pj_then ?_
            refine J_block ?_
            refine J_sub (Γ' := [(2, _), (4, _), (5, _), (7, _), (9, _)]) (SubG.cons rfl (VT.le_refl _) (SubG.cons rfl (VT.le_refl _) (SubG.cons rfl (VT.le_refl _) (SubG.cons rfl (VT.le_refl _) (SubG.cons rfl (VT.le_refl _) (SubG.nil)))))) (SubM.refl _) ?_
            refine J_loopA (σ := Nat) (Γk := [(2, _), (4, _), (5, _), (7, _)]) (SubG.cons rfl (VT.le_refl _) (SubG.cons rfl (VT.le_refl _) (SubG.cons rfl (VT.le_refl _) (SubG.cons rfl (VT.le_refl _) (SubG.nil))))) (fun j => [(9, one (.int .i64 (j : Nat)))]) (fun j M0 => (M0.set 1 (sliO (some bs) 36 .one cap i (fun q => ratF i (clrR k j R q))))) (fun j => k + 1 ≤ j ∧ j ≤ i) (fun j => i - j) (k + 1) (⟨Nat.le_refl _, hki⟩) (by repeat (first | exact SubG.refl _ | exact SubG.nil | refine SubG.cons rfl (VT.le_refl _) ?_ | (refine SubG.cons rfl (one_le ?_) ?_; (congr 1; first | omega | (simp; omega) | simp)))) (.keep (Own.le_refl _) (.keep (by (rw [clr_start]; exact Own.le_refl _)) (.keep (Own.le_refl _) (.keep (Own.le_refl _) (.nil))))) (fun j hj => ?_)
            refine J_norm (Γ' := [(9, _), (2, _), (4, _), (5, _), (7, _)]) (M' := [_, _, _, _]) rfl rfl ?_
            obtain ⟨hj1, hj2⟩ := hj
            by_cases hji : j < i
            · have hov := rqOver_ok (R j k) (R k k) (rdB α k) (rdB α k) (hq1 j k) (hq1 k k) (by omega) hkk
              have hl := r8less_ok i i (R j) (R k) (R j k / R k k) (rdB α k) (rdB α k) (rdB α k + rdB α k) (by omega) (Nat.le_refl _) (fun q _ => hq1 j q) (fun q _ => hq1 k q) (qz_over (hq1 j k) (hq1 k k) hkk) (by omega)
              unfold ratF at hl ⊢
              refine J_seq ?_
              refine J_seq ?_
              refine J_reg ?_
              refine st (s_move rfl) rfl ?_
              refine st (s_move rfl) rfl ?_
              refine st (s_lenO rfl) rfl ?_
              refine st (sT (by omega) (s_lt rfl rfl)) rfl ?_
              refine Run.nil ?_
              refine pj_then ?_
              refine J_cond1 rfl ?_
              refine J_skip ?_
              refine pj_then ?_
              refine J_seq ?_
              refine J_block ?_
              refine J_regd 26 mixed (by kernel_rfl) (by decide) ?_
              refine st (s_move rfl) rfl ?_
              refine st (s_move rfl) rfl ?_
              refine st (s_move rfl) rfl ?_
              refine st (s_move rfl) rfl ?_
              refine st (s_indexON rfl rfl (by omega)) rfl ?_
              refine st (s_loadE 1 rfl rfl (by omega)) rfl ?_
              refine st (s_move rfl) rfl ?_
              refine st (s_move rfl) rfl ?_
              refine st (s_indexON rfl rfl (by omega)) rfl ?_
              refine st (s_loadE 1 rfl rfl (by omega)) rfl ?_
              refine st (s_move rfl) rfl ?_
              refine st (s_move rfl) rfl ?_
              refine st (s_indexON rfl rfl (by omega)) rfl ?_
              refine st (s_loadE 1 rfl rfl (by omega)) rfl ?_
              refine st (s_move rfl) rfl ?_
              refine st (s_indexIN rfl rfl (by omega)) rfl ?_
              refine st (s_load rfl) rfl ?_
              refine st (s_move rfl) rfl ?_
              refine st (s_move rfl) rfl ?_
              refine st (s_indexON rfl rfl (by omega)) rfl ?_
              refine st (s_loadE 1 rfl rfl (by omega)) rfl ?_
              refine st (s_move rfl) rfl ?_
              refine st (s_indexIN rfl rfl (by omega)) rfl ?_
              refine st (s_load rfl) rfl ?_
              refine st (s_callk (hov ) rfl ⟨(by (simp only [clr_at, clr_k]; exact VT.le_refl _)), (by (simp only [clr_at, clr_k]; exact VT.le_refl _)), trivial⟩) rfl ?_
              refine st (s_callk (hl ) rfl ⟨(by (simp only [clr_at, clr_k]; exact VT.le_refl _)), (by (simp only [clr_at, clr_k]; exact VT.le_refl _)), VT.le_refl _, trivial⟩) rfl ?_
              refine Run.nil ?_
              refine st (s_indexON rfl rfl (by omega)) rfl ?_
              (refine a_storeE 1 rfl rfl rfl ?_ rfl ?_; omega)
              refine Run.nil ?_
              refine pn_block ?_
              refine pj_then ?_
              refine J_reg ?_
              refine st (s_move rfl) rfl ?_
              refine st (s_addN _ 1 rfl rfl (by omega)) rfl ?_
              refine st (s_assign rfl) rfl ?_
              refine Run.nil ?_
              refine pj_roundM (j + 1) (⟨by omega, hji⟩) (by omega) (by repeat (first | exact SubG.refl _ | exact SubG.nil | refine SubG.cons rfl (VT.le_refl _) ?_ | (refine SubG.cons rfl (one_le ?_) ?_; (congr 1; first | omega | (simp; omega) | simp)))) (.keep (Own.le_refl _) (.keep (clr_upd (by omega)) (.keep (Own.le_refl _) (.keep (Own.le_refl _) (.nil)))))
            · have hjn : j = i := by omega
              rw [hjn]
              refine J_seq ?_
              refine J_seq ?_
              refine J_reg ?_
              refine st (s_move rfl) rfl ?_
              refine st (s_move rfl) rfl ?_
              refine st (s_lenO rfl) rfl ?_
              refine st (sF (by omega) (s_lt rfl rfl)) rfl ?_
              refine Run.nil ?_
              refine pj_then ?_
              refine J_cond0 rfl ?_
              refine J_exit ?_
              refine px_then ?_
              refine px_then ?_
              refine px_block ?_
              refine pn_block ?_
              refine pj_then ?_
              refine J_reg ?_
              refine st (s_move rfl) rfl ?_
              refine st (s_addN _ 1 rfl rfl (by omega)) rfl ?_
              refine st (s_assign rfl) rfl ?_
              refine Run.nil ?_
              refine pj_roundM ((k + 1, clrR k i R, o * R k k)) (⟨hki, hnx'⟩) (by omega) (by repeat (first | exact SubG.refl _ | exact SubG.nil | refine SubG.cons rfl (VT.le_refl _) ?_ | (refine SubG.cons rfl (one_le ?_) ?_; (congr 1; first | omega | (simp; omega) | simp)))) (.keep (Own.le_refl _) (.keep (Own.le_refl _) (.keep (Own.le_refl _) (.keep (Own.le_refl _) (.nil)))))
          · refine J_seq ?_
            refine J_seq ?_
            refine J_reg ?_
            refine st (s_move rfl) rfl ?_
            refine st (s_move rfl) rfl ?_
            refine st (s_lenO rfl) rfl ?_
            refine st (sT (by omega) (s_lt rfl rfl)) rfl ?_
            refine st (s_move rfl) rfl ?_
            refine sg1 rfl rfl (s_move rfl) rfl ?_
            refine sg1 rfl rfl (s_move rfl) rfl ?_
            refine sg1 rfl rfl (s_indexON rfl rfl (by omega)) rfl ?_
            refine sg1 rfl rfl (s_loadE 1 rfl rfl (by omega)) rfl ?_
            refine sg1 rfl rfl (s_move rfl) rfl ?_
            refine sg1 rfl rfl (s_indexIN rfl rfl (by omega)) rfl ?_
            refine sg1 rfl rfl (s_load rfl) rfl ?_
            refine sg1 rfl rfl (s_callk (rqSign_ok _) rfl ⟨VT.le_refl _, trivial⟩) rfl ?_
            refine sg1 rfl rfl (sF (by assumption) (s_eq rfl rfl)) rfl ?_
            refine st (s_pickT rfl rfl) rfl ?_
            refine Run.nil ?_
            refine pj_then ?_
            refine J_cond0 rfl ?_
            refine J_exit ?_
            refine px_then ?_
            refine px_then ?_
            refine px_block ?_
            refine pj_then ?_
            refine J_seq ?_
            refine J_seq ?_
            refine J_reg ?_
            refine st (s_move rfl) rfl ?_
            refine st (s_move rfl) rfl ?_
            refine st (s_lenO rfl) rfl ?_
            refine st (sF (by omega) (s_eq rfl rfl)) rfl ?_
            refine Run.nil ?_
            refine pj_then ?_
            refine J_cond0 rfl ?_
            refine J_skip ?_
            refine pj_then ?_
            refine J_seq ?_
            refine J_seq ?_
            refine J_reg ?_
            refine st (s_move rfl) rfl ?_
            refine st (s_move rfl) rfl ?_
            refine st (sT (by omega) (s_ne rfl rfl)) rfl ?_
            refine Run.nil ?_
            refine pj_then ?_
            refine J_cond1 rfl ?_
            refine J_seq ?_
            apply J_regG (Γ1 := [(2, _), (4, _), (5, _), (7, _)]) (M1 := [_, _, _, _]) 12 7 [2, 3] [] mixed (by kernel_rfl) (by decide)
            · refine st (s_move rfl) rfl ?_
              refine st (s_move rfl) rfl ?_
              refine st (s_move rfl) rfl ?_
              refine st (s_move rfl) rfl ?_
              refine st (s_move rfl) rfl ?_
              refine st (s_move rfl) rfl ?_
              refine st (s_indexON rfl rfl (by omega)) rfl ?_
              refine st (s_loadE 1 rfl rfl (by omega)) rfl ?_
              refine st (s_move rfl) rfl ?_
              refine st (s_move rfl) rfl ?_
              refine st (s_indexON rfl rfl (by omega)) rfl ?_
              refine st (s_loadE 1 rfl rfl (by omega)) rfl ?_
              refine Run.nil ?_
              refine entry2 (Γa := [(2, _), (4, _), (5, _), (7, _), (8, _), (65, _), (66, _), (72, _), (76, _)]) (Γb := [(2, _), (4, _), (5, _), (7, _), (8, _), (65, _), (66, _), (72, _), (76, _), (68, _)]) (Γc := [(2, _), (4, _), (5, _), (7, _), (8, _), (65, _), (66, _), (72, _), (76, _), (67, _)]) (Γd := [(2, _), (4, _), (5, _), (7, _), (8, _), (65, _), (66, _), (72, _), (76, _), (67, _), (68, _)]) (rem := [12, 13, 14, 15]) rfl (by repeat (first | exact SubG.nil | refine SubG.cons rfl (VT.le_refl _) ?_)) rfl (by repeat (first | exact SubG.nil | refine SubG.cons rfl (VT.le_refl _) ?_)) rfl (by repeat (first | exact SubG.nil | refine SubG.cons rfl (VT.le_refl _) ?_)) rfl (by repeat (first | exact SubG.nil | refine SubG.cons rfl (VT.le_refl _) ?_)) rfl ?_ ?_ ?_ ?_
              · refine game_three (r1 := [3, 12, 13, 14, 15]) (r2 := [2, 12, 13, 14, 15]) (r3 := [2, 3, 13, 14, 15]) (i := 2) (j := 3) (k := 12) (by kernel_rfl) rfl rfl rfl rfl rfl rfl ?_ ?_ ?_ DeadOk.nil
                refine st (s_move rfl) rfl ?_
                refine Run.nil ?_
                refine ⟨rfl, ?_⟩
                refine game_two (rem' := [12, 13, 14, 15]) (rem'' := [3, 13, 14, 15]) (i := 3) (j := 12) (by kernel_rfl) rfl rfl rfl rfl ?_ ?_ DeadOk.nil
                refine st (s_move rfl) rfl ?_
                refine Run.nil ?_
                refine ⟨rfl, ?_⟩
                refine game_one (rem' := [13, 14, 15]) (i := 12) (by kernel_rfl) rfl rfl ?_ DeadOk.nil
                refine st (s_indexON rfl rfl (by omega)) rfl ?_
                refine Run.nil ?_
                refine ⟨rfl, ?_⟩
                refine game_one (rem' := [14, 15]) (i := 13) (by kernel_rfl) rfl rfl ?_ DeadOk.nil
                (refine a_storeE 1 rfl rfl rfl ?_ rfl ?_; omega)
                refine Run.nil ?_
                refine ⟨rfl, ?_⟩
                refine game_one (rem' := [15]) (i := 14) (by kernel_rfl) rfl rfl ?_ DeadOk.nil
                refine st (s_indexON rfl rfl (by omega)) rfl ?_
                refine Run.nil ?_
                refine ⟨rfl, ?_⟩
                refine game_one (rem' := []) (i := 15) (by kernel_rfl) rfl rfl ?_ DeadOk.nil
                (refine a_storeE 1 rfl rfl rfl ?_ rfl ?_; omega)
                refine Run.nil ?_
                refine ⟨rfl, ?_⟩
                refine game_end (by repeat (first | exact SubG.nil | refine SubG.cons rfl (VT.le_refl _) ?_)) (SubM.refl _) DeadOk.nil
                refine st (s_indexON rfl rfl (by omega)) rfl ?_
                refine Run.nil ?_
                refine ⟨rfl, ?_⟩
                refine game_two (rem' := [13, 14, 15]) (rem'' := [3, 14, 15]) (i := 3) (j := 13) (by kernel_rfl) rfl rfl rfl rfl ?_ ?_ DeadOk.nil
                refine st (s_move rfl) rfl ?_
                refine Run.nil ?_
                refine ⟨rfl, ?_⟩
                refine game_one (rem' := [14, 15]) (i := 13) (by kernel_rfl) rfl rfl ?_ DeadOk.nil
                (refine a_storeE 1 rfl rfl rfl ?_ rfl ?_; omega)
                refine Run.nil ?_
                refine ⟨rfl, ?_⟩
                refine game_one (rem' := [15]) (i := 14) (by kernel_rfl) rfl rfl ?_ DeadOk.nil
                refine st (s_indexON rfl rfl (by omega)) rfl ?_
                refine Run.nil ?_
                refine ⟨rfl, ?_⟩
                refine game_one (rem' := []) (i := 15) (by kernel_rfl) rfl rfl ?_ DeadOk.nil
                (refine a_storeE 1 rfl rfl rfl ?_ rfl ?_; omega)
                refine Run.nil ?_
                refine ⟨rfl, ?_⟩
                refine game_end (by repeat (first | exact SubG.nil | refine SubG.cons rfl (VT.le_refl _) ?_)) (SubM.refl _) DeadOk.nil
                (refine a_storeE 1 rfl rfl rfl ?_ rfl ?_; omega)
                refine Run.nil ?_
                refine ⟨rfl, ?_⟩
                refine game_one (rem' := [14, 15]) (i := 3) (by kernel_rfl) rfl rfl ?_ DeadOk.nil
                refine st (s_move rfl) rfl ?_
                refine Run.nil ?_
                refine ⟨rfl, ?_⟩
                refine game_one (rem' := [15]) (i := 14) (by kernel_rfl) rfl rfl ?_ DeadOk.nil
                refine st (s_indexON rfl rfl (by omega)) rfl ?_
                refine Run.nil ?_
                refine ⟨rfl, ?_⟩
                refine game_one (rem' := []) (i := 15) (by kernel_rfl) rfl rfl ?_ DeadOk.nil
                (refine a_storeE 1 rfl rfl rfl ?_ rfl ?_; omega)
                refine Run.nil ?_
                refine ⟨rfl, ?_⟩
                refine game_end (by repeat (first | exact SubG.nil | refine SubG.cons rfl (VT.le_refl _) ?_)) (SubM.refl _) DeadOk.nil
                refine st (s_move rfl) rfl ?_
                refine Run.nil ?_
                refine ⟨rfl, ?_⟩
                refine game_two (rem' := [12, 13, 14, 15]) (rem'' := [2, 13, 14, 15]) (i := 2) (j := 12) (by kernel_rfl) rfl rfl rfl rfl ?_ ?_ DeadOk.nil
                refine st (s_move rfl) rfl ?_
                refine Run.nil ?_
                refine ⟨rfl, ?_⟩
                refine game_one (rem' := [13, 14, 15]) (i := 12) (by kernel_rfl) rfl rfl ?_ DeadOk.nil
                refine st (s_indexON rfl rfl (by omega)) rfl ?_
                refine Run.nil ?_
                refine ⟨rfl, ?_⟩
                refine game_one (rem' := [14, 15]) (i := 13) (by kernel_rfl) rfl rfl ?_ DeadOk.nil
                (refine a_storeE 1 rfl rfl rfl ?_ rfl ?_; omega)
                refine Run.nil ?_
                refine ⟨rfl, ?_⟩
                refine game_one (rem' := [15]) (i := 14) (by kernel_rfl) rfl rfl ?_ DeadOk.nil
                refine st (s_indexON rfl rfl (by omega)) rfl ?_
                refine Run.nil ?_
                refine ⟨rfl, ?_⟩
                refine game_one (rem' := []) (i := 15) (by kernel_rfl) rfl rfl ?_ DeadOk.nil
                (refine a_storeE 1 rfl rfl rfl ?_ rfl ?_; omega)
                refine Run.nil ?_
                refine ⟨rfl, ?_⟩
                refine game_end (by repeat (first | exact SubG.nil | refine SubG.cons rfl (VT.le_refl _) ?_)) (SubM.refl _) DeadOk.nil
                refine st (s_indexON rfl rfl (by omega)) rfl ?_
                refine Run.nil ?_
                refine ⟨rfl, ?_⟩
                refine game_two (rem' := [13, 14, 15]) (rem'' := [2, 14, 15]) (i := 2) (j := 13) (by kernel_rfl) rfl rfl rfl rfl ?_ ?_ DeadOk.nil
                refine st (s_move rfl) rfl ?_
                refine Run.nil ?_
                refine ⟨rfl, ?_⟩
                refine game_one (rem' := [14, 15]) (i := 13) (by kernel_rfl) rfl rfl ?_ DeadOk.nil
                (refine a_storeE 1 rfl rfl rfl ?_ rfl ?_; omega)
                refine Run.nil ?_
                refine ⟨rfl, ?_⟩
                refine game_one (rem' := [15]) (i := 14) (by kernel_rfl) rfl rfl ?_ DeadOk.nil
                refine st (s_indexON rfl rfl (by omega)) rfl ?_
                refine Run.nil ?_
                refine ⟨rfl, ?_⟩
                refine game_one (rem' := []) (i := 15) (by kernel_rfl) rfl rfl ?_ DeadOk.nil
                (refine a_storeE 1 rfl rfl rfl ?_ rfl ?_; omega)
                refine Run.nil ?_
                refine ⟨rfl, ?_⟩
                refine game_end (by repeat (first | exact SubG.nil | refine SubG.cons rfl (VT.le_refl _) ?_)) (SubM.refl _) DeadOk.nil
                (refine a_storeE 1 rfl rfl rfl ?_ rfl ?_; omega)
                refine Run.nil ?_
                refine ⟨rfl, ?_⟩
                refine game_one (rem' := [14, 15]) (i := 2) (by kernel_rfl) rfl rfl ?_ DeadOk.nil
                refine st (s_move rfl) rfl ?_
                refine Run.nil ?_
                refine ⟨rfl, ?_⟩
                refine game_one (rem' := [15]) (i := 14) (by kernel_rfl) rfl rfl ?_ DeadOk.nil
                refine st (s_indexON rfl rfl (by omega)) rfl ?_
                refine Run.nil ?_
                refine ⟨rfl, ?_⟩
                refine game_one (rem' := []) (i := 15) (by kernel_rfl) rfl rfl ?_ DeadOk.nil
                (refine a_storeE 1 rfl rfl rfl ?_ rfl ?_; omega)
                refine Run.nil ?_
                refine ⟨rfl, ?_⟩
                refine game_end (by repeat (first | exact SubG.nil | refine SubG.cons rfl (VT.le_refl _) ?_)) (SubM.refl _) DeadOk.nil
                refine st (s_indexON rfl rfl (by omega)) rfl ?_
                refine Run.nil ?_
                refine ⟨rfl, ?_⟩
                refine game_three (r1 := [3, 13, 14, 15]) (r2 := [2, 13, 14, 15]) (r3 := [2, 3, 14, 15]) (i := 2) (j := 3) (k := 13) (by kernel_rfl) rfl rfl rfl rfl rfl rfl ?_ ?_ ?_ DeadOk.nil
                refine st (s_move rfl) rfl ?_
                refine Run.nil ?_
                refine ⟨rfl, ?_⟩
                refine game_two (rem' := [13, 14, 15]) (rem'' := [3, 14, 15]) (i := 3) (j := 13) (by kernel_rfl) rfl rfl rfl rfl ?_ ?_ DeadOk.nil
                refine st (s_move rfl) rfl ?_
                refine Run.nil ?_
                refine ⟨rfl, ?_⟩
                refine game_one (rem' := [14, 15]) (i := 13) (by kernel_rfl) rfl rfl ?_ DeadOk.nil
                (refine a_storeE 1 rfl rfl rfl ?_ rfl ?_; omega)
                refine Run.nil ?_
                refine ⟨rfl, ?_⟩
                refine game_one (rem' := [15]) (i := 14) (by kernel_rfl) rfl rfl ?_ DeadOk.nil
                refine st (s_indexON rfl rfl (by omega)) rfl ?_
                refine Run.nil ?_
                refine ⟨rfl, ?_⟩
                refine game_one (rem' := []) (i := 15) (by kernel_rfl) rfl rfl ?_ DeadOk.nil
                (refine a_storeE 1 rfl rfl rfl ?_ rfl ?_; omega)
                refine Run.nil ?_
                refine ⟨rfl, ?_⟩
                refine game_end (by repeat (first | exact SubG.nil | refine SubG.cons rfl (VT.le_refl _) ?_)) (SubM.refl _) DeadOk.nil
                (refine a_storeE 1 rfl rfl rfl ?_ rfl ?_; omega)
                refine Run.nil ?_
                refine ⟨rfl, ?_⟩
                refine game_one (rem' := [14, 15]) (i := 3) (by kernel_rfl) rfl rfl ?_ DeadOk.nil
                refine st (s_move rfl) rfl ?_
                refine Run.nil ?_
                refine ⟨rfl, ?_⟩
                refine game_one (rem' := [15]) (i := 14) (by kernel_rfl) rfl rfl ?_ DeadOk.nil
                refine st (s_indexON rfl rfl (by omega)) rfl ?_
                refine Run.nil ?_
                refine ⟨rfl, ?_⟩
                refine game_one (rem' := []) (i := 15) (by kernel_rfl) rfl rfl ?_ DeadOk.nil
                (refine a_storeE 1 rfl rfl rfl ?_ rfl ?_; omega)
                refine Run.nil ?_
                refine ⟨rfl, ?_⟩
                refine game_end (by repeat (first | exact SubG.nil | refine SubG.cons rfl (VT.le_refl _) ?_)) (SubM.refl _) DeadOk.nil
                refine st (s_move rfl) rfl ?_
                refine Run.nil ?_
                refine ⟨rfl, ?_⟩
                refine game_two (rem' := [13, 14, 15]) (rem'' := [2, 14, 15]) (i := 2) (j := 13) (by kernel_rfl) rfl rfl rfl rfl ?_ ?_ DeadOk.nil
                refine st (s_move rfl) rfl ?_
                refine Run.nil ?_
                refine ⟨rfl, ?_⟩
                refine game_one (rem' := [14, 15]) (i := 13) (by kernel_rfl) rfl rfl ?_ DeadOk.nil
                (refine a_storeE 1 rfl rfl rfl ?_ rfl ?_; omega)
                refine Run.nil ?_
                refine ⟨rfl, ?_⟩
                refine game_one (rem' := [15]) (i := 14) (by kernel_rfl) rfl rfl ?_ DeadOk.nil
                refine st (s_indexON rfl rfl (by omega)) rfl ?_
                refine Run.nil ?_
                refine ⟨rfl, ?_⟩
                refine game_one (rem' := []) (i := 15) (by kernel_rfl) rfl rfl ?_ DeadOk.nil
                (refine a_storeE 1 rfl rfl rfl ?_ rfl ?_; omega)
                refine Run.nil ?_
                refine ⟨rfl, ?_⟩
                refine game_end (by repeat (first | exact SubG.nil | refine SubG.cons rfl (VT.le_refl _) ?_)) (SubM.refl _) DeadOk.nil
                (refine a_storeE 1 rfl rfl rfl ?_ rfl ?_; omega)
                refine Run.nil ?_
                refine ⟨rfl, ?_⟩
                refine game_one (rem' := [14, 15]) (i := 2) (by kernel_rfl) rfl rfl ?_ DeadOk.nil
                refine st (s_move rfl) rfl ?_
                refine Run.nil ?_
                refine ⟨rfl, ?_⟩
                refine game_one (rem' := [15]) (i := 14) (by kernel_rfl) rfl rfl ?_ DeadOk.nil
                refine st (s_indexON rfl rfl (by omega)) rfl ?_
                refine Run.nil ?_
                refine ⟨rfl, ?_⟩
                refine game_one (rem' := []) (i := 15) (by kernel_rfl) rfl rfl ?_ DeadOk.nil
                (refine a_storeE 1 rfl rfl rfl ?_ rfl ?_; omega)
                refine Run.nil ?_
                refine ⟨rfl, ?_⟩
                refine game_end (by repeat (first | exact SubG.nil | refine SubG.cons rfl (VT.le_refl _) ?_)) (SubM.refl _) DeadOk.nil
                (refine a_storeE 1 rfl rfl rfl ?_ rfl ?_; omega)
                refine Run.nil ?_
                refine ⟨rfl, ?_⟩
                refine game_two (rem' := [3, 14, 15]) (rem'' := [2, 14, 15]) (i := 2) (j := 3) (by kernel_rfl) rfl rfl rfl rfl ?_ ?_ DeadOk.nil
                refine st (s_move rfl) rfl ?_
                refine Run.nil ?_
                refine ⟨rfl, ?_⟩
                refine game_one (rem' := [14, 15]) (i := 3) (by kernel_rfl) rfl rfl ?_ DeadOk.nil
                refine st (s_move rfl) rfl ?_
                refine Run.nil ?_
                refine ⟨rfl, ?_⟩
                refine game_one (rem' := [15]) (i := 14) (by kernel_rfl) rfl rfl ?_ DeadOk.nil
                refine st (s_indexON rfl rfl (by omega)) rfl ?_
                refine Run.nil ?_
                refine ⟨rfl, ?_⟩
                refine game_one (rem' := []) (i := 15) (by kernel_rfl) rfl rfl ?_ DeadOk.nil
                (refine a_storeE 1 rfl rfl rfl ?_ rfl ?_; omega)
                refine Run.nil ?_
                refine ⟨rfl, ?_⟩
                refine game_end (by repeat (first | exact SubG.nil | refine SubG.cons rfl (VT.le_refl _) ?_)) (SubM.refl _) DeadOk.nil
                refine st (s_move rfl) rfl ?_
                refine Run.nil ?_
                refine ⟨rfl, ?_⟩
                refine game_one (rem' := [14, 15]) (i := 2) (by kernel_rfl) rfl rfl ?_ DeadOk.nil
                refine st (s_move rfl) rfl ?_
                refine Run.nil ?_
                refine ⟨rfl, ?_⟩
                refine game_one (rem' := [15]) (i := 14) (by kernel_rfl) rfl rfl ?_ DeadOk.nil
                refine st (s_indexON rfl rfl (by omega)) rfl ?_
                refine Run.nil ?_
                refine ⟨rfl, ?_⟩
                refine game_one (rem' := []) (i := 15) (by kernel_rfl) rfl rfl ?_ DeadOk.nil
                (refine a_storeE 1 rfl rfl rfl ?_ rfl ?_; omega)
                refine Run.nil ?_
                refine ⟨rfl, ?_⟩
                refine game_end (by repeat (first | exact SubG.nil | refine SubG.cons rfl (VT.le_refl _) ?_)) (SubM.refl _) DeadOk.nil
              · refine game_two (rem' := [12, 13, 14, 15]) (rem'' := [2, 13, 14, 15]) (i := 2) (j := 12) (by kernel_rfl) rfl rfl rfl rfl ?_ ?_ DeadOk.nil
                refine st (s_move rfl) rfl ?_
                refine Run.nil ?_
                refine ⟨rfl, ?_⟩
                refine game_one (rem' := [13, 14, 15]) (i := 12) (by kernel_rfl) rfl rfl ?_ DeadOk.nil
                refine st (s_indexON rfl rfl (by omega)) rfl ?_
                refine Run.nil ?_
                refine ⟨rfl, ?_⟩
                refine game_one (rem' := [14, 15]) (i := 13) (by kernel_rfl) rfl rfl ?_ DeadOk.nil
                (refine a_storeE 1 rfl rfl rfl ?_ rfl ?_; omega)
                refine Run.nil ?_
                refine ⟨rfl, ?_⟩
                refine game_one (rem' := [15]) (i := 14) (by kernel_rfl) rfl rfl ?_ DeadOk.nil
                refine st (s_indexON rfl rfl (by omega)) rfl ?_
                refine Run.nil ?_
                refine ⟨rfl, ?_⟩
                refine game_one (rem' := []) (i := 15) (by kernel_rfl) rfl rfl ?_ DeadOk.nil
                (refine a_storeE 1 rfl rfl rfl ?_ rfl ?_; omega)
                refine Run.nil ?_
                refine ⟨rfl, ?_⟩
                refine game_end (by repeat (first | exact SubG.nil | refine SubG.cons rfl (VT.le_refl _) ?_)) (SubM.refl _) DeadOk.nil
                refine st (s_indexON rfl rfl (by omega)) rfl ?_
                refine Run.nil ?_
                refine ⟨rfl, ?_⟩
                refine game_two (rem' := [13, 14, 15]) (rem'' := [2, 14, 15]) (i := 2) (j := 13) (by kernel_rfl) rfl rfl rfl rfl ?_ ?_ DeadOk.nil
                refine st (s_move rfl) rfl ?_
                refine Run.nil ?_
                refine ⟨rfl, ?_⟩
                refine game_one (rem' := [14, 15]) (i := 13) (by kernel_rfl) rfl rfl ?_ DeadOk.nil
                (refine a_storeE 1 rfl rfl rfl ?_ rfl ?_; omega)
                refine Run.nil ?_
                refine ⟨rfl, ?_⟩
                refine game_one (rem' := [15]) (i := 14) (by kernel_rfl) rfl rfl ?_ DeadOk.nil
                refine st (s_indexON rfl rfl (by omega)) rfl ?_
                refine Run.nil ?_
                refine ⟨rfl, ?_⟩
                refine game_one (rem' := []) (i := 15) (by kernel_rfl) rfl rfl ?_ DeadOk.nil
                (refine a_storeE 1 rfl rfl rfl ?_ rfl ?_; omega)
                refine Run.nil ?_
                refine ⟨rfl, ?_⟩
                refine game_end (by repeat (first | exact SubG.nil | refine SubG.cons rfl (VT.le_refl _) ?_)) (SubM.refl _) DeadOk.nil
                (refine a_storeE 1 rfl rfl rfl ?_ rfl ?_; omega)
                refine Run.nil ?_
                refine ⟨rfl, ?_⟩
                refine game_one (rem' := [14, 15]) (i := 2) (by kernel_rfl) rfl rfl ?_ DeadOk.nil
                refine st (s_move rfl) rfl ?_
                refine Run.nil ?_
                refine ⟨rfl, ?_⟩
                refine game_one (rem' := [15]) (i := 14) (by kernel_rfl) rfl rfl ?_ DeadOk.nil
                refine st (s_indexON rfl rfl (by omega)) rfl ?_
                refine Run.nil ?_
                refine ⟨rfl, ?_⟩
                refine game_one (rem' := []) (i := 15) (by kernel_rfl) rfl rfl ?_ DeadOk.nil
                (refine a_storeE 1 rfl rfl rfl ?_ rfl ?_; omega)
                refine Run.nil ?_
                refine ⟨rfl, ?_⟩
                refine game_end (by repeat (first | exact SubG.nil | refine SubG.cons rfl (VT.le_refl _) ?_)) (SubM.refl _) DeadOk.nil
              · refine game_two (rem' := [12, 13, 14, 15]) (rem'' := [3, 13, 14, 15]) (i := 3) (j := 12) (by kernel_rfl) rfl rfl rfl rfl ?_ ?_ DeadOk.nil
                refine st (s_move rfl) rfl ?_
                refine Run.nil ?_
                refine ⟨rfl, ?_⟩
                refine game_one (rem' := [13, 14, 15]) (i := 12) (by kernel_rfl) rfl rfl ?_ DeadOk.nil
                refine st (s_indexON rfl rfl (by omega)) rfl ?_
                refine Run.nil ?_
                refine ⟨rfl, ?_⟩
                refine game_one (rem' := [14, 15]) (i := 13) (by kernel_rfl) rfl rfl ?_ DeadOk.nil
                (refine a_storeE 1 rfl rfl rfl ?_ rfl ?_; omega)
                refine Run.nil ?_
                refine ⟨rfl, ?_⟩
                refine game_one (rem' := [15]) (i := 14) (by kernel_rfl) rfl rfl ?_ DeadOk.nil
                refine st (s_indexON rfl rfl (by omega)) rfl ?_
                refine Run.nil ?_
                refine ⟨rfl, ?_⟩
                refine game_one (rem' := []) (i := 15) (by kernel_rfl) rfl rfl ?_ DeadOk.nil
                (refine a_storeE 1 rfl rfl rfl ?_ rfl ?_; omega)
                refine Run.nil ?_
                refine ⟨rfl, ?_⟩
                refine game_end (by repeat (first | exact SubG.nil | refine SubG.cons rfl (VT.le_refl _) ?_)) (SubM.refl _) DeadOk.nil
                refine st (s_indexON rfl rfl (by omega)) rfl ?_
                refine Run.nil ?_
                refine ⟨rfl, ?_⟩
                refine game_two (rem' := [13, 14, 15]) (rem'' := [3, 14, 15]) (i := 3) (j := 13) (by kernel_rfl) rfl rfl rfl rfl ?_ ?_ DeadOk.nil
                refine st (s_move rfl) rfl ?_
                refine Run.nil ?_
                refine ⟨rfl, ?_⟩
                refine game_one (rem' := [14, 15]) (i := 13) (by kernel_rfl) rfl rfl ?_ DeadOk.nil
                (refine a_storeE 1 rfl rfl rfl ?_ rfl ?_; omega)
                refine Run.nil ?_
                refine ⟨rfl, ?_⟩
                refine game_one (rem' := [15]) (i := 14) (by kernel_rfl) rfl rfl ?_ DeadOk.nil
                refine st (s_indexON rfl rfl (by omega)) rfl ?_
                refine Run.nil ?_
                refine ⟨rfl, ?_⟩
                refine game_one (rem' := []) (i := 15) (by kernel_rfl) rfl rfl ?_ DeadOk.nil
                (refine a_storeE 1 rfl rfl rfl ?_ rfl ?_; omega)
                refine Run.nil ?_
                refine ⟨rfl, ?_⟩
                refine game_end (by repeat (first | exact SubG.nil | refine SubG.cons rfl (VT.le_refl _) ?_)) (SubM.refl _) DeadOk.nil
                (refine a_storeE 1 rfl rfl rfl ?_ rfl ?_; omega)
                refine Run.nil ?_
                refine ⟨rfl, ?_⟩
                refine game_one (rem' := [14, 15]) (i := 3) (by kernel_rfl) rfl rfl ?_ DeadOk.nil
                refine st (s_move rfl) rfl ?_
                refine Run.nil ?_
                refine ⟨rfl, ?_⟩
                refine game_one (rem' := [15]) (i := 14) (by kernel_rfl) rfl rfl ?_ DeadOk.nil
                refine st (s_indexON rfl rfl (by omega)) rfl ?_
                refine Run.nil ?_
                refine ⟨rfl, ?_⟩
                refine game_one (rem' := []) (i := 15) (by kernel_rfl) rfl rfl ?_ DeadOk.nil
                (refine a_storeE 1 rfl rfl rfl ?_ rfl ?_; omega)
                refine Run.nil ?_
                refine ⟨rfl, ?_⟩
                refine game_end (by repeat (first | exact SubG.nil | refine SubG.cons rfl (VT.le_refl _) ?_)) (SubM.refl _) DeadOk.nil
              · refine game_one (rem' := [13, 14, 15]) (i := 12) (by kernel_rfl) rfl rfl ?_ DeadOk.nil
                refine st (s_indexON rfl rfl (by omega)) rfl ?_
                refine Run.nil ?_
                refine ⟨rfl, ?_⟩
                refine game_one (rem' := [14, 15]) (i := 13) (by kernel_rfl) rfl rfl ?_ DeadOk.nil
                (refine a_storeE 1 rfl rfl rfl ?_ rfl ?_; omega)
                refine Run.nil ?_
                refine ⟨rfl, ?_⟩
                refine game_one (rem' := [15]) (i := 14) (by kernel_rfl) rfl rfl ?_ DeadOk.nil
                refine st (s_indexON rfl rfl (by omega)) rfl ?_
                refine Run.nil ?_
                refine ⟨rfl, ?_⟩
                refine game_one (rem' := []) (i := 15) (by kernel_rfl) rfl rfl ?_ DeadOk.nil
                (refine a_storeE 1 rfl rfl rfl ?_ rfl ?_; omega)
                refine Run.nil ?_
                refine ⟨rfl, ?_⟩
                refine game_end (by repeat (first | exact SubG.nil | refine SubG.cons rfl (VT.le_refl _) ?_)) (SubM.refl _) DeadOk.nil
            · have hkk : swp a k R k k ≠ 0 := by rw [swp_at]; exact h0
              have hnx' : RdI α i (k + 1) F (clrR k i (swp a k R)) (-o * swp a k R k k) := by rw [if_neg hak] at hnx; rw [swp_at]; exact hnx
              have hq1 := qz_swp (i := a) (k := k) hI.q
              have hq2 := qz_neg hI.o
              have hneg := rqNeg_ok o (hI.o.1.small (by omega))
              refine PJ_sub (SubG.refl _) (.keep (Own.le_refl _) (.keep (rat_swp hak) (SubM.refl _))) ?_
              have hmul := rqMul_ok (-o) ((swp a k R) k k) (rdB α k) (rdB α k) hq2 (hq1 k k) (by omega)
              refine pj_then ?_
              refine J_reg ?_
              refine st (s_loadB 0 rfl rfl rfl) rfl ?_
              refine st (s_callk (hneg ) rfl ⟨VT.le_refl _, trivial⟩) rfl ?_
              refine a_storeB 0 rfl rfl rfl rfl rfl (leN rfl) rfl ?_
              refine Run.nil ?_
              refine pj_then ?_
              refine J_seq ?_
              refine J_regd 9 mixed (by kernel_rfl) (by decide) ?_
              refine st (s_loadB 0 rfl rfl rfl) rfl ?_
              refine st (s_move rfl) rfl ?_
              refine st (s_move rfl) rfl ?_
              refine st (s_indexON rfl rfl (by omega)) rfl ?_
              refine st (s_loadE 1 rfl rfl (by omega)) rfl ?_
              refine st (s_move rfl) rfl ?_
              refine st (s_indexIN rfl rfl (by omega)) rfl ?_
              refine st (s_load rfl) rfl ?_
              refine st (s_callk (hmul ) rfl ⟨VT.le_refl _, VT.le_refl _, trivial⟩) rfl ?_
              refine Run.nil ?_
              refine a_storeB 0 rfl rfl rfl rfl rfl (leN rfl) rfl ?_
              refine Run.nil ?_
              refine pj_then ?_
              refine J_seq ?_
              refine J_reg ?_
              refine st (s_move rfl) rfl ?_
              refine st (s_addN _ 1 rfl rfl (by omega)) rfl ?_
              refine st (s_assign rfl) rfl ?_
              refine Run.nil ?_
              refine pj_then ?_
              refine J_block ?_
              refine J_sub (Γ' := [(2, _), (4, _), (5, _), (7, _), (9, _)]) (SubG.cons rfl (VT.le_refl _) (SubG.cons rfl (VT.le_refl _) (SubG.cons rfl (VT.le_refl _) (SubG.cons rfl (VT.le_refl _) (SubG.cons rfl (VT.le_refl _) (SubG.nil)))))) (SubM.refl _) ?_
              refine J_loopA (σ := Nat) (Γk := [(2, _), (4, _), (5, _), (7, _)]) (SubG.cons rfl (VT.le_refl _) (SubG.cons rfl (VT.le_refl _) (SubG.cons rfl (VT.le_refl _) (SubG.cons rfl (VT.le_refl _) (SubG.nil))))) (fun j => [(9, one (.int .i64 (j : Nat)))]) (fun j M0 => (M0.set 1 (sliO (some bs) 36 .one cap i (fun q => ratF i (clrR k j (swp a k R) q))))) (fun j => k + 1 ≤ j ∧ j ≤ i) (fun j => i - j) (k + 1) (⟨Nat.le_refl _, hki⟩) (by repeat (first | exact SubG.refl _ | exact SubG.nil | refine SubG.cons rfl (VT.le_refl _) ?_ | (refine SubG.cons rfl (one_le ?_) ?_; (congr 1; first | omega | (simp; omega) | simp)))) (.keep (Own.le_refl _) (.keep (by (rw [clr_start]; exact Own.le_refl _)) (.keep (Own.le_refl _) (.keep (Own.le_refl _) (.nil))))) (fun j hj => ?_)
              refine J_norm (Γ' := [(9, _), (2, _), (4, _), (5, _), (7, _)]) (M' := [_, _, _, _]) rfl rfl ?_
              obtain ⟨hj1, hj2⟩ := hj
              by_cases hji : j < i
              · have hov := rqOver_ok ((swp a k R) j k) ((swp a k R) k k) (rdB α k) (rdB α k) (hq1 j k) (hq1 k k) (by omega) hkk
                have hl := r8less_ok i i ((swp a k R) j) ((swp a k R) k) ((swp a k R) j k / (swp a k R) k k) (rdB α k) (rdB α k) (rdB α k + rdB α k) (by omega) (Nat.le_refl _) (fun q _ => hq1 j q) (fun q _ => hq1 k q) (qz_over (hq1 j k) (hq1 k k) hkk) (by omega)
                unfold ratF at hl ⊢
                refine J_seq ?_
                refine J_seq ?_
                refine J_reg ?_
                refine st (s_move rfl) rfl ?_
                refine st (s_move rfl) rfl ?_
                refine st (s_lenO rfl) rfl ?_
                refine st (sT (by omega) (s_lt rfl rfl)) rfl ?_
                refine Run.nil ?_
                refine pj_then ?_
                refine J_cond1 rfl ?_
                refine J_skip ?_
                refine pj_then ?_
                refine J_seq ?_
                refine J_block ?_
                refine J_regd 26 mixed (by kernel_rfl) (by decide) ?_
                refine st (s_move rfl) rfl ?_
                refine st (s_move rfl) rfl ?_
                refine st (s_move rfl) rfl ?_
                refine st (s_move rfl) rfl ?_
                refine st (s_indexON rfl rfl (by omega)) rfl ?_
                refine st (s_loadE 1 rfl rfl (by omega)) rfl ?_
                refine st (s_move rfl) rfl ?_
                refine st (s_move rfl) rfl ?_
                refine st (s_indexON rfl rfl (by omega)) rfl ?_
                refine st (s_loadE 1 rfl rfl (by omega)) rfl ?_
                refine st (s_move rfl) rfl ?_
                refine st (s_move rfl) rfl ?_
                refine st (s_indexON rfl rfl (by omega)) rfl ?_
                refine st (s_loadE 1 rfl rfl (by omega)) rfl ?_
                refine st (s_move rfl) rfl ?_
                refine st (s_indexIN rfl rfl (by omega)) rfl ?_
                refine st (s_load rfl) rfl ?_
                refine st (s_move rfl) rfl ?_
                refine st (s_move rfl) rfl ?_
                refine st (s_indexON rfl rfl (by omega)) rfl ?_
                refine st (s_loadE 1 rfl rfl (by omega)) rfl ?_
                refine st (s_move rfl) rfl ?_
                refine st (s_indexIN rfl rfl (by omega)) rfl ?_
                refine st (s_load rfl) rfl ?_
                refine st (s_callk (hov ) rfl ⟨(by (simp only [clr_at, clr_k]; exact VT.le_refl _)), (by (simp only [clr_at, clr_k]; exact VT.le_refl _)), trivial⟩) rfl ?_
                refine st (s_callk (hl ) rfl ⟨(by (simp only [clr_at, clr_k]; exact VT.le_refl _)), (by (simp only [clr_at, clr_k]; exact VT.le_refl _)), VT.le_refl _, trivial⟩) rfl ?_
                refine Run.nil ?_
                refine st (s_indexON rfl rfl (by omega)) rfl ?_
                (refine a_storeE 1 rfl rfl rfl ?_ rfl ?_; omega)
                refine Run.nil ?_
                refine pn_block ?_
                refine pj_then ?_
                refine J_reg ?_
                refine st (s_move rfl) rfl ?_
                refine st (s_addN _ 1 rfl rfl (by omega)) rfl ?_
                refine st (s_assign rfl) rfl ?_
                refine Run.nil ?_
                refine pj_roundM (j + 1) (⟨by omega, hji⟩) (by omega) (by repeat (first | exact SubG.refl _ | exact SubG.nil | refine SubG.cons rfl (VT.le_refl _) ?_ | (refine SubG.cons rfl (one_le ?_) ?_; (congr 1; first | omega | (simp; omega) | simp)))) (.keep (Own.le_refl _) (.keep (clr_upd (by omega)) (.keep (Own.le_refl _) (.keep (Own.le_refl _) (.nil)))))
              · have hjn : j = i := by omega
                rw [hjn]
                refine J_seq ?_
                refine J_seq ?_
                refine J_reg ?_
                refine st (s_move rfl) rfl ?_
                refine st (s_move rfl) rfl ?_
                refine st (s_lenO rfl) rfl ?_
                refine st (sF (by omega) (s_lt rfl rfl)) rfl ?_
                refine Run.nil ?_
                refine pj_then ?_
                refine J_cond0 rfl ?_
                refine J_exit ?_
                refine px_then ?_
                refine px_then ?_
                refine px_block ?_
                refine pn_block ?_
                refine pj_then ?_
                refine J_reg ?_
                refine st (s_move rfl) rfl ?_
                refine st (s_addN _ 1 rfl rfl (by omega)) rfl ?_
                refine st (s_assign rfl) rfl ?_
                refine Run.nil ?_
                refine pj_roundM ((k + 1, clrR k i (swp a k R), (-o) * (swp a k R) k k)) (⟨hki, hnx'⟩) (by omega) (by repeat (first | exact SubG.refl _ | exact SubG.nil | refine SubG.cons rfl (VT.le_refl _) ?_ | (refine SubG.cons rfl (one_le ?_) ?_; (congr 1; first | omega | (simp; omega) | simp)))) (.keep (Own.le_refl _) (.keep (Own.le_refl _) (.keep (Own.le_refl _) (.keep (Own.le_refl _) (.nil)))))
      · have hdz := hI.d.zero hki (fun q h1 h2 => ha3 q h1 (by omega))
        rw [hdz]
        refine J_seq ?_
        refine J_seq ?_
        refine J_reg ?_
        refine st (s_move rfl) rfl ?_
        refine st (s_move rfl) rfl ?_
        refine st (s_lenO rfl) rfl ?_
        refine st (sF (by omega) (s_lt rfl rfl)) rfl ?_
        refine st (s_move rfl) rfl ?_
        refine sn0 rfl rfl rfl rfl rfl ?_
        refine sn0 rfl rfl rfl rfl rfl ?_
        refine sn0 rfl rfl rfl rfl rfl ?_
        refine sn0 rfl rfl rfl rfl rfl ?_
        refine sn0 rfl rfl rfl rfl rfl ?_
        refine sn0 rfl rfl rfl rfl rfl ?_
        refine sn0 rfl rfl rfl rfl rfl ?_
        refine sn0 rfl rfl rfl rfl rfl ?_
        refine sn0 rfl rfl rfl rfl rfl ?_
        refine st (s_pickF rfl rfl) rfl ?_
        refine Run.nil ?_
        refine pj_then ?_
        refine J_cond0 rfl ?_
        refine J_exit ?_
        refine px_then ?_
        refine px_then ?_
        refine px_block ?_
        refine pj_then ?_
        refine J_seq ?_
        refine J_seq ?_
        refine J_reg ?_
        refine st (s_move rfl) rfl ?_
        refine st (s_move rfl) rfl ?_
        refine st (s_lenO rfl) rfl ?_
        refine st (sT (by omega) (s_eq rfl rfl)) rfl ?_
        refine Run.nil ?_
        refine pj_then ?_
        refine J_cond1 rfl ?_
        refine J_seq ?_
        refine J_reg ?_
        refine stB rfl rfl rfl ?_
        refine BuildK.nil ?_
        refine a_storeB 2 rfl rfl rfl rfl rfl (leN rfl) rfl ?_
        refine st (s_assign rfl) rfl ?_
        refine Run.nil ?_
        refine pj_then ?_
        refine J_ret ?_
        refine pr_then ?_
        refine pr_block ?_
        refine pr_then ?_
        refine pr_then ?_
        refine pr_block ?_
        refine pr_then ?_
        refine retc2 Tryz.results18 (.cellB 2 rfl rfl rfl (zero_bigC)) (.tmp rfl (VT.le_refl _))
    · have hki2 : k = i := by omega
      subst hki2
      have ho := hI.d.done
      rw [ho]
      unfold ratT fracT
      refine J_seq ?_
      refine J_seq ?_
      refine J_reg ?_
      refine st (s_move rfl) rfl ?_
      refine st (s_move rfl) rfl ?_
      refine st (s_lenO rfl) rfl ?_
      refine st (sF (by omega) (s_lt rfl rfl)) rfl ?_
      refine Run.nil ?_
      refine pj_then ?_
      refine J_cond0 rfl ?_
      refine J_exit ?_
      refine px_then ?_
      refine px_then ?_
      refine px_block ?_
      refine pj_then ?_
      refine J_seq ?_
      refine J_reg ?_
      refine st (s_fieldAddr rfl) rfl ?_
      refine st (s_loadBP 0 0 0 rfl rfl rfl rfl rfl) rfl ?_
      refine a_storeB 2 rfl rfl rfl rfl rfl (leN rfl) rfl ?_
      refine st (s_assign rfl) rfl ?_
      refine Run.nil ?_
      refine pj_then ?_
      refine J_ret ?_
      refine retc2 Tryz.results18 (.cellB 2 rfl rfl rfl (VT.le_refl _)) (.tmp rfl (VT.le_refl _))
end Tor
end

section
set_option linter.unusedVariables false
set_option linter.unusedSimpArgs false
namespace Tor
open Go Go.RowKit Go.Proofs
theorem fill_rat {sv : Option Nat} {T : TypeId} {cap n j : Nat} {h : Nat → Rat} {x : Rat} (hx : x = h j) : Own.le (sliO sv T (.agg 4) cap n (upd (fun q => if q < j then ratT (h q) else fracT 0 0) j (ratT x))) (sliO sv T (.agg 4) cap n (fun q => if q < j + 1 then ratT (h q) else fracT 0 0)) := sliO_eq (fun q _ => by
  subst hx
  show (if q = j then ratT (h j) else (if q < j then ratT (h q) else fracT 0 0)) = _
  by_cases c : q = j
  · rw [if_pos c, if_pos (by omega), c]
  · rw [if_neg c]
    by_cases c2 : q < j
    · rw [if_pos c2, if_pos (by omega)]
    · rw [if_neg c2, if_neg (by omega)])
theorem zeroR_le : VT.le (one (.agg #[.bool false, .slice none 0 0, .bool false, .slice none 0 0])) (fracT 0 0) := by
  intro v h e
  have e : v = .agg #[.bool false, .slice none 0 0, .bool false, .slice none 0 0] := e
  subst e
  refine ⟨_, rfl, rfl, by simp [Value.oneCell'], fun q hq => ?_⟩
  rcases List.mem_cons.1 hq with rfl | hq
  · exact ⟨_, rfl, zeroB_le _ _ rfl⟩
  · rcases List.mem_cons.1 hq with rfl | hq
    · exact ⟨_, rfl, zeroB_le _ _ rfl⟩
    · cases hq
theorem el_pivne {r w c : Nat} {full : Bool} {A : Nat → Nat → Int} {e : ElS} {V : Nat → Nat → Rat} (h : Lin.GJ r w c full A e V) (hf : full = true) (hcw : c ≤ w) {k : Nat} (hk : k < e.piv.length) : e.R k (e.piv.getD k 0) ≠ 0 := by
  have h1 := h.pc k hk
  have h2 := h.B3 k (Nat.lt_of_lt_of_le hk h.pr) (e.piv.getD k 0) (Nat.lt_of_lt_of_le h1 hcw) (.inl hf)
  have h3 := h.V4 k hk k (Nat.lt_of_lt_of_le hk h.pr)
  rw [if_pos rfl] at h3
  have h3 : V k (e.piv.getD k 0) = 1 := h3
  rw [h3, Rat.mul_one] at h2
  intro h0
  rw [h0] at h2
  exact Lin.int_ne h.d0 h2.symm
attribute [local irreducible] Tor.J Tor.PJ Tor.StepO Tor.one Tor.slT Tor.ptrT Tor.aggT Tor.tupT Tor.exT Tor.andT Tor.eP Tor.boxO Tor.sliO Tor.slV Tor.VT.le Tor.Ret Tor.anyT Tor.xO
attribute [local irreducible] bigT
set_option maxHeartbeats 4000000 in
theorem overM_ok (n : Nat) (f : Nat → Int) (d : Int) (hn : n ≤ 1048576) (hd : d ≠ 0) (hds : small d) (hf : ∀ i, i < n → small (f i)) : OkM (σ := Nat) Tryz.prog 49 [rowF n f, bigT d] (fun s => one (slV (some s) n n)) (fun s => [sliO (some s) 63 (.agg 4) n n (fun i => ratT (Rat.divInt (f i) d))]) := by
  unfold rowF
  refine OkM.enter Tryz.func49 rfl Tryz.ntmps49 rfl (fun w0 O => ?_)
  refine J_seq ?_
  refine J_reg ?_
  refine a_box rfl rfl (ltN rfl) (fun b3 => ?_)
  refine st (s_assign rfl) rfl ?_
  refine Run.nil ?_
  refine pj_then ?_
  refine J_seq ?_
  refine J_reg ?_
  refine st (s_move rfl) rfl ?_
  refine st (s_len rfl) rfl ?_
  refine a_makeSlice n n rfl rfl rfl rfl (Nat.le_refl _) rfl rfl (by omega) rfl rfl (fun bz => ?_)
  refine st (s_assign rfl) rfl ?_
  refine Run.nil ?_
  refine pj_then ?_
  refine J_seq ?_
  refine J_seq ?_
  refine J_reg ?_
  refine st (s_move rfl) rfl ?_
  refine st (s_len rfl) rfl ?_
  refine st (s_move rfl) rfl ?_
  refine Run.nil ?_
  refine pj_then ?_
  refine J_block ?_
  refine J_sub (Γ' := [(3, _), (4, _), (5, _), (11, _), (12, _), (13, _)]) (SubG.cons rfl (VT.le_refl _) (SubG.cons rfl (VT.le_refl _) (SubG.cons rfl (VT.le_refl _) (SubG.cons rfl (VT.le_refl _) (SubG.cons rfl (VT.le_refl _) (SubG.cons rfl (VT.le_refl _) (SubG.nil))))))) (SubM.refl _) ?_
  refine J_loopA (σ := Nat) (Γk := [(3, _), (4, _), (5, _), (11, _), (12, _)]) (SubG.cons rfl (VT.le_refl _) (SubG.cons rfl (VT.le_refl _) (SubG.cons rfl (VT.le_refl _) (SubG.cons rfl (VT.le_refl _) (SubG.cons rfl (VT.le_refl _) (SubG.nil)))))) (fun i => [(13, one (.int .i64 (i : Nat)))]) (fun i M0 => (M0.set 0 (sliO (some bz) 63 (.agg 4) n n (fun q => if q < i then ratT (Rat.divInt (f q) d) else fracT 0 0)))) (fun i => i ≤ n) (fun i => n - i) (0) (Nat.zero_le _) (by repeat (first | exact SubG.refl _ | exact SubG.nil | refine SubG.cons rfl (VT.le_refl _) ?_ | (refine SubG.cons rfl (one_le ?_) ?_; (congr 1; first | omega | (simp; omega) | simp)))) (.keep (sliO_le fun q hq => zeroR_le) (.keep (Own.le_refl _) (.nil))) (fun i hi => ?_)
  refine J_norm (Γ' := [(13, _), (3, _), (4, _), (5, _), (11, _), (12, _)]) (M' := [_, _]) rfl rfl ?_
  by_cases hc : i < n
  · have hq := qOf_ok (f i) d hd (hf i hc) hds
    refine J_seq ?_
    refine J_reg ?_
    refine st (sT (by omega) (s_lt rfl rfl)) rfl ?_
    refine Run.nil ?_
    refine pj_then ?_
    refine J_seq ?_
    refine J_cond1 rfl ?_
    refine J_skip ?_
    refine pj_then ?_
    refine J_seq ?_
    refine J_block ?_
    refine J_seq ?_
    refine J_reg ?_
    refine st (s_move rfl) rfl ?_
    refine st (s_indexIN rfl rfl (by omega)) rfl ?_
    refine st (s_load rfl) rfl ?_
    refine a_alloc (T := 43) rfl (ltN rfl) (fun b7 => ?_)
    refine st (s_assign rfl) rfl ?_
    refine a_storeB 0 rfl rfl rfl rfl rfl (leN rfl) rfl ?_
    refine Run.nil ?_
    refine pj_then ?_
    refine J_reg ?_
    refine st (s_move rfl) rfl ?_
    refine st (s_move rfl) rfl ?_
    refine st (s_loadB 0 rfl rfl rfl) rfl ?_
    refine st (s_loadB 2 rfl rfl rfl) rfl ?_
    refine st (s_callk (hq ) rfl ⟨VT.le_refl _, VT.le_refl _, trivial⟩) rfl ?_
    refine st (s_move rfl) rfl ?_
    refine st (s_extract rfl rfl) rfl ?_
    refine st (s_extract rfl rfl) rfl ?_
    refine st (s_indexON rfl rfl (by omega)) rfl ?_
    (refine a_storeE 1 rfl rfl rfl ?_ rfl ?_; omega)
    refine Run.nil ?_
    refine pn_block ?_
    refine pj_then ?_
    refine J_reg ?_
    refine st (s_addN _ 1 rfl rfl (by omega)) rfl ?_
    refine st (s_move rfl) rfl ?_
    refine Run.nil ?_
    refine pj_roundM (i + 1) (hc) (by omega) (by repeat (first | exact SubG.refl _ | exact SubG.nil | refine SubG.cons rfl (VT.le_refl _) ?_ | (refine SubG.cons rfl (one_le ?_) ?_; (congr 1; first | omega | (simp; omega) | simp)))) (.drop (.keep (fill_rat (h := fun q => Rat.divInt (f q) d) rfl) (.keep (Own.le_refl _) (.nil))))
  · have he : i = n := by omega
    subst he
    refine J_seq ?_
    refine J_reg ?_
    refine st (sF (by omega) (s_lt rfl rfl)) rfl ?_
    refine Run.nil ?_
    refine pj_then ?_
    refine J_seq ?_
    refine J_cond0 rfl ?_
    refine J_exit ?_
    refine px_then ?_
    refine px_then ?_
    refine px_block ?_
    refine pj_then ?_
    refine J_seq ?_
    refine J_reg ?_
    refine st (s_move rfl) rfl ?_
    refine st (s_assign rfl) rfl ?_
    refine Run.nil ?_
    refine pj_then ?_
    refine J_ret ?_
    exact retM1 (σ := Nat) (ψ := fun s => one (slV (some s) i i)) (Ms := fun s => [sliO (some s) 63 (.agg 4) i i (fun i => ratT (Rat.divInt (f i) d))]) bz Tryz.results49 (.tmp rfl (VT.le_refl _)) (.keep (sliO_eq fun q hq => by rw [if_pos hq]) (.drop .nil))
theorem over_ok (n : Nat) (f : Nat → Int) (d : Int) (hn : n ≤ 1048576) (hd : d ≠ 0) (hds : small d) (hf : ∀ i, i < n → small (f i)) : Ok Tryz.prog 49 [rowF n f, bigT d] (slT (.agg 4) n (fun i => ratT (Rat.divInt (f i) d))) :=
  (overM_ok n f d hn hd hds hf).ok fun s => Ent.sl List.mem_cons_self
theorem eqS_row {r j : Nat} {F : Nat → Nat → Int} {b : Nat → Int} (q : Nat) : upd (upd (fun q => bigT (if q < r then F q j else 0)) r (bigT (b j))) (r + 1 + j) (bigT 1) q = bigT (eqS r F b j q) := by
  show (if q = r + 1 + j then bigT 1 else (if q = r then bigT (b j) else bigT (if q < r then F q j else 0))) = _
  unfold eqS
  by_cases h1 : q = r + 1 + j
  · rw [if_pos h1, if_neg (by omega), if_neg (by omega), if_pos h1]
  · rw [if_neg h1]
    by_cases h2 : q = r
    · rw [if_pos h2, if_neg (by omega), if_pos h2]
    · rw [if_neg h2]
      by_cases h3 : q < r
      · rw [if_pos h3, if_pos h3]
      · rw [if_neg h3, if_neg h3, if_neg h2, if_neg h1]
theorem eqS_open {Ms : Mem} {sv bl : Option Nat} {T T' : TypeId} {c j r n capl : Nat} {F : Nat → Nat → Int} {b : Nat → Int} (hm : sliO bl T' (.agg 2) capl n (upd (upd (fun q => bigT (if q < r then F q j else 0)) r (bigT (b j))) (r + 1 + j) (bigT 1)) ∈ Ms) :
    EntO Ms (sliO sv T .one c c (upd (fun q => if q < j then rowF n (eqS r F b q) else one (.slice none 0 0)) j (one (slV bl n capl)))) (sliO sv T .one c c (fun q => if q < j + 1 then rowF n (eqS r F b q) else one (.slice none 0 0))) := EntO.sl fun q _ => by
  show Ent Ms (if q = j then one (slV bl n capl) else (if q < j then rowF n (eqS r F b q) else one (.slice none 0 0))) (if q < j + 1 then rowF n (eqS r F b q) else one (.slice none 0 0))
  by_cases h1 : q = j
  · rw [if_pos h1, if_pos (by omega), h1]
    exact Ent.slE hm fun k _ => Ent.le (le_eq (eqS_row k))
  · rw [if_neg h1]
    by_cases h2 : q < j
    · rw [if_pos h2, if_pos (by omega)]; exact Ent.refl _
    · rw [if_neg h2, if_neg (by omega)]; exact Ent.refl _
theorem lz_eqS {n r : Nat} {F : Nat → Nat → Int} {b : Nat → Int} (hn : 1 ≤ n) (hF : ∀ i j, lz n (F i j)) (hb : ∀ j, lz n (b j)) : ∀ i j, lz n (eqS r F b i j) := fun i j => by
  unfold eqS; split
  · exact hF _ _
  · split
    · exact hb _
    · split
      · exact lz_one hn
      · exact lz_zero _
theorem small_of_elim {n r : Nat} (he : elim0 n r) : n ≤ 1099511627700 := by
  have h1 := he.2
  have h2 : 1 ≤ 2 ^ r := Nat.one_le_two_pow
  have h3 := Nat.mul_le_mul_left (n + 1) h2
  omega
theorem fill_xs {sv : Option Nat} {T : TypeId} {cap n k r : Nat} {e : ElS} : Own.le (sliO sv T (.agg 4) cap n (upd (fun i => ratT (xsN e r k i)) (e.piv.getD k 0) (ratT (Rat.divInt (e.R k r) (e.R k (e.piv.getD k 0)))))) (sliO sv T (.agg 4) cap n (fun i => ratT (xsN e r (k + 1) i))) := sliO_eq fun q _ => by
  show (if q = e.piv.getD k 0 then ratT _ else ratT (xsN e r k q)) = ratT (if q = e.piv.getD k 0 then Rat.divInt (e.R k r) (e.R k q) else xsN e r k q)
  by_cases h : q = e.piv.getD k 0
  · rw [if_pos h, if_pos h, h]
  · rw [if_neg h, if_neg h]
set_option maxHeartbeats 4000000 in
theorem Solve_ok (r c : Nat) (F : Nat → Nat → Int) (b : Nat → Int) (n : Nat) (hr : r ≤ 1024) (hc : c ≤ 1024) (he : elim0 n c) (hF : ∀ i j, lz n (F i j)) (hb : ∀ j, lz n (b j)) : Ok Tryz.prog 13 [matF r c F, rowF c b]
    (match firstP (elN c true (eqS r F b) r).R r (elN c true (eqS r F b) r).piv.length c with
      | some q => tupT [slT (.agg 4) 0 (fun _ => ratT 0), slT (.agg 4) c (fun k => ratT (Rat.divInt ((elN c true (eqS r F b) r).R q (r + 1 + k)) ((elN c true (eqS r F b) r).R q r))), one (.bool false)]
      | none => tupT [slT (.agg 4) r (fun i => ratT (xsN (elN c true (eqS r F b) r) r (elN c true (eqS r F b) r).piv.length i)), slT (.agg 4) 0 (fun _ => ratT 0), one (.bool true)]) := by
  have hv := matValidF_ok r c F
  have h1 := Of_ok 1 (by decide) (by decide)
  unfold matF rowF at *
  refine Ok.enter Tryz.func13 rfl Tryz.ntmps13 rfl (fun w0 O => ?_)
  refine J_seq ?_
  refine J_reg ?_
  refine a_boxS rfl rfl (ltN rfl) (fun b2 => ?_)
  refine st (s_assign rfl) rfl ?_
  refine st (s_assign rfl) rfl ?_
  refine st (s_assign rfl) rfl ?_
  refine Run.nil ?_
  refine pj_then ?_
  refine J_seq ?_
  refine J_seq ?_
  refine J_reg ?_
  refine st (s_loadW 0 rfl rfl) rfl ?_
  refine st (s_callk (hv ) rfl ⟨VT.le_refl _, trivial⟩) rfl ?_
  refine st (s_not rfl) rfl ?_
  refine st (s_move rfl) rfl ?_
  refine sg1 rfl rfl (s_move rfl) rfl ?_
  refine sg1 rfl rfl (s_len rfl) rfl ?_
  refine sg1 rfl rfl (s_fieldAddr rfl) rfl ?_
  refine sg1 rfl rfl (s_loadB 0 rfl rfl rfl) rfl ?_
  refine sg1 rfl rfl (sF (by omega) (s_ne rfl rfl)) rfl ?_
  refine st (s_pickF rfl rfl) rfl ?_
  refine Run.nil ?_
  refine pj_then ?_
  refine J_cond0 rfl ?_
  refine J_skip ?_
  refine pj_then ?_
  refine J_seq ?_
  refine J_reg ?_
  refine st (s_fieldAddr rfl) rfl ?_
  refine st (s_loadB 0 rfl rfl rfl) rfl ?_
  refine a_makeSlice c c rfl rfl rfl rfl (Nat.le_refl _) rfl rfl (by omega) rfl rfl (fun bo => ?_)
  refine st (s_assign rfl) rfl ?_
  refine Run.nil ?_
  refine pj_then ?_
  refine J_seq ?_
  refine J_seq ?_
  refine J_reg ?_
  refine st (s_move rfl) rfl ?_
  refine st (s_lenO rfl) rfl ?_
  refine st (s_move rfl) rfl ?_
  refine Run.nil ?_
  refine pj_then ?_
  refine J_block ?_
  refine J_sub (Γ' := [(1, _), (2, _), (4, _), (5, _), (6, _), (7, _), (32, _), (33, _)]) (SubG.cons rfl (VT.le_refl _) (SubG.cons rfl (VT.le_refl _) (SubG.cons rfl (VT.le_refl _) (SubG.cons rfl (VT.le_refl _) (SubG.cons rfl (VT.le_refl _) (SubG.cons rfl (VT.le_refl _) (SubG.cons rfl (VT.le_refl _) (SubG.cons rfl (VT.le_refl _) (SubG.nil))))))))) (SubM.refl _) ?_
  refine J_loopA (σ := Nat) (Γk := [(1, _), (2, _), (4, _), (5, _), (6, _), (7, _), (32, _)]) (SubG.cons rfl (VT.le_refl _) (SubG.cons rfl (VT.le_refl _) (SubG.cons rfl (VT.le_refl _) (SubG.cons rfl (VT.le_refl _) (SubG.cons rfl (VT.le_refl _) (SubG.cons rfl (VT.le_refl _) (SubG.cons rfl (VT.le_refl _) (SubG.nil)))))))) (fun j => [(33, one (.int .i64 (j : Nat)))]) (fun j M0 => (M0.set 0 (sliO (some bo) 30 .one c c (fun q => if q < j then rowF (r + 1 + c) (eqS r F b q) else one (.slice none 0 0))))) (fun j => j ≤ c) (fun j => c - j) (0) (Nat.zero_le _) (by repeat (first | exact SubG.refl _ | exact SubG.nil | refine SubG.cons rfl (VT.le_refl _) ?_ | (refine SubG.cons rfl (one_le ?_) ?_; (congr 1; first | omega | (simp; omega) | simp)))) (.keep (Own.le_refl _) (.keep (Own.le_refl _) (.nil))) (fun j hj => ?_)
  refine J_norm (Γ' := [(33, _), (1, _), (2, _), (4, _), (5, _), (6, _), (7, _), (32, _)]) (M' := [_, _]) rfl rfl ?_
  by_cases hj : j < c
  · refine J_seq ?_
    refine J_reg ?_
    refine st (sT (by omega) (s_lt rfl rfl)) rfl ?_
    refine Run.nil ?_
    refine pj_then ?_
    refine J_seq ?_
    refine J_cond1 rfl ?_
    refine J_skip ?_
    refine pj_then ?_
    refine J_seq ?_
    refine J_block ?_
    refine J_seq ?_
    refine J_reg ?_
    refine st (s_move rfl) rfl ?_
    refine st (s_assign rfl) rfl ?_
    refine Run.nil ?_
    refine pj_then ?_
    refine J_seq ?_
    refine J_reg ?_
    refine st (s_fieldAddr rfl) rfl ?_
    refine st (s_loadB 1 rfl rfl rfl) rfl ?_
    refine st (s_addN _ 1 rfl rfl (by omega)) rfl ?_
    refine st (s_fieldAddr rfl) rfl ?_
    refine st (s_loadB 1 rfl rfl rfl) rfl ?_
    refine st (s_addN _ _ rfl rfl (by omega)) rfl ?_
    refine a_makeSlice (r + 1 + c) (r + 1 + c) rfl rfl (by simp) (by simp) (Nat.le_refl _) rfl rfl (by omega) rfl rfl (fun bl => ?_)
    refine st (s_assign rfl) rfl ?_
    refine Run.nil ?_
    refine pj_then ?_
    refine J_seq ?_
    refine J_seq ?_
    refine J_reg ?_
    refine st (s_fieldAddr rfl) rfl ?_
    refine st (s_loadB 2 rfl rfl rfl) rfl ?_
    refine st (s_len rfl) rfl ?_
    refine st (s_move rfl) rfl ?_
    refine Run.nil ?_
    refine pj_then ?_
    refine J_block ?_
    refine J_sub (Γ' := [(1, _), (2, _), (4, _), (5, _), (6, _), (7, _), (8, _), (9, _), (32, _), (33, _), (44, _), (45, _), (46, _)]) (SubG.cons rfl (VT.le_refl _) (SubG.cons rfl (VT.le_refl _) (SubG.cons rfl (VT.le_refl _) (SubG.cons rfl (VT.le_refl _) (SubG.cons rfl (VT.le_refl _) (SubG.cons rfl (VT.le_refl _) (SubG.cons rfl (VT.le_refl _) (SubG.cons rfl (VT.le_refl _) (SubG.cons rfl (VT.le_refl _) (SubG.cons rfl (VT.le_refl _) (SubG.cons rfl (VT.le_refl _) (SubG.cons rfl (VT.le_refl _) (SubG.cons rfl (VT.le_refl _) (SubG.nil)))))))))))))) (SubM.refl _) ?_
    refine J_loopA (σ := Nat) (Γk := [(1, _), (2, _), (4, _), (5, _), (6, _), (7, _), (8, _), (9, _), (32, _), (33, _), (44, _), (45, _)]) (SubG.cons rfl (VT.le_refl _) (SubG.cons rfl (VT.le_refl _) (SubG.cons rfl (VT.le_refl _) (SubG.cons rfl (VT.le_refl _) (SubG.cons rfl (VT.le_refl _) (SubG.cons rfl (VT.le_refl _) (SubG.cons rfl (VT.le_refl _) (SubG.cons rfl (VT.le_refl _) (SubG.cons rfl (VT.le_refl _) (SubG.cons rfl (VT.le_refl _) (SubG.cons rfl (VT.le_refl _) (SubG.cons rfl (VT.le_refl _) (SubG.nil))))))))))))) (fun i => [(46, one (.int .i64 (i : Nat)))]) (fun i M0 => (M0.set 0 (sliO (some bl) 43 (.agg 2) (r + 1 + c) (r + 1 + c) (fun q => bigT (if q < i then F q j else 0))))) (fun i => i ≤ r) (fun i => r - i) (0) (Nat.zero_le _) (by repeat (first | exact SubG.refl _ | exact SubG.nil | refine SubG.cons rfl (VT.le_refl _) ?_ | (refine SubG.cons rfl (one_le ?_) ?_; (congr 1; first | omega | (simp; omega) | simp)))) (.keep (sliO_le fun q hq => zero_big) (.keep (Own.le_refl _) (.keep (Own.le_refl _) (.nil)))) (fun i hi => ?_)
    refine J_norm (Γ' := [(46, _), (1, _), (2, _), (4, _), (5, _), (6, _), (7, _), (8, _), (9, _), (32, _), (33, _), (44, _), (45, _)]) (M' := [_, _, _]) rfl rfl ?_
    by_cases hi : i < r
    · refine J_seq ?_
      refine J_reg ?_
      refine st (sT (by omega) (s_lt rfl rfl)) rfl ?_
      refine Run.nil ?_
      refine pj_then ?_
      refine J_seq ?_
      refine J_cond1 rfl ?_
      refine J_skip ?_
      refine pj_then ?_
      refine J_seq ?_
      refine J_block ?_
      refine J_seq ?_
      refine J_reg ?_
      refine st (s_move rfl) rfl ?_
      refine st (s_indexIN rfl rfl (by omega)) rfl ?_
      refine st (s_load rfl) rfl ?_
      refine st (s_assign rfl) rfl ?_
      refine st (s_assign rfl) rfl ?_
      refine Run.nil ?_
      refine pj_then ?_
      refine J_reg ?_
      refine st (s_move rfl) rfl ?_
      refine st (s_move rfl) rfl ?_
      refine st (s_move rfl) rfl ?_
      refine st (s_move rfl) rfl ?_
      refine st (s_indexIN rfl rfl (by omega)) rfl ?_
      refine st (s_load rfl) rfl ?_
      refine st (s_indexON rfl rfl (by omega)) rfl ?_
      (refine a_storeE 0 rfl rfl rfl ?_ rfl ?_; omega)
      refine Run.nil ?_
      refine pn_block ?_
      refine pj_then ?_
      refine J_reg ?_
      refine st (s_addN _ 1 rfl rfl (by omega)) rfl ?_
      refine st (s_move rfl) rfl ?_
      refine Run.nil ?_
      refine pj_roundM (i + 1) (hi) (by omega) (by repeat (first | exact SubG.refl _ | exact SubG.nil | refine SubG.cons rfl (VT.le_refl _) ?_ | (refine SubG.cons rfl (one_le ?_) ?_; (congr 1; first | omega | (simp; omega) | simp)))) (.keep (fill_row (h := fun q => F q j) rfl) (.keep (Own.le_refl _) (.keep (Own.le_refl _) (.nil))))
    · have hir : i = r := by omega
      subst hir
      refine J_seq ?_
      refine J_reg ?_
      refine st (sF (by omega) (s_lt rfl rfl)) rfl ?_
      refine Run.nil ?_
      refine pj_then ?_
      refine J_seq ?_
      refine J_cond0 rfl ?_
      refine J_exit ?_
      refine px_then ?_
      refine px_then ?_
      refine px_block ?_
      refine pj_then ?_
      refine J_seq ?_
      refine J_regd 7 mixed (by kernel_rfl) (by decide) ?_
      refine st (s_move rfl) rfl ?_
      refine st (s_fieldAddr rfl) rfl ?_
      refine st (s_loadB 2 rfl rfl rfl) rfl ?_
      refine st (s_move rfl) rfl ?_
      refine st (s_move rfl) rfl ?_
      refine st (s_indexIN rfl rfl (by omega)) rfl ?_
      refine st (s_load rfl) rfl ?_
      refine Run.nil ?_
      refine st (s_indexON rfl rfl (by omega)) rfl ?_
      (refine a_storeE 0 rfl rfl rfl ?_ rfl ?_; omega)
      refine Run.nil ?_
      refine pj_then ?_
      refine J_seq ?_
      refine J_regd 7 mixed (by kernel_rfl) (by decide) ?_
      refine st (s_move rfl) rfl ?_
      refine st (s_fieldAddr rfl) rfl ?_
      refine st (s_loadB 2 rfl rfl rfl) rfl ?_
      refine st (s_addN _ 1 rfl rfl (by omega)) rfl ?_
      refine st (s_move rfl) rfl ?_
      refine st (s_addN _ _ rfl rfl (by omega)) rfl ?_
      refine st (s_callk (h1 ) rfl ⟨VT.le_refl _, trivial⟩) rfl ?_
      refine Run.nil ?_
      refine st (s_indexON rfl rfl (by omega)) rfl ?_
      (refine a_storeE 0 rfl rfl rfl ?_ rfl ?_; omega)
      refine Run.nil ?_
      refine pj_then ?_
      refine J_reg ?_
      refine st (s_move rfl) rfl ?_
      refine st (s_move rfl) rfl ?_
      refine st (s_move rfl) rfl ?_
      refine st (s_indexON rfl rfl (by omega)) rfl ?_
      (refine a_storeE 1 rfl rfl rfl ?_ rfl ?_; omega)
      refine Run.nil ?_
      refine pn_block ?_
      refine pj_then ?_
      refine J_reg ?_
      refine st (s_addN _ 1 rfl rfl (by omega)) rfl ?_
      refine st (s_move rfl) rfl ?_
      refine Run.nil ?_
      refine PJ_open [_] (List.Perm.refl _) (.keep (eqS_open List.mem_cons_self) (EntM.refl _)) (EntG.refl _) ?_
      refine pj_roundM (j + 1) (hj) (by omega) (by repeat (first | exact SubG.refl _ | exact SubG.nil | refine SubG.cons rfl (VT.le_refl _) ?_ | (refine SubG.cons rfl (one_le ?_) ?_; (congr 1; first | omega | (simp; omega) | simp)))) (.keep (Own.le_refl _) (.keep (Own.le_refl _) (.nil)))
  · have hjc : j = c := by omega
    subst hjc
    have hS := lz_eqS (r := r) he.1 hF hb
    have hru := runR_ok j (r + 1 + j) r (eqS r F b) true n (by omega) (by omega) (by omega) he.1 he.b hS
    obtain ⟨A, V, hE⟩ := Lin.elN_EL j (r + 1 + j) true (eqS r F b) r (by omega)
    have hok := elN_ok (r := j) true he.1 hS r
    have hpr := hE.gj.pr
    have hpc := hE.gj.pc
    generalize elN j true (eqS r F b) r = e at *
    unfold elimT at hru
    refine J_open [_] (List.Perm.refl _) (EntM.refl _) (EntG.set (t := 7) (ψ := slT .one j (fun q => if q < j then rowF (r + 1 + j) (eqS r F b q) else one (.slice none 0 0))) rfl (Ent.sl List.mem_cons_self)) ?_
    refine J_seq ?_
    refine J_reg ?_
    refine st (sF (by omega) (s_lt rfl rfl)) rfl ?_
    refine Run.nil ?_
    refine pj_then ?_
    refine J_seq ?_
    refine J_cond0 rfl ?_
    refine J_exit ?_
    refine px_then ?_
    refine px_then ?_
    refine px_block ?_
    refine pj_then ?_
    refine J_seq ?_
    refine J_reg ?_
    refine st (s_move rfl) rfl ?_
    refine st (s_fieldAddr rfl) rfl ?_
    refine st (s_loadB 0 rfl rfl rfl) rfl ?_
    refine st (s_callk (hru ) rfl ⟨((slT_le fun q hq => le_eq (by rw [if_pos hq]))), VT.le_refl _, VT.le_refl _, trivial⟩) rfl ?_
    refine st (s_assign rfl) rfl ?_
    refine Run.nil ?_
    refine pj_then ?_
    refine J_seq ?_
    refine J_seq ?_
    refine J_regd 13 mixed (by kernel_rfl) (by decide) ?_
    refine st (s_move rfl) rfl ?_
    refine st (s_nilCheckI rfl) rfl ?_
    refine st (s_fieldI rfl rfl) rfl ?_
    refine st (s_fieldI rfl rfl) rfl ?_
    refine st (s_load rfl) rfl ?_
    refine st (s_move rfl) rfl ?_
    refine st (s_nilCheckI rfl) rfl ?_
    refine st (s_fieldI rfl rfl) rfl ?_
    refine st (s_load rfl) rfl ?_
    refine st (s_len rfl) rfl ?_
    refine st (s_slice rfl rfl rfl rfl (fun h => nomatch h) (by omega) (by omega) (by omega) (by omega)) rfl ?_
    refine st (s_len rfl) rfl ?_
    refine st (s_move rfl) rfl ?_
    refine Run.nil ?_
    refine Run.nil ?_
    refine pj_then ?_
    refine J_block ?_
    refine J_retype (t := 95) (ψ := one (.int .i64 ((j - e.piv.length : Nat) : Int))) rfl (one_le (by congr 1; omega)) ?_
    refine J_retype (t := 94) (ψ := slT .one (j - e.piv.length) (fun t => slT (.agg 2) (r + 1 + j) (fun k => bigT (e.R (e.piv.length + t) k)))) rfl (slT_le' (by omega) (fun q hq => by rw [Int.toNat_natCast]; rfl)) ?_
    refine J_sub (Γ' := [(2, _), (4, _), (5, _), (6, _), (12, _), (94, _), (95, _), (96, _)]) (SubG.cons rfl (VT.le_refl _) (SubG.cons rfl (VT.le_refl _) (SubG.cons rfl (VT.le_refl _) (SubG.cons rfl (VT.le_refl _) (SubG.cons rfl (VT.le_refl _) (SubG.cons rfl (VT.le_refl _) (SubG.cons rfl (VT.le_refl _) (SubG.cons rfl (VT.le_refl _) (SubG.nil))))))))) (SubM.refl _) ?_
    refine J_loopA (σ := Nat) (Γk := [(2, _), (12, _), (94, _), (95, _)]) (SubG.cons rfl (VT.le_refl _) (SubG.cons rfl (VT.le_refl _) (SubG.cons rfl (VT.le_refl _) (SubG.cons rfl (VT.le_refl _) (SubG.nil))))) (fun t => [(96, one (.int .i64 (t : Nat)))]) (fun t M0 => M0) (fun t => t ≤ j - e.piv.length ∧ ∀ q, e.piv.length ≤ q → q < e.piv.length + t → e.R q r = 0) (fun t => j - e.piv.length - t) (0) (⟨Nat.zero_le _, fun q h1 h2 => absurd h2 (by omega)⟩) (by repeat (first | exact SubG.refl _ | exact SubG.nil | refine SubG.cons rfl (VT.le_refl _) ?_ | (refine SubG.cons rfl (one_le ?_) ?_; (congr 1; first | omega | (simp; omega) | simp)))) (.keep (Own.le_refl _) (.nil)) (fun t ht => ?_)
    refine J_norm (Γ' := [(96, _), (2, _), (12, _), (94, _), (95, _)]) (M' := [_]) rfl rfl ?_
    obtain ⟨ht, hz⟩ := ht
    by_cases htj : t < j - e.piv.length
    · have hsg := sgnI_zero (e.R (e.piv.length + t) r)
      by_cases h0 : e.R (e.piv.length + t) r = 0
      · have hs0 := hsg.2 h0
        refine J_seq ?_
        refine J_reg ?_
        refine st (sT (by omega) (s_lt rfl rfl)) rfl ?_
        refine Run.nil ?_
        refine pj_then ?_
        refine J_seq ?_
        refine J_cond1 rfl ?_
        refine J_skip ?_
        refine pj_then ?_
        refine J_seq ?_
        refine J_block ?_
        refine J_seq ?_
        refine J_reg ?_
        refine st (s_indexIN rfl rfl (by omega)) rfl ?_
        refine st (s_load rfl) rfl ?_
        refine st (s_assign rfl) rfl ?_
        refine Run.nil ?_
        refine pj_then ?_
        refine J_seq ?_
        refine J_reg ?_
        refine st (s_move rfl) rfl ?_
        refine st (s_fieldAddr rfl) rfl ?_
        refine st (s_loadB 0 rfl rfl rfl) rfl ?_
        refine st (s_indexIN rfl rfl (by omega)) rfl ?_
        refine st (s_load rfl) rfl ?_
        refine st (s_callk (SignI_ok _) rfl ⟨VT.le_refl _, trivial⟩) rfl ?_
        refine st (sF (by omega) (s_ne rfl rfl)) rfl ?_
        refine Run.nil ?_
        refine pj_then ?_
        refine J_cond0 rfl ?_
        refine J_skip ?_
        refine pn_block ?_
        refine pj_then ?_
        refine J_reg ?_
        refine st (s_addN _ 1 rfl rfl (by omega)) rfl ?_
        refine st (s_move rfl) rfl ?_
        refine Run.nil ?_
        refine pj_roundM (t + 1) (⟨htj, fun q h1 h2 => by by_cases h3 : q = e.piv.length + t; exact h3 ▸ h0; exact hz q h1 (by omega)⟩) (by omega) (by repeat (first | exact SubG.refl _ | exact SubG.nil | refine SubG.cons rfl (VT.le_refl _) ?_ | (refine SubG.cons rfl (one_le ?_) ?_; (congr 1; first | omega | (simp; omega) | simp)))) (.keep (Own.le_refl _) (.nil))
      · have hs0 : sgnI (e.R (e.piv.length + t) r) ≠ 0 := fun h => h0 (hsg.1 h)
        have hov := over_ok j (fun k => e.R (e.piv.length + t) (r + 1 + k)) (e.R (e.piv.length + t) r) (by omega) h0 ((he.lz hok (hok.R _ _)).small (by decide)) (fun i _ => (he.lz hok (hok.R _ _)).small (by decide))
        unfold rowF at hov
        rw [firstP_some (by omega) (by omega) hz h0]
        dsimp only
        refine J_seq ?_
        refine J_reg ?_
        refine st (sT (by omega) (s_lt rfl rfl)) rfl ?_
        refine Run.nil ?_
        refine pj_then ?_
        refine J_seq ?_
        refine J_cond1 rfl ?_
        refine J_skip ?_
        refine pj_then ?_
        refine J_seq ?_
        refine J_block ?_
        refine J_seq ?_
        refine J_reg ?_
        refine st (s_indexIN rfl rfl (by omega)) rfl ?_
        refine st (s_load rfl) rfl ?_
        refine st (s_assign rfl) rfl ?_
        refine Run.nil ?_
        refine pj_then ?_
        refine J_seq ?_
        refine J_reg ?_
        refine st (s_move rfl) rfl ?_
        refine st (s_fieldAddr rfl) rfl ?_
        refine st (s_loadB 0 rfl rfl rfl) rfl ?_
        refine st (s_indexIN rfl rfl (by omega)) rfl ?_
        refine st (s_load rfl) rfl ?_
        refine st (s_callk (SignI_ok _) rfl ⟨VT.le_refl _, trivial⟩) rfl ?_
        refine st (sT (by assumption) (s_ne rfl rfl)) rfl ?_
        refine Run.nil ?_
        refine pj_then ?_
        refine J_cond1 rfl ?_
        refine J_seq ?_
        refine J_regd 12 mixed (by kernel_rfl) (by decide) ?_
        refine st (s_move rfl) rfl ?_
        refine st (s_fieldAddr rfl) rfl ?_
        refine st (s_loadB 0 rfl rfl rfl) rfl ?_
        refine st (s_addN _ 1 rfl rfl (by omega)) rfl ?_
        refine st (s_slice rfl rfl rfl rfl (fun h => nomatch h) (by omega) (by omega) (by omega) (by omega)) rfl ?_
        refine st (s_move rfl) rfl ?_
        refine st (s_fieldAddr rfl) rfl ?_
        refine st (s_loadB 0 rfl rfl rfl) rfl ?_
        refine st (s_indexIN rfl rfl (by omega)) rfl ?_
        refine st (s_load rfl) rfl ?_
        refine st (s_callk (hov ) rfl ⟨((slT_le' (by omega) (fun q hq => by rw [Int.toNat_natCast]))), VT.le_refl _, trivial⟩) rfl ?_
        refine st (s_assign rfl) rfl ?_
        refine Run.nil ?_
        refine st (s_assign rfl) rfl ?_
        refine st (s_assign rfl) rfl ?_
        refine Run.nil ?_
        refine pj_then ?_
        refine J_ret ?_
        refine pr_block ?_
        refine pr_then ?_
        refine pr_then ?_
        refine pr_block ?_
        refine pr_then ?_
        refine retc3 Tryz.results13 (.tmp rfl (nil_slT)) (.tmp rfl (VT.le_refl _)) (.tmp rfl (VT.le_refl _))
    · rw [firstP_none (fun q h1 h2 => hz q h1 (by omega))]
      dsimp only
      have hz1 := overM_ok r (fun _ => 0) 1 (by omega) (by decide) small_one (fun _ _ => small_zero)
      unfold rowF at hz1
      refine J_seq ?_
      refine J_reg ?_
      refine st (sF (by omega) (s_lt rfl rfl)) rfl ?_
      refine Run.nil ?_
      refine pj_then ?_
      refine J_seq ?_
      refine J_cond0 rfl ?_
      refine J_exit ?_
      refine px_then ?_
      refine px_then ?_
      refine px_block ?_
      refine pj_then ?_
      refine J_seq ?_
      refine J_regdT 4 mixed (by kernel_rfl) (by decide) ?_
      refine st (s_fieldAddr rfl) rfl ?_
      refine st (s_loadB 0 rfl rfl rfl) rfl ?_
      refine st (s_makeZ r rfl rfl rfl rfl rfl rfl (by omega)) rfl ?_
      skip
      refine st (s_callk h1 rfl ⟨VT.le_refl _, trivial⟩) rfl ?_
      refine Run.nil ?_
      refine a_callM hz1 rfl (And.intro (slT_le fun q hq => zeroB_le) (And.intro (VT.le_refl _) trivial)) rfl rfl (fun bx => ?_)
      refine st (s_assign rfl) rfl ?_
      refine Run.nil ?_
      refine pj_then ?_
      refine J_seq ?_
      refine J_seq ?_
      refine J_reg ?_
      refine st (s_move rfl) rfl ?_
      refine st (s_nilCheckI rfl) rfl ?_
      refine st (s_fieldI rfl rfl) rfl ?_
      refine st (s_load rfl) rfl ?_
      refine st (s_len rfl) rfl ?_
      refine st (s_move rfl) rfl ?_
      refine Run.nil ?_
      refine pj_then ?_
      refine J_block ?_
      refine J_sub (Γ' := [(2, _), (12, _), (15, _), (127, _), (128, _), (129, _)]) (SubG.cons rfl (VT.le_refl _) (SubG.cons rfl (VT.le_refl _) (SubG.cons rfl (VT.le_refl _) (SubG.cons rfl (VT.le_refl _) (SubG.cons rfl (VT.le_refl _) (SubG.cons rfl (VT.le_refl _) (SubG.nil))))))) (SubM.refl _) ?_
      refine J_loopA (σ := Nat) (Γk := [(2, _), (12, _), (15, _), (127, _), (128, _)]) (SubG.cons rfl (VT.le_refl _) (SubG.cons rfl (VT.le_refl _) (SubG.cons rfl (VT.le_refl _) (SubG.cons rfl (VT.le_refl _) (SubG.cons rfl (VT.le_refl _) (SubG.nil)))))) (fun k => [(129, one (.int .i64 (k : Nat)))]) (fun k M0 => (M0.set 0 (sliO (some bx) 63 (.agg 4) r r (fun i => ratT (xsN e r k i))))) (fun k => k ≤ e.piv.length) (fun k => e.piv.length - k) (0) (Nat.zero_le _) (by repeat (first | exact SubG.refl _ | exact SubG.nil | refine SubG.cons rfl (VT.le_refl _) ?_ | (refine SubG.cons rfl (one_le ?_) ?_; (congr 1; first | omega | (simp; omega) | simp)))) (.keep (Own.le_refl _) (.keep (Own.le_refl _) (.nil))) (fun k hk => ?_)
      refine J_norm (Γ' := [(129, _), (2, _), (12, _), (15, _), (127, _), (128, _)]) (M' := [_, _]) rfl rfl ?_
      by_cases hk : k < e.piv.length
      · have hkr : e.piv.getD k 0 < r := hpc k hk
        have hne := el_pivne hE.gj rfl (by omega) hk
        have hq := qOf_ok (e.R k r) (e.R k (e.piv.getD k 0)) hne ((he.lz hok (hok.R _ _)).small (by decide)) ((he.lz hok (hok.R _ _)).small (by decide))
        unfold rowF pivF
        refine J_seq ?_
        refine J_reg ?_
        refine st (sT (by omega) (s_lt rfl rfl)) rfl ?_
        refine Run.nil ?_
        refine pj_then ?_
        refine J_seq ?_
        refine J_cond1 rfl ?_
        refine J_skip ?_
        refine pj_then ?_
        refine J_seq ?_
        refine J_block ?_
        refine J_seq ?_
        refine J_reg ?_
        refine st (s_move rfl) rfl ?_
        refine st (s_indexIN rfl rfl (by omega)) rfl ?_
        refine st (s_load rfl) rfl ?_
        refine st (s_assign rfl) rfl ?_
        refine st (s_assign rfl) rfl ?_
        refine Run.nil ?_
        refine pj_then ?_
        apply J_regG (Γ1 := [(2, _), (12, _), (15, _), (127, _), (128, _), (129, _)]) (M1 := [_, _]) 29 3 [] [28] mixed (by kernel_rfl) (by decide)
        · refine st (s_move rfl) rfl ?_
          refine st (s_move rfl) rfl ?_
          refine st (s_move rfl) rfl ?_
          refine st (s_nilCheckI rfl) rfl ?_
          refine st (s_fieldI rfl rfl) rfl ?_
          refine st (s_fieldI rfl rfl) rfl ?_
          refine st (s_load rfl) rfl ?_
          refine st (s_move rfl) rfl ?_
          refine st (s_indexIN rfl rfl (by omega)) rfl ?_
          refine st (s_load rfl) rfl ?_
          refine st (s_fieldAddr rfl) rfl ?_
          refine st (s_loadB 1 rfl rfl rfl) rfl ?_
          refine st (s_indexIN rfl rfl (by omega)) rfl ?_
          refine st (s_load rfl) rfl ?_
          refine st (s_move rfl) rfl ?_
          refine st (s_nilCheckI rfl) rfl ?_
          refine st (s_fieldI rfl rfl) rfl ?_
          refine st (s_fieldI rfl rfl) rfl ?_
          refine st (s_load rfl) rfl ?_
          refine st (s_move rfl) rfl ?_
          refine st (s_indexIN rfl rfl (by omega)) rfl ?_
          refine st (s_load rfl) rfl ?_
          refine st (s_move rfl) rfl ?_
          refine st (s_indexIN rfl rfl (by omega)) rfl ?_
          refine st (s_load rfl) rfl ?_
          refine st (s_callk (hq ) rfl ⟨VT.le_refl _, VT.le_refl _, trivial⟩) rfl ?_
          refine st (s_move rfl) rfl ?_
          refine st (s_extract rfl rfl) rfl ?_
          refine st (s_extract rfl rfl) rfl ?_
          refine Run.nil ?_
          refine entry0 (Γe := [(2, _), (12, _), (15, _), (127, _), (128, _), (129, _), (134, _), (135, _), (136, _), (161, _)]) (rem := [29, 30]) rfl (by repeat (first | exact SubG.nil | refine SubG.cons rfl (VT.le_refl _) ?_)) rfl ?_
          refine game_one (rem' := [30]) (i := 29) (by kernel_rfl) rfl rfl ?_ (DeadOk.cons rfl (StepG.plain (s_extract rfl rfl) rfl rfl (ltN rfl)) rfl DeadOk.nil)
          refine st (s_indexON rfl rfl (by omega)) rfl ?_
          refine Run.nil ?_
          refine ⟨rfl, ?_⟩
          refine game_one (rem' := []) (i := 30) (by kernel_rfl) rfl rfl ?_ (DeadOk.cons rfl (StepG.plain (s_extract rfl rfl) rfl rfl (ltN rfl)) rfl DeadOk.nil)
          (refine a_storeE 0 rfl rfl rfl ?_ rfl ?_; omega)
          refine Run.nil ?_
          refine ⟨rfl, ?_⟩
          refine game_end (by repeat (first | exact SubG.nil | refine SubG.cons rfl (VT.le_refl _) ?_)) (SubM.refl _) (DeadOk.cons rfl (StepG.plain (s_extract rfl rfl) rfl rfl (ltN rfl)) rfl DeadOk.nil)
        · refine pn_block ?_
          refine pj_then ?_
          refine J_reg ?_
          refine st (s_addN _ 1 rfl rfl (by omega)) rfl ?_
          refine st (s_move rfl) rfl ?_
          refine Run.nil ?_
          refine pj_roundM (k + 1) (hk) (by omega) (by repeat (first | exact SubG.refl _ | exact SubG.nil | refine SubG.cons rfl (VT.le_refl _) ?_ | (refine SubG.cons rfl (one_le ?_) ?_; (congr 1; first | omega | (simp; omega) | simp)))) (.keep (fill_xs) (.keep (Own.le_refl _) (.nil)))
      · have hkp : k = e.piv.length := by omega
        subst hkp
        refine J_seq ?_
        refine J_reg ?_
        refine st (sF (by omega) (s_lt rfl rfl)) rfl ?_
        refine Run.nil ?_
        refine pj_then ?_
        refine J_seq ?_
        refine J_cond0 rfl ?_
        refine J_exit ?_
        refine px_then ?_
        refine px_then ?_
        refine px_block ?_
        refine pj_then ?_
        refine J_seq ?_
        refine J_reg ?_
        refine st (s_move rfl) rfl ?_
        refine st (s_assign rfl) rfl ?_
        refine st (s_assign rfl) rfl ?_
        refine st (s_assign rfl) rfl ?_
        refine Run.nil ?_
        refine pj_then ?_
        refine J_ret ?_
        refine PJ_freeze (t := 4) (i := 0) rfl rfl ?_
        refine retc3 Tryz.results13 (.tmp rfl (VT.le_refl _)) (.tmp rfl (nil_slT)) (.tmp rfl (VT.le_refl _))
end Tor
end

section
set_option linter.unusedVariables false
set_option linter.unusedSimpArgs false
namespace Tor
open Go Go.RowKit Go.Proofs
def skl (i k : Nat) : List Int := (List.range (if i < k then k - 1 else k)).map fun a => ((Lin.skip i a : Nat) : Int)
theorem skl_len (i k : Nat) : (skl i k).length = if i < k then k - 1 else k := by unfold skl; simp
theorem skl_get {i k a : Nat} (h : a < (skl i k).length) : (skl i k).getD a 0 = ((Lin.skip i a : Nat) : Int) := by
  rw [skl_len] at h
  unfold skl; simp [List.getD, h]
theorem skl_skip (i : Nat) : skl i (i + 1) = skl i i := by unfold skl; rw [if_pos (by omega), if_neg (by omega)]; rfl
theorem skl_next {i k : Nat} (h : k ≠ i) : skl i (k + 1) = skl i k ++ [((k : Nat) : Int)] := by
  unfold skl
  by_cases c : i < k
  · rw [if_pos (by omega), if_pos c, show k + 1 - 1 = (k - 1) + 1 by omega, List.range_succ, List.map_append]
    congr 2
    show [((Lin.skip i (k - 1) : Nat) : Int)] = _
    unfold Lin.skip
    rw [if_neg (by omega)]
    congr 2; omega
  · rw [if_neg (by omega), if_neg c, List.range_succ, List.map_append]
    congr 2
    show [((Lin.skip i k : Nat) : Int)] = _
    unfold Lin.skip
    rw [if_pos (by omega)]
theorem skl_outs {i n : Nat} : outs n (skl i n) = false := by
  unfold outs skl
  rw [List.any_eq_false]
  intro x hx
  obtain ⟨a, ha, rfl⟩ := List.mem_map.1 hx
  rw [List.mem_range] at ha
  have : Lin.skip i a < n := by unfold Lin.skip; split at ha <;> split <;> omega
  simp; omega
abbrev numF (l : List Int) : Nat → VT := fun q => one (.int .i64 (l.getD q 0))
theorem num_snoc {sv : Option Nat} {T : TypeId} {cap : Nat} {l m : List Int} {x : Int} (h : m = l ++ [x]) : Own.le (sliO sv T .one cap (l.length + 1) (fun q => if q < l.length then numF l q else one (.int .i64 x))) (sliO sv T .one cap m.length (numF m)) := by
  subst h
  refine sliO_len (by simp) (fun q hq => ?_)
  show _ = one (Value.int .i64 ((l ++ [x]).getD q 0))
  by_cases h : q < l.length
  · rw [if_pos h]; show one (Value.int .i64 (l.getD q 0)) = _; simp [List.getD, List.getElem?_append_left h]
  · have : q = l.length := by omega
    subst this; rw [if_neg h]; simp [List.getD]
theorem num_same {sv : Option Nat} {T : TypeId} {cap : Nat} {l m : List Int} (h : m = l) : Own.le (sliO sv T .one cap l.length (numF l)) (sliO sv T .one cap m.length (numF m)) := h ▸ Own.le_refl _
def cof (n : Nat) (F : Nat → Nat → Int) (i j : Nat) : Int := Lin.sgnZ (i + j) * Lin.detZ (n - 1) (fun a b => F (Lin.skip i a) (Lin.skip j b))
attribute [local irreducible] Tor.J Tor.PJ Tor.StepO Tor.one Tor.slT Tor.ptrT Tor.aggT Tor.tupT Tor.exT Tor.andT Tor.eP Tor.boxO Tor.sliO Tor.slV Tor.VT.le Tor.Ret Tor.anyT Tor.xO
attribute [local irreducible] bigT rowF
set_option maxHeartbeats 4000000 in
theorem cofactor_ok (r : Nat) (F : Nat → Nat → Int) (i j n : Nat) (hi : i < r) (hj : j < r) (hr : r ≤ 1024) (he : elim0 n r) (hF : ∀ i j, lz n (F i j)) : Ok Tryz.prog 66 [matF r r F, one (.int .i64 (i : Nat)), one (.int .i64 (j : Nat))] (bigT (cof r F i j)) := by
  have hl : (skl i r).length = r - 1 := by rw [skl_len, if_pos hi]
  have hm : (skl j r).length = r - 1 := by rw [skl_len, if_pos hj]
  have hpk := Pick_ok r r F (skl i r) (skl j r) (by omega) (by omega) (fun i j => (hF i j).small (Nat.le_trans (small_of_elim he) (by decide)))
  rw [skl_outs, skl_outs, hl, hm] at hpk
  refine Ok.enter Tryz.func66 rfl Tryz.ntmps66 rfl (fun w0 O => ?_)
  unfold matF
  refine J_seq ?_
  refine J_reg ?_
  refine a_boxS rfl rfl (ltN rfl) (fun b3 => ?_)
  refine a_alloc (T := 43) rfl (ltN rfl) (fun b6 => ?_)
  refine Run.nil ?_
  refine pj_then ?_
  refine J_seq ?_
  refine J_reg ?_
  refine st (s_assign rfl) rfl ?_
  refine st (s_assign rfl) rfl ?_
  refine Run.nil ?_
  refine pj_then ?_
  refine J_seq ?_
  refine J_seq ?_
  refine J_reg ?_
  refine st (s_fieldAddr rfl) rfl ?_
  refine st (s_loadB 1 rfl rfl rfl) rfl ?_
  refine st (s_move rfl) rfl ?_
  refine Run.nil ?_
  refine pj_then ?_
  refine J_block ?_
  refine J_retype (t := 7) (ψ := one (slV none 0 0)) rfl nil_slV ?_
  refine J_retype (t := 8) (ψ := one (slV none 0 0)) rfl nil_slV ?_
  refine J_addM (sliO_none0 3 .one (numF [])) ?_
  refine J_addM (sliO_none0 3 .one (numF [])) ?_
  refine J_sub (Γ' := [(1, _), (2, _), (3, _), (6, _), (7, _), (8, _), (15, _), (16, _)]) (SubG.cons rfl (VT.le_refl _) (SubG.cons rfl (VT.le_refl _) (SubG.cons rfl (VT.le_refl _) (SubG.cons rfl (VT.le_refl _) (SubG.cons rfl (VT.le_refl _) (SubG.cons rfl (VT.le_refl _) (SubG.cons rfl (VT.le_refl _) (SubG.cons rfl (VT.le_refl _) (SubG.nil))))))))) (SubM.refl _) ?_
  refine J_loopA (σ := Nat × Option Nat × Nat × Option Nat × Nat) (Γk := [(1, _), (2, _), (3, _), (6, _), (15, _)]) (SubG.cons rfl (VT.le_refl _) (SubG.cons rfl (VT.le_refl _) (SubG.cons rfl (VT.le_refl _) (SubG.cons rfl (VT.le_refl _) (SubG.cons rfl (VT.le_refl _) (SubG.nil)))))) (fun s => [(16, one (.int .i64 (s.1 : Nat))), (7, one (slV s.2.1 (skl i s.1).length s.2.2.1)), (8, one (slV s.2.2.2.1 (skl j s.1).length s.2.2.2.2))]) (fun s M0 => ((M0.set 0 (sliO s.2.1 3 .one s.2.2.1 (skl i s.1).length (numF (skl i s.1)))).set 1 (sliO s.2.2.2.1 3 .one s.2.2.2.2 (skl j s.1).length (numF (skl j s.1))))) (fun s => s.1 ≤ r) (fun s => r - s.1) ((0, none, 0, none, 0)) (Nat.zero_le _) (by repeat (first | exact SubG.refl _ | exact SubG.nil | refine SubG.cons rfl (VT.le_refl _) ?_ | (refine SubG.cons rfl (one_le ?_) ?_; (congr 1; first | omega | (simp; omega) | simp)))) (.keep (Own.le_refl _) (.keep (Own.le_refl _) (.keep (Own.le_refl _) (.keep (Own.le_refl _) (.nil))))) (fun s hs => ?_)
  refine J_norm (Γ' := [(16, _), (7, _), (8, _), (1, _), (2, _), (3, _), (6, _), (15, _)]) (M' := [_, _, _, _]) rfl rfl ?_
  obtain ⟨k, svr, capr, svc, capc⟩ := s
  dsimp only at hs ⊢
  have hki := skl_len i k
  have hkj := skl_len j k
  have hkl : (skl i k).length ≤ k := by rw [hki]; split <;> omega
  have hkl' : (skl j k).length ≤ k := by rw [hkj]; split <;> omega
  by_cases hk : k < r
  · by_cases h1 : k = i
    · have e1 : skl i (k + 1) = skl i k := by rw [h1]; exact skl_skip i
      have l1 := congrArg List.length e1
      by_cases h2 : k = j
      · have e2 : skl j (k + 1) = skl j k := by rw [h2]; exact skl_skip j
        have l2 := congrArg List.length e2
        refine J_seq ?_
        refine J_reg ?_
        refine st (sT (by omega) (s_lt rfl rfl)) rfl ?_
        refine Run.nil ?_
        refine pj_then ?_
        refine J_seq ?_
        refine J_cond1 rfl ?_
        refine J_skip ?_
        refine pj_then ?_
        refine J_seq ?_
        refine J_block ?_
        refine J_seq ?_
        refine J_reg ?_
        refine st (s_move rfl) rfl ?_
        refine st (s_assign rfl) rfl ?_
        refine Run.nil ?_
        refine pj_then ?_
        refine J_seq ?_
        refine J_seq ?_
        refine J_reg ?_
        refine st (s_move rfl) rfl ?_
        refine st (s_move rfl) rfl ?_
        refine st (sF (by omega) (s_ne rfl rfl)) rfl ?_
        refine Run.nil ?_
        refine pj_then ?_
        refine J_cond0 rfl ?_
        refine J_skip ?_
        refine pj_then ?_
        refine J_seq ?_
        refine J_reg ?_
        refine st (s_move rfl) rfl ?_
        refine st (s_move rfl) rfl ?_
        refine st (sF (by omega) (s_ne rfl rfl)) rfl ?_
        refine Run.nil ?_
        refine pj_then ?_
        refine J_cond0 rfl ?_
        refine J_skip ?_
        refine pn_block ?_
        refine pj_then ?_
        refine J_reg ?_
        refine st (s_addN _ 1 rfl rfl (by omega)) rfl ?_
        refine st (s_move rfl) rfl ?_
        refine Run.nil ?_
        refine pj_roundM ((k + 1, svr, capr, svc, capc)) (hk) (by omega) (by (repeat (first | exact SubG.nil | refine SubG.cons rfl (VT.le_refl _) ?_ | refine SubG.cons rfl (slV_len (by dsimp only; omega)) ?_))) (.keep (num_same e1) (.keep (num_same e2) (.keep (Own.le_refl _) (.keep (Own.le_refl _) (.nil)))))
      · have e2 := skl_next h2
        have l2 : (skl j (k + 1)).length = (skl j k).length + 1 := by rw [e2, List.length_append]; rfl
        refine J_seq ?_
        refine J_reg ?_
        refine st (sT (by omega) (s_lt rfl rfl)) rfl ?_
        refine Run.nil ?_
        refine pj_then ?_
        refine J_seq ?_
        refine J_cond1 rfl ?_
        refine J_skip ?_
        refine pj_then ?_
        refine J_seq ?_
        refine J_block ?_
        refine J_seq ?_
        refine J_reg ?_
        refine st (s_move rfl) rfl ?_
        refine st (s_assign rfl) rfl ?_
        refine Run.nil ?_
        refine pj_then ?_
        refine J_seq ?_
        refine J_seq ?_
        refine J_reg ?_
        refine st (s_move rfl) rfl ?_
        refine st (s_move rfl) rfl ?_
        refine st (sF (by omega) (s_ne rfl rfl)) rfl ?_
        refine Run.nil ?_
        refine pj_then ?_
        refine J_cond0 rfl ?_
        refine J_skip ?_
        refine pj_then ?_
        refine J_seq ?_
        refine J_reg ?_
        refine st (s_move rfl) rfl ?_
        refine st (s_move rfl) rfl ?_
        refine st (sT (by omega) (s_ne rfl rfl)) rfl ?_
        refine Run.nil ?_
        refine pj_then ?_
        refine J_cond1 rfl ?_
        refine J_reg ?_
        refine st (s_move rfl) rfl ?_
        refine st (s_move rfl) rfl ?_
        refine stS1 rfl rfl rfl rfl ?_
        (refine a_append 1 rfl rfl rfl (leN rfl) ?_ ?_ rfl (ltN rfl) (fun sv32 cap32 => ?_); omega; omega)
        refine st (s_assign rfl) rfl ?_
        refine Run.nil ?_
        refine pn_block ?_
        refine pj_then ?_
        refine J_reg ?_
        refine st (s_addN _ 1 rfl rfl (by omega)) rfl ?_
        refine st (s_move rfl) rfl ?_
        refine Run.nil ?_
        refine pj_roundM ((k + 1, svr, capr, sv32, cap32)) (hk) (by omega) (by (repeat (first | exact SubG.nil | refine SubG.cons rfl (VT.le_refl _) ?_ | refine SubG.cons rfl (slV_len (by dsimp only; omega)) ?_))) (.keep (num_same e1) (.keep (num_snoc e2) (.keep (Own.le_refl _) (.keep (Own.le_refl _) (.nil)))))
    · have e1 := skl_next h1
      have l1 : (skl i (k + 1)).length = (skl i k).length + 1 := by rw [e1, List.length_append]; rfl
      by_cases h2 : k = j
      · have e2 : skl j (k + 1) = skl j k := by rw [h2]; exact skl_skip j
        have l2 := congrArg List.length e2
        refine J_seq ?_
        refine J_reg ?_
        refine st (sT (by omega) (s_lt rfl rfl)) rfl ?_
        refine Run.nil ?_
        refine pj_then ?_
        refine J_seq ?_
        refine J_cond1 rfl ?_
        refine J_skip ?_
        refine pj_then ?_
        refine J_seq ?_
        refine J_block ?_
        refine J_seq ?_
        refine J_reg ?_
        refine st (s_move rfl) rfl ?_
        refine st (s_assign rfl) rfl ?_
        refine Run.nil ?_
        refine pj_then ?_
        refine J_seq ?_
        refine J_seq ?_
        refine J_reg ?_
        refine st (s_move rfl) rfl ?_
        refine st (s_move rfl) rfl ?_
        refine st (sT (by omega) (s_ne rfl rfl)) rfl ?_
        refine Run.nil ?_
        refine pj_then ?_
        refine J_cond1 rfl ?_
        refine J_reg ?_
        refine st (s_move rfl) rfl ?_
        refine st (s_move rfl) rfl ?_
        refine stS1 rfl rfl rfl rfl ?_
        (refine a_append 0 rfl rfl rfl (leN rfl) ?_ ?_ rfl (ltN rfl) (fun sv25 cap25 => ?_); omega; omega)
        refine st (s_assign rfl) rfl ?_
        refine Run.nil ?_
        refine pj_then ?_
        refine J_seq ?_
        refine J_reg ?_
        refine st (s_move rfl) rfl ?_
        refine st (s_move rfl) rfl ?_
        refine st (sF (by omega) (s_ne rfl rfl)) rfl ?_
        refine Run.nil ?_
        refine pj_then ?_
        refine J_cond0 rfl ?_
        refine J_skip ?_
        refine pn_block ?_
        refine pj_then ?_
        refine J_reg ?_
        refine st (s_addN _ 1 rfl rfl (by omega)) rfl ?_
        refine st (s_move rfl) rfl ?_
        refine Run.nil ?_
        refine pj_roundM ((k + 1, sv25, cap25, svc, capc)) (hk) (by omega) (by (repeat (first | exact SubG.nil | refine SubG.cons rfl (VT.le_refl _) ?_ | refine SubG.cons rfl (slV_len (by dsimp only; omega)) ?_))) (.keep (num_snoc e1) (.keep (num_same e2) (.keep (Own.le_refl _) (.keep (Own.le_refl _) (.nil)))))
      · have e2 := skl_next h2
        have l2 : (skl j (k + 1)).length = (skl j k).length + 1 := by rw [e2, List.length_append]; rfl
        refine J_seq ?_
        refine J_reg ?_
        refine st (sT (by omega) (s_lt rfl rfl)) rfl ?_
        refine Run.nil ?_
        refine pj_then ?_
        refine J_seq ?_
        refine J_cond1 rfl ?_
        refine J_skip ?_
        refine pj_then ?_
        refine J_seq ?_
        refine J_block ?_
        refine J_seq ?_
        refine J_reg ?_
        refine st (s_move rfl) rfl ?_
        refine st (s_assign rfl) rfl ?_
        refine Run.nil ?_
        refine pj_then ?_
        refine J_seq ?_
        refine J_seq ?_
        refine J_reg ?_
        refine st (s_move rfl) rfl ?_
        refine st (s_move rfl) rfl ?_
        refine st (sT (by omega) (s_ne rfl rfl)) rfl ?_
        refine Run.nil ?_
        refine pj_then ?_
        refine J_cond1 rfl ?_
        refine J_reg ?_
        refine st (s_move rfl) rfl ?_
        refine st (s_move rfl) rfl ?_
        refine stS1 rfl rfl rfl rfl ?_
        (refine a_append 0 rfl rfl rfl (leN rfl) ?_ ?_ rfl (ltN rfl) (fun sv25 cap25 => ?_); omega; omega)
        refine st (s_assign rfl) rfl ?_
        refine Run.nil ?_
        refine pj_then ?_
        refine J_seq ?_
        refine J_reg ?_
        refine st (s_move rfl) rfl ?_
        refine st (s_move rfl) rfl ?_
        refine st (sT (by omega) (s_ne rfl rfl)) rfl ?_
        refine Run.nil ?_
        refine pj_then ?_
        refine J_cond1 rfl ?_
        refine J_reg ?_
        refine st (s_move rfl) rfl ?_
        refine st (s_move rfl) rfl ?_
        refine stS1 rfl rfl rfl rfl ?_
        (refine a_append 1 rfl rfl rfl (leN rfl) ?_ ?_ rfl (ltN rfl) (fun sv32 cap32 => ?_); omega; omega)
        refine st (s_assign rfl) rfl ?_
        refine Run.nil ?_
        refine pn_block ?_
        refine pj_then ?_
        refine J_reg ?_
        refine st (s_addN _ 1 rfl rfl (by omega)) rfl ?_
        refine st (s_move rfl) rfl ?_
        refine Run.nil ?_
        refine pj_roundM ((k + 1, sv25, cap25, sv32, cap32)) (hk) (by omega) (by (repeat (first | exact SubG.nil | refine SubG.cons rfl (VT.le_refl _) ?_ | refine SubG.cons rfl (slV_len (by dsimp only; omega)) ?_))) (.keep (num_snoc e1) (.keep (num_snoc e2) (.keep (Own.le_refl _) (.keep (Own.le_refl _) (.nil)))))
  · have hkr : k = r := by omega
    subst hkr
    have hd := Det_ok (k - 1) (pickF (skl i k) (skl j k) F) n (by omega) (he.le (Nat.sub_le _ _)) (fun a b => hF _ _)
    have hds := det_lz (he.le (Nat.sub_le k 1)) (F := pickF (skl i k) (skl j k) F) (fun a b => hF _ _)
    have hdet : Lin.detZ (k - 1) (pickF (skl i k) (skl j k) F) = Lin.detZ (k - 1) (fun a b => F (Lin.skip i a) (Lin.skip j b)) := Lin.detZ_congr fun a b ha hb => by
      show F ((skl i k).getD a 0).toNat ((skl j k).getD b 0).toNat = _
      rw [skl_get (by omega), skl_get (by omega), Int.toNat_natCast, Int.toNat_natCast]
    unfold cof Lin.sgnZ
    rw [hdet] at hd hds
    have hneg := fun d (h : lz 1099511627700 d) => NegI_ok d (h.small (by decide))
    have hpk' : Ok Tryz.prog 97 [matF k k F, numT .i64 (skl i k), numT .i64 (skl j k)] (tupT [matF (k - 1) (k - 1) (pickF (skl i k) (skl j k) F), one (.int .i64 0)]) := by simpa [resMT] using hpk
    clear hpk
    unfold matF numT at *
    generalize Lin.detZ (k - 1) (fun a b => F (Lin.skip i a) (Lin.skip j b)) = d at *
    have hneg' := hneg d hds
    refine J_open [_] (List.Perm.refl _) (EntM.refl _) (EntG.set (t := 7) rfl (Ent.sl List.mem_cons_self)) ?_
    refine J_open [_] (List.Perm.refl _) (EntM.refl _) (EntG.set (t := 8) rfl (Ent.sl List.mem_cons_self)) ?_
    by_cases hp : (i + j) % 2 = 0
    · rw [if_pos hp, Int.one_mul]
      refine J_seq ?_
      refine J_reg ?_
      refine st (sF (by omega) (s_lt rfl rfl)) rfl ?_
      refine Run.nil ?_
      refine pj_then ?_
      refine J_seq ?_
      refine J_cond0 rfl ?_
      refine J_exit ?_
      refine px_then ?_
      refine px_then ?_
      refine px_block ?_
      refine pj_then ?_
      refine J_seq ?_
      refine J_reg ?_
      refine st (s_loadW 1 rfl rfl) rfl ?_
      refine st (s_move rfl) rfl ?_
      refine st (s_move rfl) rfl ?_
      refine st (s_callk (hpk' ) rfl ⟨VT.le_refl _, VT.le_refl _, VT.le_refl _, trivial⟩) rfl ?_
      refine st (s_move rfl) rfl ?_
      refine st (s_extract rfl rfl) rfl ?_
      refine st (s_extract rfl rfl) rfl ?_
      refine a_allocS (T := 28) rfl rfl rfl (fun b10 => ?_)
      refine a_storeW 0 rfl rfl rfl rfl ?_
      refine st (s_assign rfl) rfl ?_
      refine Run.nil ?_
      refine pj_then ?_
      refine J_seq ?_
      refine J_reg ?_
      refine st (s_loadW 0 rfl rfl) rfl ?_
      refine st (s_callk (hd ) rfl ⟨VT.le_refl _, trivial⟩) rfl ?_
      refine st (s_move rfl) rfl ?_
      refine st (s_extract rfl rfl) rfl ?_
      refine st (s_extract rfl rfl) rfl ?_
      refine a_alloc (T := 43) rfl (ltN rfl) (fun b12 => ?_)
      refine a_storeB 0 rfl rfl rfl rfl rfl (leN rfl) rfl ?_
      refine st (s_assign rfl) rfl ?_
      refine Run.nil ?_
      refine pj_then ?_
      refine J_seq ?_
      refine J_seq ?_
      refine J_reg ?_
      refine st (s_move rfl) rfl ?_
      refine st (s_move rfl) rfl ?_
      refine st (s_addN _ _ rfl rfl (by omega)) rfl ?_
      refine st (s_remN 2 rfl rfl rfl (by decide)) rfl ?_
      refine st (sF (by omega) (s_eq rfl rfl)) rfl ?_
      refine Run.nil ?_
      refine pj_then ?_
      refine J_cond0 rfl ?_
      refine J_skip ?_
      refine pj_then ?_
      refine J_seq ?_
      refine J_reg ?_
      refine st (s_loadB 0 rfl rfl rfl) rfl ?_
      refine a_storeB 2 rfl rfl rfl rfl rfl (leN rfl) rfl ?_
      refine Run.nil ?_
      refine pj_then ?_
      refine J_ret ?_
      refine retc1 Tryz.results66 (.cellB 2 rfl rfl rfl (VT.le_refl _))
    · rw [if_neg hp, show (-1 : Int) * d = -d by omega]
      refine J_seq ?_
      refine J_reg ?_
      refine st (sF (by omega) (s_lt rfl rfl)) rfl ?_
      refine Run.nil ?_
      refine pj_then ?_
      refine J_seq ?_
      refine J_cond0 rfl ?_
      refine J_exit ?_
      refine px_then ?_
      refine px_then ?_
      refine px_block ?_
      refine pj_then ?_
      refine J_seq ?_
      refine J_reg ?_
      refine st (s_loadW 1 rfl rfl) rfl ?_
      refine st (s_move rfl) rfl ?_
      refine st (s_move rfl) rfl ?_
      refine st (s_callk (hpk' ) rfl ⟨VT.le_refl _, VT.le_refl _, VT.le_refl _, trivial⟩) rfl ?_
      refine st (s_move rfl) rfl ?_
      refine st (s_extract rfl rfl) rfl ?_
      refine st (s_extract rfl rfl) rfl ?_
      refine a_allocS (T := 28) rfl rfl rfl (fun b10 => ?_)
      refine a_storeW 0 rfl rfl rfl rfl ?_
      refine st (s_assign rfl) rfl ?_
      refine Run.nil ?_
      refine pj_then ?_
      refine J_seq ?_
      refine J_reg ?_
      refine st (s_loadW 0 rfl rfl) rfl ?_
      refine st (s_callk (hd ) rfl ⟨VT.le_refl _, trivial⟩) rfl ?_
      refine st (s_move rfl) rfl ?_
      refine st (s_extract rfl rfl) rfl ?_
      refine st (s_extract rfl rfl) rfl ?_
      refine a_alloc (T := 43) rfl (ltN rfl) (fun b12 => ?_)
      refine a_storeB 0 rfl rfl rfl rfl rfl (leN rfl) rfl ?_
      refine st (s_assign rfl) rfl ?_
      refine Run.nil ?_
      refine pj_then ?_
      refine J_seq ?_
      refine J_seq ?_
      refine J_reg ?_
      refine st (s_move rfl) rfl ?_
      refine st (s_move rfl) rfl ?_
      refine st (s_addN _ _ rfl rfl (by omega)) rfl ?_
      refine st (s_remN 2 rfl rfl rfl (by decide)) rfl ?_
      refine st (sT (by omega) (s_eq rfl rfl)) rfl ?_
      refine Run.nil ?_
      refine pj_then ?_
      refine J_cond1 rfl ?_
      refine J_seq ?_
      refine J_reg ?_
      refine st (s_loadB 0 rfl rfl rfl) rfl ?_
      refine st (s_callk (hneg _ (by assumption)) rfl ⟨VT.le_refl _, trivial⟩) rfl ?_
      refine a_storeB 2 rfl rfl rfl rfl rfl (leN rfl) rfl ?_
      refine Run.nil ?_
      refine pj_then ?_
      refine J_ret ?_
      refine pr_then ?_
      refine retc1 Tryz.results66 (.cellB 2 rfl rfl rfl (VT.le_refl _))
end Tor
end
