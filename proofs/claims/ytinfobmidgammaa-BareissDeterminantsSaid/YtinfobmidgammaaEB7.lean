/-
  Theorems that the proofs of laws of this seat rest on.
  No condition.
-/
import Derived.Test.YtinfobmidgammaaEB6
section
set_option linter.unusedVariables false
set_option linter.unusedSimpArgs false
namespace Tor
open Go Go.RowKit Go.Proofs
theorem small_zero : small 0 := Nat.zero_le _
abbrev pivT (l : List Nat) : VT := slT .one l.length (pivF l)
def elim0 (n r : Nat) : Prop := 1 ≤ n ∧ (n + 1) * 2 ^ r ≤ 1099511627700
theorem elim0.b {n r : Nat} (h : elim0 n r) : (n + 1) * 2 ^ r ≤ 1099511627776 := Nat.le_trans h.2 (by decide)
theorem elim0.lz {n r : Nat} (h : elim0 n r) {e : ElS} (he : ElOk n r e) {x : Int} (hx : lz (bndN n e.piv.length) x) : lz 1099511627700 x := hx.mono (by
  have h1 := bndN_le (n := n) he.p
  have h2 := bndN_eq n r
  have h3 := h.2
  omega)
theorem det_lz {n r : Nat} {F : Nat → Nat → Int} (he : elim0 n r) (hF : ∀ i j, lz n (F i j)) : lz 1099511627700 (Lin.detZ r F) := by
  rw [← Lin.detE_eq]
  have hok := elN_ok (r := r) false he.1 hF r
  have h := he.lz hok hok.last
  unfold Lin.detE
  split
  · exact lz_zero _
  · split
    · exact lz_neg h
    · exact h
theorem elim0.le {n r s : Nat} (h : elim0 n r) (hs : s ≤ r) : elim0 n s := ⟨h.1, Nat.le_trans (Nat.mul_le_mul_left _ (Nat.pow_le_pow_right (by decide) hs)) h.2⟩
attribute [local irreducible] Tor.J Tor.PJ Tor.StepO Tor.one Tor.slT Tor.ptrT Tor.aggT Tor.tupT Tor.exT Tor.andT Tor.gT Tor.eP Tor.boxO Tor.sliO Tor.slV Tor.VT.le Tor.Ret Tor.anyT Tor.mapO Tor.metT Tor.xO
attribute [local irreducible] bigT rowF
set_option maxHeartbeats 4000000 in
theorem square_ok (r c : Nat) (F : Nat → Nat → Int) : Ok Try.prog 34 [matF r c F] (one (.bool (decide (r = c)))) := by
  have hv := matValidF_ok r c F
  unfold matF at *
  refine Ok.enter Try.func34 rfl Try.ntmps34 rfl (fun w O => ?_)
  by_cases h : r = c
  · rw [decide_eq_true h]
    refine J_seq ?_
    refine J_reg ?_
    refine a_boxS rfl rfl (ltN rfl) (fun b1 => ?_)
    refine st (s_assign rfl) rfl ?_
    refine Run.nil ?_
    refine pj_then ?_
    refine J_seq ?_
    refine J_reg ?_
    refine st (s_loadW 0 rfl rfl) rfl ?_
    refine st (s_callk (hv ) rfl ⟨VT.le_refl _, trivial⟩) rfl ?_
    refine st (s_move rfl) rfl ?_
    refine sg1 rfl rfl (s_fieldAddr rfl) rfl ?_
    refine sg1 rfl rfl (s_loadB 0 rfl rfl rfl) rfl ?_
    refine sg1 rfl rfl (s_fieldAddr rfl) rfl ?_
    refine sg1 rfl rfl (s_loadB 0 rfl rfl rfl) rfl ?_
    refine sg1 rfl rfl (sT (by omega) (s_eq rfl rfl)) rfl ?_
    refine st (s_pickT rfl rfl) rfl ?_
    refine st (s_assign rfl) rfl ?_
    refine Run.nil ?_
    refine pj_then ?_
    refine J_ret ?_
    refine retc1 Try.results34 (.tmp rfl (VT.le_refl _))
  · rw [decide_eq_false h]
    refine J_seq ?_
    refine J_reg ?_
    refine a_boxS rfl rfl (ltN rfl) (fun b1 => ?_)
    refine st (s_assign rfl) rfl ?_
    refine Run.nil ?_
    refine pj_then ?_
    refine J_seq ?_
    refine J_reg ?_
    refine st (s_loadW 0 rfl rfl) rfl ?_
    refine st (s_callk (hv ) rfl ⟨VT.le_refl _, trivial⟩) rfl ?_
    refine st (s_move rfl) rfl ?_
    refine sg1 rfl rfl (s_fieldAddr rfl) rfl ?_
    refine sg1 rfl rfl (s_loadB 0 rfl rfl rfl) rfl ?_
    refine sg1 rfl rfl (s_fieldAddr rfl) rfl ?_
    refine sg1 rfl rfl (s_loadB 0 rfl rfl rfl) rfl ?_
    refine sg1 rfl rfl (sF (by omega) (s_eq rfl rfl)) rfl ?_
    refine st (s_pickT rfl rfl) rfl ?_
    refine st (s_assign rfl) rfl ?_
    refine Run.nil ?_
    refine pj_then ?_
    refine J_ret ?_
    refine retc1 Try.results34 (.tmp rfl (VT.le_refl _))
set_option maxHeartbeats 4000000 in
theorem DetS_ok (r c : Nat) (F : Nat → Nat → Int) (h : r ≠ c) : Ok Try.prog 8 [matF r c F] (tupT [bigT 0, one (.int .i64 50)]) := by
  have hs := square_ok r c F
  rw [decide_eq_false h] at hs
  refine Ok.enter Try.func8 rfl Try.ntmps8 rfl (fun w O => ?_)
  refine J_seq ?_
  refine J_reg ?_
  refine a_boxS rfl rfl (ltN rfl) (fun b1 => ?_)
  refine a_alloc (T := 34) rfl (ltN rfl) (fun b2 => ?_)
  refine st (s_assign rfl) rfl ?_
  refine Run.nil ?_
  refine pj_then ?_
  refine J_seq ?_
  refine J_seq ?_
  refine J_reg ?_
  refine st (s_loadW 1 rfl rfl) rfl ?_
  refine st (s_callk (hs ) rfl ⟨VT.le_refl _, trivial⟩) rfl ?_
  refine st (s_not rfl) rfl ?_
  refine Run.nil ?_
  refine pj_then ?_
  refine J_cond1 rfl ?_
  refine J_seq ?_
  refine J_reg ?_
  refine stB rfl rfl rfl ?_
  refine BuildK.nil ?_
  refine a_storeB 0 rfl rfl rfl rfl rfl (leN rfl) rfl ?_
  refine st (s_assign rfl) rfl ?_
  refine Run.nil ?_
  refine pj_then ?_
  refine J_ret ?_
  refine pr_then ?_
  refine retc2 Try.results8 (.cellB 0 rfl rfl rfl (zero_bigC)) (.tmp rfl (VT.le_refl _))
set_option maxHeartbeats 4000000 in
theorem Det_ok (r : Nat) (F : Nat → Nat → Int) (n : Nat) (hr : r ≤ 1048576) (he : elim0 n r) (hF : ∀ i j, lz n (F i j)) : Ok Try.prog 8 [matF r r F] (tupT [bigT (Lin.detZ r F), one (.int .i64 0)]) := by
  have hs := square_ok r r F
  rw [decide_eq_true rfl] at hs
  have hru := runR_ok r r r F false n hr hr (Nat.le_refl _) he.1 he.b hF
  rw [← Lin.detE_eq]
  obtain ⟨A, V, hEL⟩ := Lin.elN_EL r r false F r (Nat.le_refl _)
  have hpr := hEL.gj.pr
  unfold Lin.detE
  have hok := elN_ok (r := r) false he.1 hF r
  generalize elN r false F r = e at *
  have hlast : small e.last := (he.lz hok hok.last).small (by decide)
  have hneg := NegI_ok e.last hlast
  have hadd := AddI_ok e.last 0 hlast small_zero
  rw [Int.add_zero] at hadd
  unfold matF elimT at *
  refine Ok.enter Try.func8 rfl Try.ntmps8 rfl (fun w O => ?_)
  by_cases h : e.piv.length < r
  · rw [if_pos h]
    refine J_seq ?_
    refine J_reg ?_
    refine a_boxS rfl rfl (ltN rfl) (fun b1 => ?_)
    refine a_alloc (T := 34) rfl (ltN rfl) (fun b2 => ?_)
    refine st (s_assign rfl) rfl ?_
    refine Run.nil ?_
    refine pj_then ?_
    refine J_seq ?_
    refine J_seq ?_
    refine J_reg ?_
    refine st (s_loadW 1 rfl rfl) rfl ?_
    refine st (s_callk (hs ) rfl ⟨VT.le_refl _, trivial⟩) rfl ?_
    refine st (s_not rfl) rfl ?_
    refine Run.nil ?_
    refine pj_then ?_
    refine J_cond0 rfl ?_
    refine J_skip ?_
    refine pj_then ?_
    refine J_seq ?_
    refine J_reg ?_
    refine st (s_fieldAddr rfl) rfl ?_
    refine st (s_loadB 1 rfl rfl rfl) rfl ?_
    refine st (s_fieldAddr rfl) rfl ?_
    refine st (s_loadB 1 rfl rfl rfl) rfl ?_
    refine st (s_callk (hru ) rfl ⟨VT.le_refl _, VT.le_refl _, VT.le_refl _, trivial⟩) rfl ?_
    refine st (s_assign rfl) rfl ?_
    refine Run.nil ?_
    refine pj_then ?_
    refine J_seq ?_
    refine J_block ?_
    refine J_seq ?_
    refine J_regd 9 mixed (by kernel_rfl) (by decide) ?_
    refine st (s_move rfl) rfl ?_
    refine st (s_nilCheckI rfl) rfl ?_
    refine st (s_fieldI rfl rfl) rfl ?_
    refine st (s_load rfl) rfl ?_
    refine st (s_len rfl) rfl ?_
    refine st (s_fieldAddr rfl) rfl ?_
    refine st (s_loadB 1 rfl rfl rfl) rfl ?_
    refine st (sT (by omega) (s_lt rfl rfl)) rfl ?_
    refine st (s_assign rfl) rfl ?_
    refine Run.nil ?_
    refine Run.nil ?_
    refine pj_then ?_
    refine J_cond1 rfl ?_
    refine J_seq ?_
    refine J_reg ?_
    refine stB rfl rfl rfl ?_
    refine BuildK.nil ?_
    refine a_storeB 0 rfl rfl rfl rfl rfl (leN rfl) rfl ?_
    refine st (s_assign rfl) rfl ?_
    refine Run.nil ?_
    refine pj_then ?_
    refine J_ret ?_
    refine pr_block ?_
    refine pr_then ?_
    refine retc2 Try.results8 (.cellB 0 rfl rfl rfl (zero_bigC)) (.tmp rfl (VT.le_refl _))
  · rw [if_neg h]
    cases ho : e.odd
    · simp only [ho] at *
      refine J_seq ?_
      refine J_reg ?_
      refine a_boxS rfl rfl (ltN rfl) (fun b1 => ?_)
      refine a_alloc (T := 34) rfl (ltN rfl) (fun b2 => ?_)
      refine st (s_assign rfl) rfl ?_
      refine Run.nil ?_
      refine pj_then ?_
      refine J_seq ?_
      refine J_seq ?_
      refine J_reg ?_
      refine st (s_loadW 1 rfl rfl) rfl ?_
      refine st (s_callk (hs ) rfl ⟨VT.le_refl _, trivial⟩) rfl ?_
      refine st (s_not rfl) rfl ?_
      refine Run.nil ?_
      refine pj_then ?_
      refine J_cond0 rfl ?_
      refine J_skip ?_
      refine pj_then ?_
      refine J_seq ?_
      refine J_reg ?_
      refine st (s_fieldAddr rfl) rfl ?_
      refine st (s_loadB 1 rfl rfl rfl) rfl ?_
      refine st (s_fieldAddr rfl) rfl ?_
      refine st (s_loadB 1 rfl rfl rfl) rfl ?_
      refine st (s_callk (hru ) rfl ⟨VT.le_refl _, VT.le_refl _, VT.le_refl _, trivial⟩) rfl ?_
      refine st (s_assign rfl) rfl ?_
      refine Run.nil ?_
      refine pj_then ?_
      refine J_seq ?_
      refine J_block ?_
      refine J_seq ?_
      refine J_regd 9 mixed (by kernel_rfl) (by decide) ?_
      refine st (s_move rfl) rfl ?_
      refine st (s_nilCheckI rfl) rfl ?_
      refine st (s_fieldI rfl rfl) rfl ?_
      refine st (s_load rfl) rfl ?_
      refine st (s_len rfl) rfl ?_
      refine st (s_fieldAddr rfl) rfl ?_
      refine st (s_loadB 1 rfl rfl rfl) rfl ?_
      refine st (sF (by omega) (s_lt rfl rfl)) rfl ?_
      refine st (s_assign rfl) rfl ?_
      refine Run.nil ?_
      refine Run.nil ?_
      refine pj_then ?_
      refine J_cond0 rfl ?_
      refine J_seq ?_
      refine J_reg ?_
      refine st (s_move rfl) rfl ?_
      refine st (s_nilCheckI rfl) rfl ?_
      refine st (s_fieldI rfl rfl) rfl ?_
      refine st (s_fieldI rfl rfl) rfl ?_
      refine st (s_load rfl) rfl ?_
      refine st (s_assign rfl) rfl ?_
      refine Run.nil ?_
      refine pj_then ?_
      refine J_cond0 rfl ?_
      refine J_skip ?_
      refine pn_block ?_
      refine pj_then ?_
      refine J_seq ?_
      refine J_reg ?_
      refine st (s_move rfl) rfl ?_
      refine st (s_nilCheckI rfl) rfl ?_
      refine st (s_fieldI rfl rfl) rfl ?_
      refine st (s_fieldI rfl rfl) rfl ?_
      refine st (s_load rfl) rfl ?_
      refine stB rfl rfl rfl ?_
      refine BuildK.nil ?_
      refine st (s_callk (hadd ) rfl ⟨VT.le_refl _, (zero_bigC), trivial⟩) rfl ?_
      refine a_storeB 0 rfl rfl rfl rfl rfl (leN rfl) rfl ?_
      refine st (s_assign rfl) rfl ?_
      refine Run.nil ?_
      refine pj_then ?_
      refine J_ret ?_
      refine retc2 Try.results8 (.cellB 0 rfl rfl rfl (VT.le_refl _)) (.tmp rfl (VT.le_refl _))
    · simp only [ho] at *
      refine J_seq ?_
      refine J_reg ?_
      refine a_boxS rfl rfl (ltN rfl) (fun b1 => ?_)
      refine a_alloc (T := 34) rfl (ltN rfl) (fun b2 => ?_)
      refine st (s_assign rfl) rfl ?_
      refine Run.nil ?_
      refine pj_then ?_
      refine J_seq ?_
      refine J_seq ?_
      refine J_reg ?_
      refine st (s_loadW 1 rfl rfl) rfl ?_
      refine st (s_callk (hs ) rfl ⟨VT.le_refl _, trivial⟩) rfl ?_
      refine st (s_not rfl) rfl ?_
      refine Run.nil ?_
      refine pj_then ?_
      refine J_cond0 rfl ?_
      refine J_skip ?_
      refine pj_then ?_
      refine J_seq ?_
      refine J_reg ?_
      refine st (s_fieldAddr rfl) rfl ?_
      refine st (s_loadB 1 rfl rfl rfl) rfl ?_
      refine st (s_fieldAddr rfl) rfl ?_
      refine st (s_loadB 1 rfl rfl rfl) rfl ?_
      refine st (s_callk (hru ) rfl ⟨VT.le_refl _, VT.le_refl _, VT.le_refl _, trivial⟩) rfl ?_
      refine st (s_assign rfl) rfl ?_
      refine Run.nil ?_
      refine pj_then ?_
      refine J_seq ?_
      refine J_block ?_
      refine J_seq ?_
      refine J_regd 9 mixed (by kernel_rfl) (by decide) ?_
      refine st (s_move rfl) rfl ?_
      refine st (s_nilCheckI rfl) rfl ?_
      refine st (s_fieldI rfl rfl) rfl ?_
      refine st (s_load rfl) rfl ?_
      refine st (s_len rfl) rfl ?_
      refine st (s_fieldAddr rfl) rfl ?_
      refine st (s_loadB 1 rfl rfl rfl) rfl ?_
      refine st (sF (by omega) (s_lt rfl rfl)) rfl ?_
      refine st (s_assign rfl) rfl ?_
      refine Run.nil ?_
      refine Run.nil ?_
      refine pj_then ?_
      refine J_cond0 rfl ?_
      refine J_seq ?_
      refine J_reg ?_
      refine st (s_move rfl) rfl ?_
      refine st (s_nilCheckI rfl) rfl ?_
      refine st (s_fieldI rfl rfl) rfl ?_
      refine st (s_fieldI rfl rfl) rfl ?_
      refine st (s_load rfl) rfl ?_
      refine st (s_assign rfl) rfl ?_
      refine Run.nil ?_
      refine pj_then ?_
      refine J_cond1 rfl ?_
      refine J_seq ?_
      refine J_reg ?_
      refine st (s_move rfl) rfl ?_
      refine st (s_nilCheckI rfl) rfl ?_
      refine st (s_fieldI rfl rfl) rfl ?_
      refine st (s_fieldI rfl rfl) rfl ?_
      refine st (s_load rfl) rfl ?_
      refine st (s_callk (hneg ) rfl ⟨VT.le_refl _, trivial⟩) rfl ?_
      refine a_storeB 0 rfl rfl rfl rfl rfl (leN rfl) rfl ?_
      refine st (s_assign rfl) rfl ?_
      refine Run.nil ?_
      refine pj_then ?_
      refine J_ret ?_
      refine pr_block ?_
      refine pr_then ?_
      refine retc2 Try.results8 (.cellB 0 rfl rfl rfl (VT.le_refl _)) (.tmp rfl (VT.le_refl _))
set_option maxHeartbeats 4000000 in
theorem Rank_ok (r c : Nat) (F : Nat → Nat → Int) (n : Nat) (hr : r ≤ 1048576) (hc : c ≤ 1048576) (he : elim0 n r) (he' : elim0 n c) (hF : ∀ i j, lz n (F i j)) :
    Ok Try.prog 11 [matF r c F] (tupT [pivT (Lin.newL c r (fun i j => F j i) r), pivT (Lin.newL r c F c)]) := by
  have hv := matValidF_ok r c F
  have hF' : ∀ i j, lz n ((fun i j => F j i : Nat → Nat → Int) i j) := fun i j => hF j i
  have hn : n ≤ 1099511627776 := by
    have h1 := he.2
    have h2 : 1 ≤ 2 ^ r := Nat.one_le_two_pow
    have h3 := Nat.mul_le_mul_left (n + 1) h2
    omega
  have ht := Transpose_ok r c F hr hc (fun i j => (hF i j).small hn)
  have h1 := runR_ok r c c F false n hr hc (Nat.le_refl _) he.1 he.b hF
  have h2 := runR_ok c r r (fun i j => F j i) false n hc hr (Nat.le_refl _) he.1 he'.b hF'
  obtain ⟨A, V, hE1⟩ := Lin.elN_EL r c false F c (Nat.le_refl _)
  obtain ⟨A', V', hE2⟩ := Lin.elN_EL c r false (fun i j => F j i) r (Nat.le_refl _)
  rw [← hE1.pl, ← hE2.pl]
  have p1 := hE1.gj.pr
  have p2 := hE2.gj.pr
  have p0 : r = 0 → (elN c false (fun i j => F j i) r).piv.length = 0 ∧ (elN r false F c).piv.length = 0 := fun h => by
    subst h; exact ⟨rfl, by omega⟩
  generalize elN r false F c = e1 at *
  generalize elN c false (fun i j => F j i) r = e2 at *
  unfold matF elimT at *
  refine Ok.enter Try.func11 rfl Try.ntmps11 rfl (fun w O => ?_)
  by_cases h : r = 0
  · obtain ⟨q1, q2⟩ := p0 h
    refine J_seq ?_
    refine J_reg ?_
    refine a_boxS rfl rfl (ltN rfl) (fun b1 => ?_)
    refine st (s_assign rfl) rfl ?_
    refine st (s_assign rfl) rfl ?_
    refine Run.nil ?_
    refine pj_then ?_
    refine J_seq ?_
    refine J_seq ?_
    refine J_reg ?_
    refine st (s_loadW 0 rfl rfl) rfl ?_
    refine st (s_callk (hv ) rfl ⟨VT.le_refl _, trivial⟩) rfl ?_
    refine st (s_not rfl) rfl ?_
    refine st (s_move rfl) rfl ?_
    refine sg1 rfl rfl (s_fieldAddr rfl) rfl ?_
    refine sg1 rfl rfl (s_loadB 0 rfl rfl rfl) rfl ?_
    refine sg1 rfl rfl (sT (by omega) (s_eq rfl rfl)) rfl ?_
    refine st (s_pickF rfl rfl) rfl ?_
    refine Run.nil ?_
    refine pj_then ?_
    refine J_cond1 rfl ?_
    refine J_seq ?_
    refine J_reg ?_
    refine st (s_assign rfl) rfl ?_
    refine st (s_assign rfl) rfl ?_
    refine Run.nil ?_
    refine pj_then ?_
    refine J_ret ?_
    refine pr_then ?_
    refine retc2 Try.results11 (.tmp rfl (by (unfold pivT; rw [q1]; exact nil_slT))) (.tmp rfl (by (unfold pivT; rw [q2]; exact nil_slT)))
  · refine J_seq ?_
    refine J_reg ?_
    refine a_boxS rfl rfl (ltN rfl) (fun b1 => ?_)
    refine st (s_assign rfl) rfl ?_
    refine st (s_assign rfl) rfl ?_
    refine Run.nil ?_
    refine pj_then ?_
    refine J_seq ?_
    refine J_seq ?_
    refine J_reg ?_
    refine st (s_loadW 0 rfl rfl) rfl ?_
    refine st (s_callk (hv ) rfl ⟨VT.le_refl _, trivial⟩) rfl ?_
    refine st (s_not rfl) rfl ?_
    refine st (s_move rfl) rfl ?_
    refine sg1 rfl rfl (s_fieldAddr rfl) rfl ?_
    refine sg1 rfl rfl (s_loadB 0 rfl rfl rfl) rfl ?_
    refine sg1 rfl rfl (sF (by omega) (s_eq rfl rfl)) rfl ?_
    refine st (s_pickF rfl rfl) rfl ?_
    refine Run.nil ?_
    refine pj_then ?_
    refine J_cond0 rfl ?_
    refine J_skip ?_
    refine pj_then ?_
    refine J_seq ?_
    refine J_regd 9 mixed (by kernel_rfl) (by decide) ?_
    refine st (s_loadW 0 rfl rfl) rfl ?_
    refine st (s_callk (ht ) rfl ⟨VT.le_refl _, trivial⟩) rfl ?_
    refine st (s_field rfl rfl) rfl ?_
    refine st (s_fieldAddr rfl) rfl ?_
    refine st (s_loadB 0 rfl rfl rfl) rfl ?_
    refine st (s_callk (h2 ) rfl ⟨VT.le_refl _, VT.le_refl _, VT.le_refl _, trivial⟩) rfl ?_
    refine st (s_nilCheckI rfl) rfl ?_
    refine st (s_fieldI rfl rfl) rfl ?_
    refine st (s_load rfl) rfl ?_
    refine Run.nil ?_
    refine st (s_assign rfl) rfl ?_
    refine Run.nil ?_
    refine pj_then ?_
    refine J_seq ?_
    refine J_regd 10 mixed (by kernel_rfl) (by decide) ?_
    refine st (s_move rfl) rfl ?_
    refine st (s_fieldAddr rfl) rfl ?_
    refine st (s_loadB 0 rfl rfl rfl) rfl ?_
    refine st (s_fieldAddr rfl) rfl ?_
    refine st (s_loadB 0 rfl rfl rfl) rfl ?_
    refine st (s_callk (h1 ) rfl ⟨VT.le_refl _, VT.le_refl _, VT.le_refl _, trivial⟩) rfl ?_
    refine st (s_nilCheckI rfl) rfl ?_
    refine st (s_fieldI rfl rfl) rfl ?_
    refine st (s_load rfl) rfl ?_
    refine st (s_assign rfl) rfl ?_
    refine Run.nil ?_
    refine st (s_assign rfl) rfl ?_
    refine Run.nil ?_
    refine pj_then ?_
    refine J_ret ?_
    refine retc2 Try.results11 (.tmp rfl (VT.le_refl _)) (.tmp rfl (VT.le_refl _))
end Tor
end

section
set_option linter.unusedVariables false
set_option linter.unusedSimpArgs false
namespace Tor
open Go Go.RowKit Go.Proofs
def qz (n : Nat) (q : Rat) : Prop := lz n q.num ∧ lz n (q.den : Int)
attribute [local irreducible] Tor.J Tor.PJ Tor.StepO Tor.one Tor.slT Tor.ptrT Tor.aggT Tor.tupT Tor.exT Tor.andT Tor.gT Tor.eP Tor.boxO Tor.sliO Tor.slV Tor.VT.le Tor.Ret Tor.anyT Tor.mapO Tor.metT Tor.xO
attribute [local irreducible] bigT
set_option maxHeartbeats 4000000 in
theorem rqof_ok (n d : Int) (hd : d ≠ 0) (hn : small0 n) (hds : small0 d) : Ok Try.prog 80 [bigT n, bigT d] (ratT (Rat.divInt n d)) := by
  have h := rqOf_ok n d hd hn hds
  unfold ratT fracT at *
  refine Ok.enter Try.func80 rfl Try.ntmps80 rfl (fun w O => ?_)
  refine J_seq ?_
  refine J_reg ?_
  refine a_box rfl rfl (ltN rfl) (fun b2 => ?_)
  refine a_box rfl rfl (ltN rfl) (fun b3 => ?_)
  refine a_allocS (T := 63) rfl rfl rfl (fun b4 => ?_)
  refine Run.nil ?_
  refine pj_then ?_
  refine J_seq ?_
  refine J_reg ?_
  refine st (s_loadB 2 rfl rfl rfl) rfl ?_
  refine st (s_loadB 1 rfl rfl rfl) rfl ?_
  refine st (s_callk (h ) rfl ⟨VT.le_refl _, VT.le_refl _, trivial⟩) rfl ?_
  refine st (s_move rfl) rfl ?_
  refine st (s_extract rfl rfl) rfl ?_
  refine st (s_extract rfl rfl) rfl ?_
  refine a_allocS (T := 63) rfl rfl rfl (fun b5 => ?_)
  refine a_storeW 0 rfl rfl rfl rfl ?_
  refine st (s_assign rfl) rfl ?_
  refine Run.nil ?_
  refine pj_then ?_
  refine J_seq ?_
  refine J_reg ?_
  refine st (s_loadW 0 rfl rfl) rfl ?_
  refine a_storeW 1 rfl rfl rfl rfl ?_
  refine Run.nil ?_
  refine pj_then ?_
  refine J_ret ?_
  refine retc1 Try.results80 (.cellW 1 rfl rfl (VT.le_refl _))
set_option maxHeartbeats 4000000 in
theorem rqMade_ok (n d : Int) (hd : d ≠ 0) (n1 : -9223372036854775808 ≤ n) (n2 : n ≤ 9223372036854775807) (d1 : -9223372036854775808 ≤ d) (d2 : d ≤ 9223372036854775807) : Ok Try.prog 56 [one (.int .i64 n), one (.int .i64 d)] (ratT (Rat.divInt n d)) := by
  have o1 := rOf_ok n n1 n2
  have o2 := rOf_ok d d1 d2
  have c := rqof_ok n d hd (small0_lt (by omega)) (small0_lt (by omega))
  refine Ok.enter Try.func56 rfl Try.ntmps56 rfl (fun w O => ?_)
  refine J_seq ?_
  refine J_reg ?_
  refine a_allocS (T := 63) rfl rfl rfl (fun b4 => ?_)
  refine Run.nil ?_
  refine pj_then ?_
  refine J_seq ?_
  refine J_seq ?_
  refine J_reg ?_
  refine st (s_move rfl) rfl ?_
  refine st (sF (by assumption) (s_eq rfl rfl)) rfl ?_
  refine Run.nil ?_
  refine pj_then ?_
  refine J_cond0 rfl ?_
  refine J_skip ?_
  refine pj_then ?_
  refine J_seq ?_
  refine J_reg ?_
  refine st (s_move rfl) rfl ?_
  refine st (s_callk (o1 ) rfl ⟨VT.le_refl _, trivial⟩) rfl ?_
  refine st (s_move rfl) rfl ?_
  refine st (s_callk (o2 ) rfl ⟨VT.le_refl _, trivial⟩) rfl ?_
  refine st (s_callk (c ) rfl ⟨VT.le_refl _, VT.le_refl _, trivial⟩) rfl ?_
  refine a_storeW 0 rfl rfl rfl rfl ?_
  refine Run.nil ?_
  refine pj_then ?_
  refine J_ret ?_
  refine retc1 Try.results56 (.cellW 0 rfl rfl (VT.le_refl _))
set_option maxHeartbeats 4000000 in
theorem rqList_ok (n m : Nat) (l k : Nat → Rat) (hn : n ≤ 1048576) : Ok Try.prog 31 [slT (.agg 4) n (fun i => ratT (l i)), slT (.agg 4) m (fun i => ratT (k i))] (one (.bool (decide (n = m ∧ ∀ i, i < n → l i = k i)))) := by
  refine Ok.enter Try.func31 rfl Try.ntmps31 rfl (fun w O => ?_)
  by_cases h : n = m
  · subst h
    refine J_seq ?_
    refine J_reg ?_
    refine st (s_assign rfl) rfl ?_
    refine Run.nil ?_
    refine pj_then ?_
    refine J_seq ?_
    refine J_seq ?_
    refine J_reg ?_
    refine st (s_move rfl) rfl ?_
    refine st (s_len rfl) rfl ?_
    refine st (s_move rfl) rfl ?_
    refine st (s_len rfl) rfl ?_
    refine st (sF (by omega) (s_ne rfl rfl)) rfl ?_
    refine Run.nil ?_
    refine pj_then ?_
    refine J_cond0 rfl ?_
    refine J_skip ?_
    refine pj_then ?_
    refine J_seq ?_
    refine J_seq ?_
    refine J_reg ?_
    refine st (s_assign rfl) rfl ?_
    refine Run.nil ?_
    refine pj_then ?_
    refine J_block ?_
    refine J_sub (Γ' := [(0, _), (1, _), (4, _), (5, _)]) (SubG.cons rfl (VT.le_refl _) (SubG.cons rfl (VT.le_refl _) (SubG.cons rfl (VT.le_refl _) (SubG.cons rfl (VT.le_refl _) (SubG.nil))))) (SubM.refl _) ?_
    refine J_loopA (σ := Nat) (Γk := [(0, _), (1, _)]) (SubG.cons rfl (VT.le_refl _) (SubG.cons rfl (VT.le_refl _) (SubG.nil))) (fun i => [(5, one (.int .i64 (i : Nat)))]) (fun i M0 => M0) (fun i => i ≤ n ∧ ∀ q, q < i → l q = k q) (fun i => n - i) (0) (⟨Nat.zero_le _, fun q h => absurd h (Nat.not_lt_zero _)⟩) (by repeat (first | exact SubG.refl _ | exact SubG.nil | refine SubG.cons rfl (VT.le_refl _) ?_ | (refine SubG.cons rfl (one_le ?_) ?_; (congr 1; first | omega | (simp; omega) | simp)))) (.nil) (fun i hi => ?_)
    refine J_norm (Γ' := [(5, _), (0, _), (1, _)]) (M' := []) rfl rfl ?_
    obtain ⟨hi, hq⟩ := hi
    by_cases hin : i < n
    · have hs := rqSame_ok (l i) (k i)
      by_cases he : l i = k i
      · rw [decide_eq_true he] at hs
        refine J_seq ?_
        refine J_seq ?_
        refine J_reg ?_
        refine st (s_move rfl) rfl ?_
        refine st (s_move rfl) rfl ?_
        refine st (s_len rfl) rfl ?_
        refine st (sT (by omega) (s_lt rfl rfl)) rfl ?_
        refine Run.nil ?_
        refine pj_then ?_
        refine J_cond1 rfl ?_
        refine J_skip ?_
        refine pj_then ?_
        refine J_seq ?_
        refine J_block ?_
        refine J_seq ?_
        refine J_regd 10 mixed (by kernel_rfl) (by decide) ?_
        refine st (s_move rfl) rfl ?_
        refine st (s_move rfl) rfl ?_
        refine st (s_indexIN rfl rfl (by omega)) rfl ?_
        refine st (s_load rfl) rfl ?_
        refine st (s_move rfl) rfl ?_
        refine st (s_move rfl) rfl ?_
        refine st (s_indexIN rfl rfl (by omega)) rfl ?_
        refine st (s_load rfl) rfl ?_
        refine st (s_callk (hs ) rfl ⟨VT.le_refl _, VT.le_refl _, trivial⟩) rfl ?_
        refine st (s_not rfl) rfl ?_
        refine Run.nil ?_
        refine Run.nil ?_
        refine pj_then ?_
        refine J_cond0 rfl ?_
        refine J_skip ?_
        refine pn_block ?_
        refine pj_then ?_
        refine J_reg ?_
        refine st (s_move rfl) rfl ?_
        refine st (s_addN _ 1 rfl rfl (by omega)) rfl ?_
        refine st (s_assign rfl) rfl ?_
        refine Run.nil ?_
        refine pj_roundM (i + 1) (⟨hin, fun q h => by by_cases h3 : q = i; exact h3 ▸ he; exact hq q (by omega)⟩) (by omega) (by repeat (first | exact SubG.refl _ | exact SubG.nil | refine SubG.cons rfl (VT.le_refl _) ?_ | (refine SubG.cons rfl (one_le ?_) ?_; (congr 1; first | omega | (simp; omega) | simp)))) (.nil)
      · rw [decide_eq_false he] at hs
        rw [decide_eq_false (fun h => he (h.2 i hin))]
        refine J_seq ?_
        refine J_seq ?_
        refine J_reg ?_
        refine st (s_move rfl) rfl ?_
        refine st (s_move rfl) rfl ?_
        refine st (s_len rfl) rfl ?_
        refine st (sT (by omega) (s_lt rfl rfl)) rfl ?_
        refine Run.nil ?_
        refine pj_then ?_
        refine J_cond1 rfl ?_
        refine J_skip ?_
        refine pj_then ?_
        refine J_seq ?_
        refine J_block ?_
        refine J_seq ?_
        refine J_regd 10 mixed (by kernel_rfl) (by decide) ?_
        refine st (s_move rfl) rfl ?_
        refine st (s_move rfl) rfl ?_
        refine st (s_indexIN rfl rfl (by omega)) rfl ?_
        refine st (s_load rfl) rfl ?_
        refine st (s_move rfl) rfl ?_
        refine st (s_move rfl) rfl ?_
        refine st (s_indexIN rfl rfl (by omega)) rfl ?_
        refine st (s_load rfl) rfl ?_
        refine st (s_callk (hs ) rfl ⟨VT.le_refl _, VT.le_refl _, trivial⟩) rfl ?_
        refine st (s_not rfl) rfl ?_
        refine Run.nil ?_
        refine Run.nil ?_
        refine pj_then ?_
        refine J_cond1 rfl ?_
        refine J_seq ?_
        refine J_reg ?_
        refine st (s_assign rfl) rfl ?_
        refine Run.nil ?_
        refine pj_then ?_
        refine J_ret ?_
        refine pr_block ?_
        refine pr_then ?_
        refine pr_then ?_
        refine pr_block ?_
        refine pr_then ?_
        refine retc1 Try.results31 (.tmp rfl (VT.le_refl _))
    · rw [decide_eq_true ⟨rfl, fun q h => hq q (by omega)⟩]
      refine J_seq ?_
      refine J_seq ?_
      refine J_reg ?_
      refine st (s_move rfl) rfl ?_
      refine st (s_move rfl) rfl ?_
      refine st (s_len rfl) rfl ?_
      refine st (sF (by omega) (s_lt rfl rfl)) rfl ?_
      refine Run.nil ?_
      refine pj_then ?_
      refine J_cond0 rfl ?_
      refine J_exit ?_
      refine px_then ?_
      refine px_then ?_
      refine px_block ?_
      refine pj_then ?_
      refine J_seq ?_
      refine J_reg ?_
      refine st (s_assign rfl) rfl ?_
      refine Run.nil ?_
      refine pj_then ?_
      refine J_ret ?_
      refine retc1 Try.results31 (.tmp rfl (VT.le_refl _))
  · rw [decide_eq_false (fun k => h k.1)]
    refine J_seq ?_
    refine J_reg ?_
    refine st (s_assign rfl) rfl ?_
    refine Run.nil ?_
    refine pj_then ?_
    refine J_seq ?_
    refine J_seq ?_
    refine J_reg ?_
    refine st (s_move rfl) rfl ?_
    refine st (s_len rfl) rfl ?_
    refine st (s_move rfl) rfl ?_
    refine st (s_len rfl) rfl ?_
    refine st (sT (by omega) (s_ne rfl rfl)) rfl ?_
    refine Run.nil ?_
    refine pj_then ?_
    refine J_cond1 rfl ?_
    refine J_seq ?_
    refine J_reg ?_
    refine st (s_assign rfl) rfl ?_
    refine Run.nil ?_
    refine pj_then ?_
    refine J_ret ?_
    refine pr_then ?_
    refine retc1 Try.results31 (.tmp rfl (VT.le_refl _))
end Tor
end

section
set_option linter.unusedVariables false
set_option linter.unusedSimpArgs false
namespace Tor
open Go Go.RowKit Go.Proofs
attribute [local irreducible] Tor.J Tor.PJ Tor.StepO Tor.one Tor.slT Tor.ptrT Tor.aggT Tor.tupT Tor.exT Tor.andT Tor.gT Tor.eP Tor.boxO Tor.sliO Tor.slV Tor.VT.le Tor.Ret Tor.anyT
attribute [local irreducible] bigT Tor.rowsO
end Tor
end

section
set_option linter.unusedVariables false
set_option linter.unusedSimpArgs false
namespace Tor
open Go Go.RowKit Go.Proofs
theorem perm6 (x y z u t s : Own) : [x, y, z, u, t, s].Perm ([y, z] ++ [x, u, t, s]) := (List.Perm.swap y x _).trans (List.Perm.cons y (List.Perm.swap z x _))
attribute [local irreducible] Tor.J Tor.PJ Tor.StepO Tor.one Tor.slT Tor.ptrT Tor.aggT Tor.tupT Tor.exT Tor.andT Tor.gT Tor.eP Tor.boxO Tor.sliO Tor.slV Tor.VT.le Tor.Ret Tor.anyT
attribute [local irreducible] bigT Tor.rowsO
end Tor
end

section
set_option linter.unusedVariables false
set_option linter.unusedSimpArgs false
namespace Tor
open Go Go.RowKit Go.Proofs
def ratF (n : Nat) (f : Nat → Rat) : VT := slT (.agg 4) n (fun i => ratT (f i))
theorem ratF_le {n : Nat} {f g : Nat → Rat} (h : ∀ i, i < n → f i = g i) : VT.le (ratF n f) (ratF n g) := slT_le fun i hi => le_eq (by rw [h i hi])
instance {n : Nat} {f : Nat → Rat} : Flat (ratF n f) .one := by unfold ratF; infer_instance
def firstQ (a : Nat → Rat) (n : Nat) : Nat := ((List.range' 0 n).find? fun i => decide (a i ≠ 0)).getD n
def redB (α β : Nat) : Nat → Nat
  | 0 => α
  | i + 1 => 2 * redB α β i + 2 * β + 1
theorem rat_snoc {sv : Option Nat} {T : TypeId} {cap i : Nat} {h : Nat → Rat} {x : Rat} (hx : x = h i) : Own.le (sliO sv T (.agg 4) cap (i + 1) (fun q => if q < i then ratT (h q) else ratT x)) (sliO sv T (.agg 4) cap (i + 1) (fun q => ratT (h q))) := sliO_eq fun q hq => by
  subst hx
  by_cases c : q < i
  · rw [if_pos c]
  · rw [if_neg c, show q = i by omega]
attribute [local irreducible] Tor.J Tor.PJ Tor.StepO Tor.one Tor.slT Tor.ptrT Tor.aggT Tor.tupT Tor.exT Tor.andT Tor.gT Tor.eP Tor.boxO Tor.sliO Tor.slV Tor.VT.le Tor.Ret Tor.anyT Tor.mapO Tor.metT Tor.xO
attribute [local irreducible] bigT ratT
end Tor
end

section
set_option linter.unusedVariables false
set_option linter.unusedSimpArgs false
namespace Tor
open Go Go.RowKit Go.Proofs
abbrev basF (l : List (Nat → Rat)) : Nat → Nat → Rat := fun k => l.getD k (fun _ => 0)
def newB (α : Nat) : Nat → Nat
  | 0 => α
  | k + 1 => redB α (newB α k) k
/-- What is known of the lists. -/
structure NewI (α c i : Nat) (s : List Nat × List (Nat → Rat)) : Prop where
  l1 : s.1.length = s.2.length
  l2 : s.2.length ≤ i
  b : ∀ k, k < s.2.length → firstQ (basF s.2 k) c < c ∧ ∀ j, qz (newB α s.2.length) (basF s.2 k j)
attribute [local irreducible] Tor.J Tor.PJ Tor.StepO Tor.one Tor.slT Tor.ptrT Tor.aggT Tor.tupT Tor.exT Tor.andT Tor.gT Tor.eP Tor.boxO Tor.sliO Tor.slV Tor.VT.le Tor.Ret Tor.anyT Tor.mapO Tor.metT Tor.xO
attribute [local irreducible] bigT ratT ratF rowF
end Tor
end

section
set_option linter.unusedVariables false
set_option linter.unusedSimpArgs false
namespace Tor.Lin
def DetI (n k : Nat) (F : Nat → Nat → Int) (R : Nat → Nat → Rat) (o : Rat) : Prop := det n (fun i j => (F i j : Rat)) = o * det (n - k) (fun i j => R (k + i) (k + j))
end Tor.Lin
end

section
set_option linter.unusedVariables false
set_option linter.unusedSimpArgs false
namespace Tor
open Go Go.RowKit Go.Proofs
def rdB (α : Nat) : Nat → Nat
  | 0 => α
  | k + 1 => 4 * rdB α k + 1
/-- The state of the reference's elimination. -/
structure RdI (α n k : Nat) (F : Nat → Nat → Int) (R : Nat → Nat → Rat) (o : Rat) : Prop where
  d : Lin.DetI n k F R o
  q : ∀ i j, qz (rdB α k) (R i j)
  o : qz (rdB α k) o
attribute [local irreducible] Tor.J Tor.PJ Tor.StepO Tor.one Tor.slT Tor.ptrT Tor.aggT Tor.tupT Tor.exT Tor.andT Tor.gT Tor.eP Tor.boxO Tor.sliO Tor.slV Tor.VT.le Tor.Ret Tor.anyT Tor.mapO Tor.metT Tor.xO
attribute [local irreducible] bigT ratT
end Tor
end

section
set_option linter.unusedVariables false
set_option linter.unusedSimpArgs false
namespace Tor
def eqS (r : Nat) (F : Nat → Nat → Int) (b : Nat → Int) : Nat → Nat → Int := fun j i => if i < r then F i j else if i = r then b j else if i = r + 1 + j then 1 else 0
def xsN (e : ElS) (r : Nat) : Nat → Nat → Rat
  | 0 => fun _ => 0
  | k + 1 => fun i => if i = e.piv.getD k 0 then Rat.divInt (e.R k r) (e.R k i) else xsN e r k i
end Tor
namespace Tor.Lin
variable {r c : Nat} {F : Nat → Nat → Int} {b : Nat → Int} {e : ElS} {A : Nat → Nat → Int} {V : Nat → Nat → Rat}
end Tor.Lin
end

section
set_option linter.unusedVariables false
set_option linter.unusedSimpArgs false
namespace Tor
open Go Go.RowKit Go.Proofs
theorem fill_rat {sv : Option Nat} {T : TypeId} {cap n j : Nat} {h : Nat → Rat} {x : Rat} (hx : x = h j) : Own.le (sliO sv T (.agg 4) cap n (upd (fun q => if q < j then ratT (h q) else fracT 0 0) j (ratT x))) (sliO sv T (.agg 4) cap n (fun q => if q < j + 1 then ratT (h q) else fracT 0 0)) := sliO_eq (fun q _ => by
  subst hx
  show (if q = j then ratT (h j) else (if q < j then ratT (h q) else fracT 0 0)) = _
  by_cases c : q = j
  · rw [if_pos c, if_pos (by omega), c]
  · rw [if_neg c]
    by_cases c2 : q < j
    · rw [if_pos c2, if_pos (by omega)]
    · rw [if_neg c2, if_neg (by omega)])
theorem zeroR_le : VT.le (one (.agg #[.bool false, .slice none 0 0, .bool false, .slice none 0 0])) (fracT 0 0) := by
  intro v h e
  have e : v = .agg #[.bool false, .slice none 0 0, .bool false, .slice none 0 0] := e
  subst e
  refine ⟨_, rfl, rfl, by simp [Value.oneCell'], fun q hq => ?_⟩
  rcases List.mem_cons.1 hq with rfl | hq
  · exact ⟨_, rfl, zeroB_le _ _ rfl⟩
  · rcases List.mem_cons.1 hq with rfl | hq
    · exact ⟨_, rfl, zeroB_le _ _ rfl⟩
    · cases hq
theorem el_pivne {r w c : Nat} {full : Bool} {A : Nat → Nat → Int} {e : ElS} {V : Nat → Nat → Rat} (h : Lin.GJ r w c full A e V) (hf : full = true) (hcw : c ≤ w) {k : Nat} (hk : k < e.piv.length) : e.R k (e.piv.getD k 0) ≠ 0 := by
  have h1 := h.pc k hk
  have h2 := h.B3 k (Nat.lt_of_lt_of_le hk h.pr) (e.piv.getD k 0) (Nat.lt_of_lt_of_le h1 hcw) (.inl hf)
  have h3 := h.V4 k hk k (Nat.lt_of_lt_of_le hk h.pr)
  rw [if_pos rfl] at h3
  have h3 : V k (e.piv.getD k 0) = 1 := h3
  rw [h3, Rat.mul_one] at h2
  intro h0
  rw [h0] at h2
  exact Lin.int_ne h.d0 h2.symm
attribute [local irreducible] Tor.J Tor.PJ Tor.StepO Tor.one Tor.slT Tor.ptrT Tor.aggT Tor.tupT Tor.exT Tor.andT Tor.gT Tor.eP Tor.boxO Tor.sliO Tor.slV Tor.VT.le Tor.Ret Tor.anyT Tor.mapO Tor.metT Tor.xO
attribute [local irreducible] bigT
set_option maxHeartbeats 4000000 in
theorem overM_ok (n : Nat) (f : Nat → Int) (d : Int) (hn : n ≤ 1048576) (hd : d ≠ 0) (hds : small d) (hf : ∀ i, i < n → small (f i)) : OkM (σ := Nat) Try.prog 51 [rowF n f, bigT d] (fun s => one (slV (some s) n n)) (fun s => [sliO (some s) 63 (.agg 4) n n (fun i => ratT (Rat.divInt (f i) d))]) := by
  unfold rowF
  refine OkM.enter Try.func51 rfl Try.ntmps51 rfl (fun w0 O => ?_)
  refine J_seq ?_
  refine J_reg ?_
  refine a_box rfl rfl (ltN rfl) (fun b3 => ?_)
  refine st (s_assign rfl) rfl ?_
  refine Run.nil ?_
  refine pj_then ?_
  refine J_seq ?_
  refine J_reg ?_
  refine st (s_move rfl) rfl ?_
  refine st (s_len rfl) rfl ?_
  refine a_makeSlice n n rfl rfl rfl rfl (Nat.le_refl _) rfl rfl (by omega) rfl rfl (fun bz => ?_)
  refine st (s_assign rfl) rfl ?_
  refine Run.nil ?_
  refine pj_then ?_
  refine J_seq ?_
  refine J_seq ?_
  refine J_reg ?_
  refine st (s_move rfl) rfl ?_
  refine st (s_len rfl) rfl ?_
  refine st (s_move rfl) rfl ?_
  refine Run.nil ?_
  refine pj_then ?_
  refine J_block ?_
  refine J_sub (Γ' := [(3, _), (4, _), (5, _), (11, _), (12, _), (13, _)]) (SubG.cons rfl (VT.le_refl _) (SubG.cons rfl (VT.le_refl _) (SubG.cons rfl (VT.le_refl _) (SubG.cons rfl (VT.le_refl _) (SubG.cons rfl (VT.le_refl _) (SubG.cons rfl (VT.le_refl _) (SubG.nil))))))) (SubM.refl _) ?_
  refine J_loopA (σ := Nat) (Γk := [(3, _), (4, _), (5, _), (11, _), (12, _)]) (SubG.cons rfl (VT.le_refl _) (SubG.cons rfl (VT.le_refl _) (SubG.cons rfl (VT.le_refl _) (SubG.cons rfl (VT.le_refl _) (SubG.cons rfl (VT.le_refl _) (SubG.nil)))))) (fun i => [(13, one (.int .i64 (i : Nat)))]) (fun i M0 => (M0.set 0 (sliO (some bz) 63 (.agg 4) n n (fun q => if q < i then ratT (Rat.divInt (f q) d) else fracT 0 0)))) (fun i => i ≤ n) (fun i => n - i) (0) (Nat.zero_le _) (by repeat (first | exact SubG.refl _ | exact SubG.nil | refine SubG.cons rfl (VT.le_refl _) ?_ | (refine SubG.cons rfl (one_le ?_) ?_; (congr 1; first | omega | (simp; omega) | simp)))) (.keep (sliO_le fun q hq => zeroR_le) (.keep (Own.le_refl _) (.nil))) (fun i hi => ?_)
  refine J_norm (Γ' := [(13, _), (3, _), (4, _), (5, _), (11, _), (12, _)]) (M' := [_, _]) rfl rfl ?_
  by_cases hc : i < n
  · have hq := qOf_ok (f i) d hd (hf i hc) hds
    refine J_seq ?_
    refine J_reg ?_
    refine st (sT (by omega) (s_lt rfl rfl)) rfl ?_
    refine Run.nil ?_
    refine pj_then ?_
    refine J_seq ?_
    refine J_cond1 rfl ?_
    refine J_skip ?_
    refine pj_then ?_
    refine J_seq ?_
    refine J_block ?_
    refine J_seq ?_
    refine J_reg ?_
    refine st (s_move rfl) rfl ?_
    refine st (s_indexIN rfl rfl (by omega)) rfl ?_
    refine st (s_load rfl) rfl ?_
    refine a_alloc (T := 34) rfl (ltN rfl) (fun b7 => ?_)
    refine st (s_assign rfl) rfl ?_
    refine a_storeB 0 rfl rfl rfl rfl rfl (leN rfl) rfl ?_
    refine Run.nil ?_
    refine pj_then ?_
    refine J_reg ?_
    refine st (s_move rfl) rfl ?_
    refine st (s_move rfl) rfl ?_
    refine st (s_loadB 0 rfl rfl rfl) rfl ?_
    refine st (s_loadB 2 rfl rfl rfl) rfl ?_
    refine st (s_callk (hq ) rfl ⟨VT.le_refl _, VT.le_refl _, trivial⟩) rfl ?_
    refine st (s_move rfl) rfl ?_
    refine st (s_extract rfl rfl) rfl ?_
    refine st (s_extract rfl rfl) rfl ?_
    refine st (s_indexON rfl rfl (by omega)) rfl ?_
    (refine a_storeE 1 rfl rfl rfl ?_ rfl ?_; omega)
    refine Run.nil ?_
    refine pn_block ?_
    refine pj_then ?_
    refine J_reg ?_
    refine st (s_addN _ 1 rfl rfl (by omega)) rfl ?_
    refine st (s_move rfl) rfl ?_
    refine Run.nil ?_
    refine pj_roundM (i + 1) (hc) (by omega) (by repeat (first | exact SubG.refl _ | exact SubG.nil | refine SubG.cons rfl (VT.le_refl _) ?_ | (refine SubG.cons rfl (one_le ?_) ?_; (congr 1; first | omega | (simp; omega) | simp)))) (.drop (.keep (fill_rat (h := fun q => Rat.divInt (f q) d) rfl) (.keep (Own.le_refl _) (.nil))))
  · have he : i = n := by omega
    subst he
    refine J_seq ?_
    refine J_reg ?_
    refine st (sF (by omega) (s_lt rfl rfl)) rfl ?_
    refine Run.nil ?_
    refine pj_then ?_
    refine J_seq ?_
    refine J_cond0 rfl ?_
    refine J_exit ?_
    refine px_then ?_
    refine px_then ?_
    refine px_block ?_
    refine pj_then ?_
    refine J_seq ?_
    refine J_reg ?_
    refine st (s_move rfl) rfl ?_
    refine st (s_assign rfl) rfl ?_
    refine Run.nil ?_
    refine pj_then ?_
    refine J_ret ?_
    exact retM1 (σ := Nat) (ψ := fun s => one (slV (some s) i i)) (Ms := fun s => [sliO (some s) 63 (.agg 4) i i (fun i => ratT (Rat.divInt (f i) d))]) bz Try.results51 (.tmp rfl (VT.le_refl _)) (.keep (sliO_eq fun q hq => by rw [if_pos hq]) (.drop .nil))
theorem over_ok (n : Nat) (f : Nat → Int) (d : Int) (hn : n ≤ 1048576) (hd : d ≠ 0) (hds : small d) (hf : ∀ i, i < n → small (f i)) : Ok Try.prog 51 [rowF n f, bigT d] (slT (.agg 4) n (fun i => ratT (Rat.divInt (f i) d))) :=
  (overM_ok n f d hn hd hds hf).ok fun s => Ent.sl List.mem_cons_self
theorem eqS_row {r j : Nat} {F : Nat → Nat → Int} {b : Nat → Int} (q : Nat) : upd (upd (fun q => bigT (if q < r then F q j else 0)) r (bigT (b j))) (r + 1 + j) (bigT 1) q = bigT (eqS r F b j q) := by
  show (if q = r + 1 + j then bigT 1 else (if q = r then bigT (b j) else bigT (if q < r then F q j else 0))) = _
  unfold eqS
  by_cases h1 : q = r + 1 + j
  · rw [if_pos h1, if_neg (by omega), if_neg (by omega), if_pos h1]
  · rw [if_neg h1]
    by_cases h2 : q = r
    · rw [if_pos h2, if_neg (by omega), if_pos h2]
    · rw [if_neg h2]
      by_cases h3 : q < r
      · rw [if_pos h3, if_pos h3]
      · rw [if_neg h3, if_neg h3, if_neg h2, if_neg h1]
theorem eqS_open {Ms : Mem} {sv bl : Option Nat} {T T' : TypeId} {c j r n capl : Nat} {F : Nat → Nat → Int} {b : Nat → Int} (hm : sliO bl T' (.agg 2) capl n (upd (upd (fun q => bigT (if q < r then F q j else 0)) r (bigT (b j))) (r + 1 + j) (bigT 1)) ∈ Ms) :
    EntO Ms (sliO sv T .one c c (upd (fun q => if q < j then rowF n (eqS r F b q) else one (.slice none 0 0)) j (one (slV bl n capl)))) (sliO sv T .one c c (fun q => if q < j + 1 then rowF n (eqS r F b q) else one (.slice none 0 0))) := EntO.sl fun q _ => by
  show Ent Ms (if q = j then one (slV bl n capl) else (if q < j then rowF n (eqS r F b q) else one (.slice none 0 0))) (if q < j + 1 then rowF n (eqS r F b q) else one (.slice none 0 0))
  by_cases h1 : q = j
  · rw [if_pos h1, if_pos (by omega), h1]
    exact Ent.slE hm fun k _ => Ent.le (le_eq (eqS_row k))
  · rw [if_neg h1]
    by_cases h2 : q < j
    · rw [if_pos h2, if_pos (by omega)]; exact Ent.refl _
    · rw [if_neg h2, if_neg (by omega)]; exact Ent.refl _
theorem lz_eqS {n r : Nat} {F : Nat → Nat → Int} {b : Nat → Int} (hn : 1 ≤ n) (hF : ∀ i j, lz n (F i j)) (hb : ∀ j, lz n (b j)) : ∀ i j, lz n (eqS r F b i j) := fun i j => by
  unfold eqS; split
  · exact hF _ _
  · split
    · exact hb _
    · split
      · exact lz_one hn
      · exact lz_zero _
theorem small_of_elim {n r : Nat} (he : elim0 n r) : n ≤ 1099511627700 := by
  have h1 := he.2
  have h2 : 1 ≤ 2 ^ r := Nat.one_le_two_pow
  have h3 := Nat.mul_le_mul_left (n + 1) h2
  omega
theorem fill_xs {sv : Option Nat} {T : TypeId} {cap n k r : Nat} {e : ElS} : Own.le (sliO sv T (.agg 4) cap n (upd (fun i => ratT (xsN e r k i)) (e.piv.getD k 0) (ratT (Rat.divInt (e.R k r) (e.R k (e.piv.getD k 0)))))) (sliO sv T (.agg 4) cap n (fun i => ratT (xsN e r (k + 1) i))) := sliO_eq fun q _ => by
  show (if q = e.piv.getD k 0 then ratT _ else ratT (xsN e r k q)) = ratT (if q = e.piv.getD k 0 then Rat.divInt (e.R k r) (e.R k q) else xsN e r k q)
  by_cases h : q = e.piv.getD k 0
  · rw [if_pos h, if_pos h, h]
  · rw [if_neg h, if_neg h]
set_option maxHeartbeats 4000000 in
theorem Solve_ok (r c : Nat) (F : Nat → Nat → Int) (b : Nat → Int) (n : Nat) (hr : r ≤ 1024) (hc : c ≤ 1024) (he : elim0 n c) (hF : ∀ i j, lz n (F i j)) (hb : ∀ j, lz n (b j)) : Ok Try.prog 24 [matF r c F, rowF c b]
    (match firstP (elN c true (eqS r F b) r).R r (elN c true (eqS r F b) r).piv.length c with
      | some q => tupT [slT (.agg 4) 0 (fun _ => ratT 0), slT (.agg 4) c (fun k => ratT (Rat.divInt ((elN c true (eqS r F b) r).R q (r + 1 + k)) ((elN c true (eqS r F b) r).R q r))), one (.bool false)]
      | none => tupT [slT (.agg 4) r (fun i => ratT (xsN (elN c true (eqS r F b) r) r (elN c true (eqS r F b) r).piv.length i)), slT (.agg 4) 0 (fun _ => ratT 0), one (.bool true)]) := by
  have hv := matValidF_ok r c F
  have h1 := Of_ok 1 (by decide) (by decide)
  unfold matF rowF at *
  refine Ok.enter Try.func24 rfl Try.ntmps24 rfl (fun w0 O => ?_)
  refine J_seq ?_
  refine J_reg ?_
  refine a_boxS rfl rfl (ltN rfl) (fun b2 => ?_)
  refine st (s_assign rfl) rfl ?_
  refine st (s_assign rfl) rfl ?_
  refine st (s_assign rfl) rfl ?_
  refine Run.nil ?_
  refine pj_then ?_
  refine J_seq ?_
  refine J_seq ?_
  refine J_reg ?_
  refine st (s_loadW 0 rfl rfl) rfl ?_
  refine st (s_callk (hv ) rfl ⟨VT.le_refl _, trivial⟩) rfl ?_
  refine st (s_not rfl) rfl ?_
  refine st (s_move rfl) rfl ?_
  refine sg1 rfl rfl (s_move rfl) rfl ?_
  refine sg1 rfl rfl (s_len rfl) rfl ?_
  refine sg1 rfl rfl (s_fieldAddr rfl) rfl ?_
  refine sg1 rfl rfl (s_loadB 0 rfl rfl rfl) rfl ?_
  refine sg1 rfl rfl (sF (by omega) (s_ne rfl rfl)) rfl ?_
  refine st (s_pickF rfl rfl) rfl ?_
  refine Run.nil ?_
  refine pj_then ?_
  refine J_cond0 rfl ?_
  refine J_skip ?_
  refine pj_then ?_
  refine J_seq ?_
  refine J_reg ?_
  refine st (s_fieldAddr rfl) rfl ?_
  refine st (s_loadB 0 rfl rfl rfl) rfl ?_
  refine a_makeSlice c c rfl rfl rfl rfl (Nat.le_refl _) rfl rfl (by omega) rfl rfl (fun bo => ?_)
  refine st (s_assign rfl) rfl ?_
  refine Run.nil ?_
  refine pj_then ?_
  refine J_seq ?_
  refine J_seq ?_
  refine J_reg ?_
  refine st (s_move rfl) rfl ?_
  refine st (s_lenO rfl) rfl ?_
  refine st (s_move rfl) rfl ?_
  refine Run.nil ?_
  refine pj_then ?_
  refine J_block ?_
  refine J_sub (Γ' := [(1, _), (2, _), (4, _), (5, _), (6, _), (7, _), (32, _), (33, _)]) (SubG.cons rfl (VT.le_refl _) (SubG.cons rfl (VT.le_refl _) (SubG.cons rfl (VT.le_refl _) (SubG.cons rfl (VT.le_refl _) (SubG.cons rfl (VT.le_refl _) (SubG.cons rfl (VT.le_refl _) (SubG.cons rfl (VT.le_refl _) (SubG.cons rfl (VT.le_refl _) (SubG.nil))))))))) (SubM.refl _) ?_
  refine J_loopA (σ := Nat) (Γk := [(1, _), (2, _), (4, _), (5, _), (6, _), (7, _), (32, _)]) (SubG.cons rfl (VT.le_refl _) (SubG.cons rfl (VT.le_refl _) (SubG.cons rfl (VT.le_refl _) (SubG.cons rfl (VT.le_refl _) (SubG.cons rfl (VT.le_refl _) (SubG.cons rfl (VT.le_refl _) (SubG.cons rfl (VT.le_refl _) (SubG.nil)))))))) (fun j => [(33, one (.int .i64 (j : Nat)))]) (fun j M0 => (M0.set 0 (sliO (some bo) 44 .one c c (fun q => if q < j then rowF (r + 1 + c) (eqS r F b q) else one (.slice none 0 0))))) (fun j => j ≤ c) (fun j => c - j) (0) (Nat.zero_le _) (by repeat (first | exact SubG.refl _ | exact SubG.nil | refine SubG.cons rfl (VT.le_refl _) ?_ | (refine SubG.cons rfl (one_le ?_) ?_; (congr 1; first | omega | (simp; omega) | simp)))) (.keep (Own.le_refl _) (.keep (Own.le_refl _) (.nil))) (fun j hj => ?_)
  refine J_norm (Γ' := [(33, _), (1, _), (2, _), (4, _), (5, _), (6, _), (7, _), (32, _)]) (M' := [_, _]) rfl rfl ?_
  by_cases hj : j < c
  · refine J_seq ?_
    refine J_reg ?_
    refine st (sT (by omega) (s_lt rfl rfl)) rfl ?_
    refine Run.nil ?_
    refine pj_then ?_
    refine J_seq ?_
    refine J_cond1 rfl ?_
    refine J_skip ?_
    refine pj_then ?_
    refine J_seq ?_
    refine J_block ?_
    refine J_seq ?_
    refine J_reg ?_
    refine st (s_move rfl) rfl ?_
    refine st (s_assign rfl) rfl ?_
    refine Run.nil ?_
    refine pj_then ?_
    refine J_seq ?_
    refine J_reg ?_
    refine st (s_fieldAddr rfl) rfl ?_
    refine st (s_loadB 1 rfl rfl rfl) rfl ?_
    refine st (s_addN _ 1 rfl rfl (by omega)) rfl ?_
    refine st (s_fieldAddr rfl) rfl ?_
    refine st (s_loadB 1 rfl rfl rfl) rfl ?_
    refine st (s_addN _ _ rfl rfl (by omega)) rfl ?_
    refine a_makeSlice (r + 1 + c) (r + 1 + c) rfl rfl (by simp) (by simp) (Nat.le_refl _) rfl rfl (by omega) rfl rfl (fun bl => ?_)
    refine st (s_assign rfl) rfl ?_
    refine Run.nil ?_
    refine pj_then ?_
    refine J_seq ?_
    refine J_seq ?_
    refine J_reg ?_
    refine st (s_fieldAddr rfl) rfl ?_
    refine st (s_loadB 2 rfl rfl rfl) rfl ?_
    refine st (s_len rfl) rfl ?_
    refine st (s_move rfl) rfl ?_
    refine Run.nil ?_
    refine pj_then ?_
    refine J_block ?_
    refine J_sub (Γ' := [(1, _), (2, _), (4, _), (5, _), (6, _), (7, _), (8, _), (9, _), (32, _), (33, _), (44, _), (45, _), (46, _)]) (SubG.cons rfl (VT.le_refl _) (SubG.cons rfl (VT.le_refl _) (SubG.cons rfl (VT.le_refl _) (SubG.cons rfl (VT.le_refl _) (SubG.cons rfl (VT.le_refl _) (SubG.cons rfl (VT.le_refl _) (SubG.cons rfl (VT.le_refl _) (SubG.cons rfl (VT.le_refl _) (SubG.cons rfl (VT.le_refl _) (SubG.cons rfl (VT.le_refl _) (SubG.cons rfl (VT.le_refl _) (SubG.cons rfl (VT.le_refl _) (SubG.cons rfl (VT.le_refl _) (SubG.nil)))))))))))))) (SubM.refl _) ?_
    refine J_loopA (σ := Nat) (Γk := [(1, _), (2, _), (4, _), (5, _), (6, _), (7, _), (8, _), (9, _), (32, _), (33, _), (44, _), (45, _)]) (SubG.cons rfl (VT.le_refl _) (SubG.cons rfl (VT.le_refl _) (SubG.cons rfl (VT.le_refl _) (SubG.cons rfl (VT.le_refl _) (SubG.cons rfl (VT.le_refl _) (SubG.cons rfl (VT.le_refl _) (SubG.cons rfl (VT.le_refl _) (SubG.cons rfl (VT.le_refl _) (SubG.cons rfl (VT.le_refl _) (SubG.cons rfl (VT.le_refl _) (SubG.cons rfl (VT.le_refl _) (SubG.cons rfl (VT.le_refl _) (SubG.nil))))))))))))) (fun i => [(46, one (.int .i64 (i : Nat)))]) (fun i M0 => (M0.set 0 (sliO (some bl) 34 (.agg 2) (r + 1 + c) (r + 1 + c) (fun q => bigT (if q < i then F q j else 0))))) (fun i => i ≤ r) (fun i => r - i) (0) (Nat.zero_le _) (by repeat (first | exact SubG.refl _ | exact SubG.nil | refine SubG.cons rfl (VT.le_refl _) ?_ | (refine SubG.cons rfl (one_le ?_) ?_; (congr 1; first | omega | (simp; omega) | simp)))) (.keep (sliO_le fun q hq => zero_big) (.keep (Own.le_refl _) (.keep (Own.le_refl _) (.nil)))) (fun i hi => ?_)
    refine J_norm (Γ' := [(46, _), (1, _), (2, _), (4, _), (5, _), (6, _), (7, _), (8, _), (9, _), (32, _), (33, _), (44, _), (45, _)]) (M' := [_, _, _]) rfl rfl ?_
    by_cases hi : i < r
    · refine J_seq ?_
      refine J_reg ?_
      refine st (sT (by omega) (s_lt rfl rfl)) rfl ?_
      refine Run.nil ?_
      refine pj_then ?_
      refine J_seq ?_
      refine J_cond1 rfl ?_
      refine J_skip ?_
      refine pj_then ?_
      refine J_seq ?_
      refine J_block ?_
      refine J_seq ?_
      refine J_reg ?_
      refine st (s_move rfl) rfl ?_
      refine st (s_indexIN rfl rfl (by omega)) rfl ?_
      refine st (s_load rfl) rfl ?_
      refine st (s_assign rfl) rfl ?_
      refine st (s_assign rfl) rfl ?_
      refine Run.nil ?_
      refine pj_then ?_
      refine J_reg ?_
      refine st (s_move rfl) rfl ?_
      refine st (s_move rfl) rfl ?_
      refine st (s_move rfl) rfl ?_
      refine st (s_move rfl) rfl ?_
      refine st (s_indexIN rfl rfl (by omega)) rfl ?_
      refine st (s_load rfl) rfl ?_
      refine st (s_indexON rfl rfl (by omega)) rfl ?_
      (refine a_storeE 0 rfl rfl rfl ?_ rfl ?_; omega)
      refine Run.nil ?_
      refine pn_block ?_
      refine pj_then ?_
      refine J_reg ?_
      refine st (s_addN _ 1 rfl rfl (by omega)) rfl ?_
      refine st (s_move rfl) rfl ?_
      refine Run.nil ?_
      refine pj_roundM (i + 1) (hi) (by omega) (by repeat (first | exact SubG.refl _ | exact SubG.nil | refine SubG.cons rfl (VT.le_refl _) ?_ | (refine SubG.cons rfl (one_le ?_) ?_; (congr 1; first | omega | (simp; omega) | simp)))) (.keep (fill_row (h := fun q => F q j) rfl) (.keep (Own.le_refl _) (.keep (Own.le_refl _) (.nil))))
    · have hir : i = r := by omega
      subst hir
      refine J_seq ?_
      refine J_reg ?_
      refine st (sF (by omega) (s_lt rfl rfl)) rfl ?_
      refine Run.nil ?_
      refine pj_then ?_
      refine J_seq ?_
      refine J_cond0 rfl ?_
      refine J_exit ?_
      refine px_then ?_
      refine px_then ?_
      refine px_block ?_
      refine pj_then ?_
      refine J_seq ?_
      refine J_regd 7 mixed (by kernel_rfl) (by decide) ?_
      refine st (s_move rfl) rfl ?_
      refine st (s_fieldAddr rfl) rfl ?_
      refine st (s_loadB 2 rfl rfl rfl) rfl ?_
      refine st (s_move rfl) rfl ?_
      refine st (s_move rfl) rfl ?_
      refine st (s_indexIN rfl rfl (by omega)) rfl ?_
      refine st (s_load rfl) rfl ?_
      refine Run.nil ?_
      refine st (s_indexON rfl rfl (by omega)) rfl ?_
      (refine a_storeE 0 rfl rfl rfl ?_ rfl ?_; omega)
      refine Run.nil ?_
      refine pj_then ?_
      refine J_seq ?_
      refine J_regd 7 mixed (by kernel_rfl) (by decide) ?_
      refine st (s_move rfl) rfl ?_
      refine st (s_fieldAddr rfl) rfl ?_
      refine st (s_loadB 2 rfl rfl rfl) rfl ?_
      refine st (s_addN _ 1 rfl rfl (by omega)) rfl ?_
      refine st (s_move rfl) rfl ?_
      refine st (s_addN _ _ rfl rfl (by omega)) rfl ?_
      refine st (s_callk (h1 ) rfl ⟨VT.le_refl _, trivial⟩) rfl ?_
      refine Run.nil ?_
      refine st (s_indexON rfl rfl (by omega)) rfl ?_
      (refine a_storeE 0 rfl rfl rfl ?_ rfl ?_; omega)
      refine Run.nil ?_
      refine pj_then ?_
      refine J_reg ?_
      refine st (s_move rfl) rfl ?_
      refine st (s_move rfl) rfl ?_
      refine st (s_move rfl) rfl ?_
      refine st (s_indexON rfl rfl (by omega)) rfl ?_
      (refine a_storeE 1 rfl rfl rfl ?_ rfl ?_; omega)
      refine Run.nil ?_
      refine pn_block ?_
      refine pj_then ?_
      refine J_reg ?_
      refine st (s_addN _ 1 rfl rfl (by omega)) rfl ?_
      refine st (s_move rfl) rfl ?_
      refine Run.nil ?_
      refine PJ_open [_] (List.Perm.refl _) (.keep (eqS_open List.mem_cons_self) (EntM.refl _)) (EntG.refl _) ?_
      refine pj_roundM (j + 1) (hj) (by omega) (by repeat (first | exact SubG.refl _ | exact SubG.nil | refine SubG.cons rfl (VT.le_refl _) ?_ | (refine SubG.cons rfl (one_le ?_) ?_; (congr 1; first | omega | (simp; omega) | simp)))) (.keep (Own.le_refl _) (.keep (Own.le_refl _) (.nil)))
  · have hjc : j = c := by omega
    subst hjc
    have hS := lz_eqS (r := r) he.1 hF hb
    have hru := runR_ok j (r + 1 + j) r (eqS r F b) true n (by omega) (by omega) (by omega) he.1 he.b hS
    obtain ⟨A, V, hE⟩ := Lin.elN_EL j (r + 1 + j) true (eqS r F b) r (by omega)
    have hok := elN_ok (r := j) true he.1 hS r
    have hpr := hE.gj.pr
    have hpc := hE.gj.pc
    generalize elN j true (eqS r F b) r = e at *
    unfold elimT at hru
    refine J_open [_] (List.Perm.refl _) (EntM.refl _) (EntG.set (t := 7) (ψ := slT .one j (fun q => if q < j then rowF (r + 1 + j) (eqS r F b q) else one (.slice none 0 0))) rfl (Ent.sl List.mem_cons_self)) ?_
    refine J_seq ?_
    refine J_reg ?_
    refine st (sF (by omega) (s_lt rfl rfl)) rfl ?_
    refine Run.nil ?_
    refine pj_then ?_
    refine J_seq ?_
    refine J_cond0 rfl ?_
    refine J_exit ?_
    refine px_then ?_
    refine px_then ?_
    refine px_block ?_
    refine pj_then ?_
    refine J_seq ?_
    refine J_reg ?_
    refine st (s_move rfl) rfl ?_
    refine st (s_fieldAddr rfl) rfl ?_
    refine st (s_loadB 0 rfl rfl rfl) rfl ?_
    refine st (s_callk (hru ) rfl ⟨((slT_le fun q hq => le_eq (by rw [if_pos hq]))), VT.le_refl _, VT.le_refl _, trivial⟩) rfl ?_
    refine st (s_assign rfl) rfl ?_
    refine Run.nil ?_
    refine pj_then ?_
    refine J_seq ?_
    refine J_seq ?_
    refine J_regd 13 mixed (by kernel_rfl) (by decide) ?_
    refine st (s_move rfl) rfl ?_
    refine st (s_nilCheckI rfl) rfl ?_
    refine st (s_fieldI rfl rfl) rfl ?_
    refine st (s_fieldI rfl rfl) rfl ?_
    refine st (s_load rfl) rfl ?_
    refine st (s_move rfl) rfl ?_
    refine st (s_nilCheckI rfl) rfl ?_
    refine st (s_fieldI rfl rfl) rfl ?_
    refine st (s_load rfl) rfl ?_
    refine st (s_len rfl) rfl ?_
    refine st (s_slice rfl rfl rfl rfl (fun h => nomatch h) (by omega) (by omega) (by omega) (by omega)) rfl ?_
    refine st (s_len rfl) rfl ?_
    refine st (s_move rfl) rfl ?_
    refine Run.nil ?_
    refine Run.nil ?_
    refine pj_then ?_
    refine J_block ?_
    refine J_retype (t := 95) (ψ := one (.int .i64 ((j - e.piv.length : Nat) : Int))) rfl (one_le (by congr 1; omega)) ?_
    refine J_retype (t := 94) (ψ := slT .one (j - e.piv.length) (fun t => slT (.agg 2) (r + 1 + j) (fun k => bigT (e.R (e.piv.length + t) k)))) rfl (slT_le' (by omega) (fun q hq => by rw [Int.toNat_natCast]; rfl)) ?_
    refine J_sub (Γ' := [(2, _), (4, _), (5, _), (6, _), (12, _), (94, _), (95, _), (96, _)]) (SubG.cons rfl (VT.le_refl _) (SubG.cons rfl (VT.le_refl _) (SubG.cons rfl (VT.le_refl _) (SubG.cons rfl (VT.le_refl _) (SubG.cons rfl (VT.le_refl _) (SubG.cons rfl (VT.le_refl _) (SubG.cons rfl (VT.le_refl _) (SubG.cons rfl (VT.le_refl _) (SubG.nil))))))))) (SubM.refl _) ?_
    refine J_loopA (σ := Nat) (Γk := [(2, _), (12, _), (94, _), (95, _)]) (SubG.cons rfl (VT.le_refl _) (SubG.cons rfl (VT.le_refl _) (SubG.cons rfl (VT.le_refl _) (SubG.cons rfl (VT.le_refl _) (SubG.nil))))) (fun t => [(96, one (.int .i64 (t : Nat)))]) (fun t M0 => M0) (fun t => t ≤ j - e.piv.length ∧ ∀ q, e.piv.length ≤ q → q < e.piv.length + t → e.R q r = 0) (fun t => j - e.piv.length - t) (0) (⟨Nat.zero_le _, fun q h1 h2 => absurd h2 (by omega)⟩) (by repeat (first | exact SubG.refl _ | exact SubG.nil | refine SubG.cons rfl (VT.le_refl _) ?_ | (refine SubG.cons rfl (one_le ?_) ?_; (congr 1; first | omega | (simp; omega) | simp)))) (.keep (Own.le_refl _) (.nil)) (fun t ht => ?_)
    refine J_norm (Γ' := [(96, _), (2, _), (12, _), (94, _), (95, _)]) (M' := [_]) rfl rfl ?_
    obtain ⟨ht, hz⟩ := ht
    by_cases htj : t < j - e.piv.length
    · have hsg := sgnI_zero (e.R (e.piv.length + t) r)
      by_cases h0 : e.R (e.piv.length + t) r = 0
      · have hs0 := hsg.2 h0
        refine J_seq ?_
        refine J_reg ?_
        refine st (sT (by omega) (s_lt rfl rfl)) rfl ?_
        refine Run.nil ?_
        refine pj_then ?_
        refine J_seq ?_
        refine J_cond1 rfl ?_
        refine J_skip ?_
        refine pj_then ?_
        refine J_seq ?_
        refine J_block ?_
        refine J_seq ?_
        refine J_reg ?_
        refine st (s_indexIN rfl rfl (by omega)) rfl ?_
        refine st (s_load rfl) rfl ?_
        refine st (s_assign rfl) rfl ?_
        refine Run.nil ?_
        refine pj_then ?_
        refine J_seq ?_
        refine J_reg ?_
        refine st (s_move rfl) rfl ?_
        refine st (s_fieldAddr rfl) rfl ?_
        refine st (s_loadB 0 rfl rfl rfl) rfl ?_
        refine st (s_indexIN rfl rfl (by omega)) rfl ?_
        refine st (s_load rfl) rfl ?_
        refine st (s_callk (SignI_ok _) rfl ⟨VT.le_refl _, trivial⟩) rfl ?_
        refine st (sF (by omega) (s_ne rfl rfl)) rfl ?_
        refine Run.nil ?_
        refine pj_then ?_
        refine J_cond0 rfl ?_
        refine J_skip ?_
        refine pn_block ?_
        refine pj_then ?_
        refine J_reg ?_
        refine st (s_addN _ 1 rfl rfl (by omega)) rfl ?_
        refine st (s_move rfl) rfl ?_
        refine Run.nil ?_
        refine pj_roundM (t + 1) (⟨htj, fun q h1 h2 => by by_cases h3 : q = e.piv.length + t; exact h3 ▸ h0; exact hz q h1 (by omega)⟩) (by omega) (by repeat (first | exact SubG.refl _ | exact SubG.nil | refine SubG.cons rfl (VT.le_refl _) ?_ | (refine SubG.cons rfl (one_le ?_) ?_; (congr 1; first | omega | (simp; omega) | simp)))) (.keep (Own.le_refl _) (.nil))
      · have hs0 : sgnI (e.R (e.piv.length + t) r) ≠ 0 := fun h => h0 (hsg.1 h)
        have hov := over_ok j (fun k => e.R (e.piv.length + t) (r + 1 + k)) (e.R (e.piv.length + t) r) (by omega) h0 ((he.lz hok (hok.R _ _)).small (by decide)) (fun i _ => (he.lz hok (hok.R _ _)).small (by decide))
        unfold rowF at hov
        rw [firstP_some (by omega) (by omega) hz h0]
        dsimp only
        refine J_seq ?_
        refine J_reg ?_
        refine st (sT (by omega) (s_lt rfl rfl)) rfl ?_
        refine Run.nil ?_
        refine pj_then ?_
        refine J_seq ?_
        refine J_cond1 rfl ?_
        refine J_skip ?_
        refine pj_then ?_
        refine J_seq ?_
        refine J_block ?_
        refine J_seq ?_
        refine J_reg ?_
        refine st (s_indexIN rfl rfl (by omega)) rfl ?_
        refine st (s_load rfl) rfl ?_
        refine st (s_assign rfl) rfl ?_
        refine Run.nil ?_
        refine pj_then ?_
        refine J_seq ?_
        refine J_reg ?_
        refine st (s_move rfl) rfl ?_
        refine st (s_fieldAddr rfl) rfl ?_
        refine st (s_loadB 0 rfl rfl rfl) rfl ?_
        refine st (s_indexIN rfl rfl (by omega)) rfl ?_
        refine st (s_load rfl) rfl ?_
        refine st (s_callk (SignI_ok _) rfl ⟨VT.le_refl _, trivial⟩) rfl ?_
        refine st (sT (by assumption) (s_ne rfl rfl)) rfl ?_
        refine Run.nil ?_
        refine pj_then ?_
        refine J_cond1 rfl ?_
        refine J_seq ?_
        refine J_regd 12 mixed (by kernel_rfl) (by decide) ?_
        refine st (s_move rfl) rfl ?_
        refine st (s_fieldAddr rfl) rfl ?_
        refine st (s_loadB 0 rfl rfl rfl) rfl ?_
        refine st (s_addN _ 1 rfl rfl (by omega)) rfl ?_
        refine st (s_slice rfl rfl rfl rfl (fun h => nomatch h) (by omega) (by omega) (by omega) (by omega)) rfl ?_
        refine st (s_move rfl) rfl ?_
        refine st (s_fieldAddr rfl) rfl ?_
        refine st (s_loadB 0 rfl rfl rfl) rfl ?_
        refine st (s_indexIN rfl rfl (by omega)) rfl ?_
        refine st (s_load rfl) rfl ?_
        refine st (s_callk (hov ) rfl ⟨((slT_le' (by omega) (fun q hq => by rw [Int.toNat_natCast]))), VT.le_refl _, trivial⟩) rfl ?_
        refine st (s_assign rfl) rfl ?_
        refine Run.nil ?_
        refine st (s_assign rfl) rfl ?_
        refine st (s_assign rfl) rfl ?_
        refine Run.nil ?_
        refine pj_then ?_
        refine J_ret ?_
        refine pr_block ?_
        refine pr_then ?_
        refine pr_then ?_
        refine pr_block ?_
        refine pr_then ?_
        refine retc3 Try.results24 (.tmp rfl (nil_slT)) (.tmp rfl (VT.le_refl _)) (.tmp rfl (VT.le_refl _))
    · rw [firstP_none (fun q h1 h2 => hz q h1 (by omega))]
      dsimp only
      have hz1 := overM_ok r (fun _ => 0) 1 (by omega) (by decide) small_one (fun _ _ => small_zero)
      unfold rowF at hz1
      refine J_seq ?_
      refine J_reg ?_
      refine st (sF (by omega) (s_lt rfl rfl)) rfl ?_
      refine Run.nil ?_
      refine pj_then ?_
      refine J_seq ?_
      refine J_cond0 rfl ?_
      refine J_exit ?_
      refine px_then ?_
      refine px_then ?_
      refine px_block ?_
      refine pj_then ?_
      refine J_seq ?_
      refine J_regdT 4 mixed (by kernel_rfl) (by decide) ?_
      refine st (s_fieldAddr rfl) rfl ?_
      refine st (s_loadB 0 rfl rfl rfl) rfl ?_
      refine st (s_makeZ r rfl rfl rfl rfl rfl rfl (by omega)) rfl ?_
      skip
      refine st (s_callk h1 rfl ⟨VT.le_refl _, trivial⟩) rfl ?_
      refine Run.nil ?_
      refine a_callM hz1 rfl (And.intro (slT_le fun q hq => zeroB_le) (And.intro (VT.le_refl _) trivial)) rfl rfl (fun bx => ?_)
      refine st (s_assign rfl) rfl ?_
      refine Run.nil ?_
      refine pj_then ?_
      refine J_seq ?_
      refine J_seq ?_
      refine J_reg ?_
      refine st (s_move rfl) rfl ?_
      refine st (s_nilCheckI rfl) rfl ?_
      refine st (s_fieldI rfl rfl) rfl ?_
      refine st (s_load rfl) rfl ?_
      refine st (s_len rfl) rfl ?_
      refine st (s_move rfl) rfl ?_
      refine Run.nil ?_
      refine pj_then ?_
      refine J_block ?_
      refine J_sub (Γ' := [(2, _), (12, _), (15, _), (127, _), (128, _), (129, _)]) (SubG.cons rfl (VT.le_refl _) (SubG.cons rfl (VT.le_refl _) (SubG.cons rfl (VT.le_refl _) (SubG.cons rfl (VT.le_refl _) (SubG.cons rfl (VT.le_refl _) (SubG.cons rfl (VT.le_refl _) (SubG.nil))))))) (SubM.refl _) ?_
      refine J_loopA (σ := Nat) (Γk := [(2, _), (12, _), (15, _), (127, _), (128, _)]) (SubG.cons rfl (VT.le_refl _) (SubG.cons rfl (VT.le_refl _) (SubG.cons rfl (VT.le_refl _) (SubG.cons rfl (VT.le_refl _) (SubG.cons rfl (VT.le_refl _) (SubG.nil)))))) (fun k => [(129, one (.int .i64 (k : Nat)))]) (fun k M0 => (M0.set 0 (sliO (some bx) 63 (.agg 4) r r (fun i => ratT (xsN e r k i))))) (fun k => k ≤ e.piv.length) (fun k => e.piv.length - k) (0) (Nat.zero_le _) (by repeat (first | exact SubG.refl _ | exact SubG.nil | refine SubG.cons rfl (VT.le_refl _) ?_ | (refine SubG.cons rfl (one_le ?_) ?_; (congr 1; first | omega | (simp; omega) | simp)))) (.keep (Own.le_refl _) (.keep (Own.le_refl _) (.nil))) (fun k hk => ?_)
      refine J_norm (Γ' := [(129, _), (2, _), (12, _), (15, _), (127, _), (128, _)]) (M' := [_, _]) rfl rfl ?_
      by_cases hk : k < e.piv.length
      · have hkr : e.piv.getD k 0 < r := hpc k hk
        have hne := el_pivne hE.gj rfl (by omega) hk
        have hq := qOf_ok (e.R k r) (e.R k (e.piv.getD k 0)) hne ((he.lz hok (hok.R _ _)).small (by decide)) ((he.lz hok (hok.R _ _)).small (by decide))
        unfold rowF pivF
        refine J_seq ?_
        refine J_reg ?_
        refine st (sT (by omega) (s_lt rfl rfl)) rfl ?_
        refine Run.nil ?_
        refine pj_then ?_
        refine J_seq ?_
        refine J_cond1 rfl ?_
        refine J_skip ?_
        refine pj_then ?_
        refine J_seq ?_
        refine J_block ?_
        refine J_seq ?_
        refine J_reg ?_
        refine st (s_move rfl) rfl ?_
        refine st (s_indexIN rfl rfl (by omega)) rfl ?_
        refine st (s_load rfl) rfl ?_
        refine st (s_assign rfl) rfl ?_
        refine st (s_assign rfl) rfl ?_
        refine Run.nil ?_
        refine pj_then ?_
        apply J_regG (Γ1 := [(2, _), (12, _), (15, _), (127, _), (128, _), (129, _)]) (M1 := [_, _]) 29 3 [] [28] mixed (by kernel_rfl) (by decide)
        · refine st (s_move rfl) rfl ?_
          refine st (s_move rfl) rfl ?_
          refine st (s_move rfl) rfl ?_
          refine st (s_nilCheckI rfl) rfl ?_
          refine st (s_fieldI rfl rfl) rfl ?_
          refine st (s_fieldI rfl rfl) rfl ?_
          refine st (s_load rfl) rfl ?_
          refine st (s_move rfl) rfl ?_
          refine st (s_indexIN rfl rfl (by omega)) rfl ?_
          refine st (s_load rfl) rfl ?_
          refine st (s_fieldAddr rfl) rfl ?_
          refine st (s_loadB 1 rfl rfl rfl) rfl ?_
          refine st (s_indexIN rfl rfl (by omega)) rfl ?_
          refine st (s_load rfl) rfl ?_
          refine st (s_move rfl) rfl ?_
          refine st (s_nilCheckI rfl) rfl ?_
          refine st (s_fieldI rfl rfl) rfl ?_
          refine st (s_fieldI rfl rfl) rfl ?_
          refine st (s_load rfl) rfl ?_
          refine st (s_move rfl) rfl ?_
          refine st (s_indexIN rfl rfl (by omega)) rfl ?_
          refine st (s_load rfl) rfl ?_
          refine st (s_move rfl) rfl ?_
          refine st (s_indexIN rfl rfl (by omega)) rfl ?_
          refine st (s_load rfl) rfl ?_
          refine st (s_callk (hq ) rfl ⟨VT.le_refl _, VT.le_refl _, trivial⟩) rfl ?_
          refine st (s_move rfl) rfl ?_
          refine st (s_extract rfl rfl) rfl ?_
          refine st (s_extract rfl rfl) rfl ?_
          refine Run.nil ?_
          refine entry0 (Γe := [(2, _), (12, _), (15, _), (127, _), (128, _), (129, _), (134, _), (135, _), (136, _), (161, _)]) (rem := [29, 30]) rfl (by repeat (first | exact SubG.nil | refine SubG.cons rfl (VT.le_refl _) ?_)) rfl ?_
          refine game_one (rem' := [30]) (i := 29) (by kernel_rfl) rfl rfl ?_ (DeadOk.cons rfl (StepG.plain (s_extract rfl rfl) rfl rfl (ltN rfl)) rfl DeadOk.nil)
          refine st (s_indexON rfl rfl (by omega)) rfl ?_
          refine Run.nil ?_
          refine ⟨rfl, ?_⟩
          refine game_one (rem' := []) (i := 30) (by kernel_rfl) rfl rfl ?_ (DeadOk.cons rfl (StepG.plain (s_extract rfl rfl) rfl rfl (ltN rfl)) rfl DeadOk.nil)
          (refine a_storeE 0 rfl rfl rfl ?_ rfl ?_; omega)
          refine Run.nil ?_
          refine ⟨rfl, ?_⟩
          refine game_end (by repeat (first | exact SubG.nil | refine SubG.cons rfl (VT.le_refl _) ?_)) (SubM.refl _) (DeadOk.cons rfl (StepG.plain (s_extract rfl rfl) rfl rfl (ltN rfl)) rfl DeadOk.nil)
        · refine pn_block ?_
          refine pj_then ?_
          refine J_reg ?_
          refine st (s_addN _ 1 rfl rfl (by omega)) rfl ?_
          refine st (s_move rfl) rfl ?_
          refine Run.nil ?_
          refine pj_roundM (k + 1) (hk) (by omega) (by repeat (first | exact SubG.refl _ | exact SubG.nil | refine SubG.cons rfl (VT.le_refl _) ?_ | (refine SubG.cons rfl (one_le ?_) ?_; (congr 1; first | omega | (simp; omega) | simp)))) (.keep (fill_xs) (.keep (Own.le_refl _) (.nil)))
      · have hkp : k = e.piv.length := by omega
        subst hkp
        refine J_seq ?_
        refine J_reg ?_
        refine st (sF (by omega) (s_lt rfl rfl)) rfl ?_
        refine Run.nil ?_
        refine pj_then ?_
        refine J_seq ?_
        refine J_cond0 rfl ?_
        refine J_exit ?_
        refine px_then ?_
        refine px_then ?_
        refine px_block ?_
        refine pj_then ?_
        refine J_seq ?_
        refine J_reg ?_
        refine st (s_move rfl) rfl ?_
        refine st (s_assign rfl) rfl ?_
        refine st (s_assign rfl) rfl ?_
        refine st (s_assign rfl) rfl ?_
        refine Run.nil ?_
        refine pj_then ?_
        refine J_ret ?_
        refine PJ_freeze (t := 4) (i := 0) rfl rfl ?_
        refine retc3 Try.results24 (.tmp rfl (VT.le_refl _)) (.tmp rfl (nil_slT)) (.tmp rfl (VT.le_refl _))
end Tor
end

section
set_option linter.unusedVariables false
set_option linter.unusedSimpArgs false
namespace Tor
open Go Go.RowKit Go.Proofs
def skl (i k : Nat) : List Int := (List.range (if i < k then k - 1 else k)).map fun a => ((Lin.skip i a : Nat) : Int)
theorem skl_len (i k : Nat) : (skl i k).length = if i < k then k - 1 else k := by unfold skl; simp
theorem skl_get {i k a : Nat} (h : a < (skl i k).length) : (skl i k).getD a 0 = ((Lin.skip i a : Nat) : Int) := by
  rw [skl_len] at h
  unfold skl; simp [List.getD, h]
theorem skl_skip (i : Nat) : skl i (i + 1) = skl i i := by unfold skl; rw [if_pos (by omega), if_neg (by omega)]; rfl
theorem skl_next {i k : Nat} (h : k ≠ i) : skl i (k + 1) = skl i k ++ [((k : Nat) : Int)] := by
  unfold skl
  by_cases c : i < k
  · rw [if_pos (by omega), if_pos c, show k + 1 - 1 = (k - 1) + 1 by omega, List.range_succ, List.map_append]
    congr 2
    show [((Lin.skip i (k - 1) : Nat) : Int)] = _
    unfold Lin.skip
    rw [if_neg (by omega)]
    congr 2; omega
  · rw [if_neg (by omega), if_neg c, List.range_succ, List.map_append]
    congr 2
    show [((Lin.skip i k : Nat) : Int)] = _
    unfold Lin.skip
    rw [if_pos (by omega)]
theorem skl_outs {i n : Nat} : outs n (skl i n) = false := by
  unfold outs skl
  rw [List.any_eq_false]
  intro x hx
  obtain ⟨a, ha, rfl⟩ := List.mem_map.1 hx
  rw [List.mem_range] at ha
  have : Lin.skip i a < n := by unfold Lin.skip; split at ha <;> split <;> omega
  simp; omega
abbrev numF (l : List Int) : Nat → VT := fun q => one (.int .i64 (l.getD q 0))
theorem num_snoc {sv : Option Nat} {T : TypeId} {cap : Nat} {l m : List Int} {x : Int} (h : m = l ++ [x]) : Own.le (sliO sv T .one cap (l.length + 1) (fun q => if q < l.length then numF l q else one (.int .i64 x))) (sliO sv T .one cap m.length (numF m)) := by
  subst h
  refine sliO_len (by simp) (fun q hq => ?_)
  show _ = one (Value.int .i64 ((l ++ [x]).getD q 0))
  by_cases h : q < l.length
  · rw [if_pos h]; show one (Value.int .i64 (l.getD q 0)) = _; simp [List.getD, List.getElem?_append_left h]
  · have : q = l.length := by omega
    subst this; rw [if_neg h]; simp [List.getD]
theorem num_same {sv : Option Nat} {T : TypeId} {cap : Nat} {l m : List Int} (h : m = l) : Own.le (sliO sv T .one cap l.length (numF l)) (sliO sv T .one cap m.length (numF m)) := h ▸ Own.le_refl _
def cof (n : Nat) (F : Nat → Nat → Int) (i j : Nat) : Int := Lin.sgnZ (i + j) * Lin.detZ (n - 1) (fun a b => F (Lin.skip i a) (Lin.skip j b))
attribute [local irreducible] Tor.J Tor.PJ Tor.StepO Tor.one Tor.slT Tor.ptrT Tor.aggT Tor.tupT Tor.exT Tor.andT Tor.gT Tor.eP Tor.boxO Tor.sliO Tor.slV Tor.VT.le Tor.Ret Tor.anyT Tor.mapO Tor.metT Tor.xO
attribute [local irreducible] bigT rowF
set_option maxHeartbeats 4000000 in
theorem cofactor_ok (r : Nat) (F : Nat → Nat → Int) (i j n : Nat) (hi : i < r) (hj : j < r) (hr : r ≤ 1024) (he : elim0 n r) (hF : ∀ i j, lz n (F i j)) : Ok Try.prog 46 [matF r r F, one (.int .i64 (i : Nat)), one (.int .i64 (j : Nat))] (bigT (cof r F i j)) := by
  have hl : (skl i r).length = r - 1 := by rw [skl_len, if_pos hi]
  have hm : (skl j r).length = r - 1 := by rw [skl_len, if_pos hj]
  have hpk := Pick_ok r r F (skl i r) (skl j r) (by omega) (by omega) (fun i j => (hF i j).small (Nat.le_trans (small_of_elim he) (by decide)))
  rw [skl_outs, skl_outs, hl, hm] at hpk
  refine Ok.enter Try.func46 rfl Try.ntmps46 rfl (fun w0 O => ?_)
  unfold matF
  refine J_seq ?_
  refine J_reg ?_
  refine a_boxS rfl rfl (ltN rfl) (fun b3 => ?_)
  refine a_alloc (T := 34) rfl (ltN rfl) (fun b6 => ?_)
  refine Run.nil ?_
  refine pj_then ?_
  refine J_seq ?_
  refine J_reg ?_
  refine st (s_assign rfl) rfl ?_
  refine st (s_assign rfl) rfl ?_
  refine Run.nil ?_
  refine pj_then ?_
  refine J_seq ?_
  refine J_seq ?_
  refine J_reg ?_
  refine st (s_fieldAddr rfl) rfl ?_
  refine st (s_loadB 1 rfl rfl rfl) rfl ?_
  refine st (s_move rfl) rfl ?_
  refine Run.nil ?_
  refine pj_then ?_
  refine J_block ?_
  refine J_retype (t := 7) (ψ := one (slV none 0 0)) rfl nil_slV ?_
  refine J_retype (t := 8) (ψ := one (slV none 0 0)) rfl nil_slV ?_
  refine J_addM (sliO_none0 3 .one (numF [])) ?_
  refine J_addM (sliO_none0 3 .one (numF [])) ?_
  refine J_sub (Γ' := [(1, _), (2, _), (3, _), (6, _), (7, _), (8, _), (15, _), (16, _)]) (SubG.cons rfl (VT.le_refl _) (SubG.cons rfl (VT.le_refl _) (SubG.cons rfl (VT.le_refl _) (SubG.cons rfl (VT.le_refl _) (SubG.cons rfl (VT.le_refl _) (SubG.cons rfl (VT.le_refl _) (SubG.cons rfl (VT.le_refl _) (SubG.cons rfl (VT.le_refl _) (SubG.nil))))))))) (SubM.refl _) ?_
  refine J_loopA (σ := Nat × Option Nat × Nat × Option Nat × Nat) (Γk := [(1, _), (2, _), (3, _), (6, _), (15, _)]) (SubG.cons rfl (VT.le_refl _) (SubG.cons rfl (VT.le_refl _) (SubG.cons rfl (VT.le_refl _) (SubG.cons rfl (VT.le_refl _) (SubG.cons rfl (VT.le_refl _) (SubG.nil)))))) (fun s => [(16, one (.int .i64 (s.1 : Nat))), (7, one (slV s.2.1 (skl i s.1).length s.2.2.1)), (8, one (slV s.2.2.2.1 (skl j s.1).length s.2.2.2.2))]) (fun s M0 => ((M0.set 0 (sliO s.2.1 3 .one s.2.2.1 (skl i s.1).length (numF (skl i s.1)))).set 1 (sliO s.2.2.2.1 3 .one s.2.2.2.2 (skl j s.1).length (numF (skl j s.1))))) (fun s => s.1 ≤ r) (fun s => r - s.1) ((0, none, 0, none, 0)) (Nat.zero_le _) (by repeat (first | exact SubG.refl _ | exact SubG.nil | refine SubG.cons rfl (VT.le_refl _) ?_ | (refine SubG.cons rfl (one_le ?_) ?_; (congr 1; first | omega | (simp; omega) | simp)))) (.keep (Own.le_refl _) (.keep (Own.le_refl _) (.keep (Own.le_refl _) (.keep (Own.le_refl _) (.nil))))) (fun s hs => ?_)
  refine J_norm (Γ' := [(16, _), (7, _), (8, _), (1, _), (2, _), (3, _), (6, _), (15, _)]) (M' := [_, _, _, _]) rfl rfl ?_
  obtain ⟨k, svr, capr, svc, capc⟩ := s
  dsimp only at hs ⊢
  have hki := skl_len i k
  have hkj := skl_len j k
  have hkl : (skl i k).length ≤ k := by rw [hki]; split <;> omega
  have hkl' : (skl j k).length ≤ k := by rw [hkj]; split <;> omega
  by_cases hk : k < r
  · by_cases h1 : k = i
    · have e1 : skl i (k + 1) = skl i k := by rw [h1]; exact skl_skip i
      have l1 := congrArg List.length e1
      by_cases h2 : k = j
      · have e2 : skl j (k + 1) = skl j k := by rw [h2]; exact skl_skip j
        have l2 := congrArg List.length e2
        refine J_seq ?_
        refine J_reg ?_
        refine st (sT (by omega) (s_lt rfl rfl)) rfl ?_
        refine Run.nil ?_
        refine pj_then ?_
        refine J_seq ?_
        refine J_cond1 rfl ?_
        refine J_skip ?_
        refine pj_then ?_
        refine J_seq ?_
        refine J_block ?_
        refine J_seq ?_
        refine J_reg ?_
        refine st (s_move rfl) rfl ?_
        refine st (s_assign rfl) rfl ?_
        refine Run.nil ?_
        refine pj_then ?_
        refine J_seq ?_
        refine J_seq ?_
        refine J_reg ?_
        refine st (s_move rfl) rfl ?_
        refine st (s_move rfl) rfl ?_
        refine st (sF (by omega) (s_ne rfl rfl)) rfl ?_
        refine Run.nil ?_
        refine pj_then ?_
        refine J_cond0 rfl ?_
        refine J_skip ?_
        refine pj_then ?_
        refine J_seq ?_
        refine J_reg ?_
        refine st (s_move rfl) rfl ?_
        refine st (s_move rfl) rfl ?_
        refine st (sF (by omega) (s_ne rfl rfl)) rfl ?_
        refine Run.nil ?_
        refine pj_then ?_
        refine J_cond0 rfl ?_
        refine J_skip ?_
        refine pn_block ?_
        refine pj_then ?_
        refine J_reg ?_
        refine st (s_addN _ 1 rfl rfl (by omega)) rfl ?_
        refine st (s_move rfl) rfl ?_
        refine Run.nil ?_
        refine pj_roundM ((k + 1, svr, capr, svc, capc)) (hk) (by omega) (by (repeat (first | exact SubG.nil | refine SubG.cons rfl (VT.le_refl _) ?_ | refine SubG.cons rfl (slV_len (by dsimp only; omega)) ?_))) (.keep (num_same e1) (.keep (num_same e2) (.keep (Own.le_refl _) (.keep (Own.le_refl _) (.nil)))))
      · have e2 := skl_next h2
        have l2 : (skl j (k + 1)).length = (skl j k).length + 1 := by rw [e2, List.length_append]; rfl
        refine J_seq ?_
        refine J_reg ?_
        refine st (sT (by omega) (s_lt rfl rfl)) rfl ?_
        refine Run.nil ?_
        refine pj_then ?_
        refine J_seq ?_
        refine J_cond1 rfl ?_
        refine J_skip ?_
        refine pj_then ?_
        refine J_seq ?_
        refine J_block ?_
        refine J_seq ?_
        refine J_reg ?_
        refine st (s_move rfl) rfl ?_
        refine st (s_assign rfl) rfl ?_
        refine Run.nil ?_
        refine pj_then ?_
        refine J_seq ?_
        refine J_seq ?_
        refine J_reg ?_
        refine st (s_move rfl) rfl ?_
        refine st (s_move rfl) rfl ?_
        refine st (sF (by omega) (s_ne rfl rfl)) rfl ?_
        refine Run.nil ?_
        refine pj_then ?_
        refine J_cond0 rfl ?_
        refine J_skip ?_
        refine pj_then ?_
        refine J_seq ?_
        refine J_reg ?_
        refine st (s_move rfl) rfl ?_
        refine st (s_move rfl) rfl ?_
        refine st (sT (by omega) (s_ne rfl rfl)) rfl ?_
        refine Run.nil ?_
        refine pj_then ?_
        refine J_cond1 rfl ?_
        refine J_reg ?_
        refine st (s_move rfl) rfl ?_
        refine st (s_move rfl) rfl ?_
        refine stS1 rfl rfl rfl rfl ?_
        (refine a_append 1 rfl rfl rfl (leN rfl) ?_ ?_ rfl (ltN rfl) (fun sv32 cap32 => ?_); omega; omega)
        refine st (s_assign rfl) rfl ?_
        refine Run.nil ?_
        refine pn_block ?_
        refine pj_then ?_
        refine J_reg ?_
        refine st (s_addN _ 1 rfl rfl (by omega)) rfl ?_
        refine st (s_move rfl) rfl ?_
        refine Run.nil ?_
        refine pj_roundM ((k + 1, svr, capr, sv32, cap32)) (hk) (by omega) (by (repeat (first | exact SubG.nil | refine SubG.cons rfl (VT.le_refl _) ?_ | refine SubG.cons rfl (slV_len (by dsimp only; omega)) ?_))) (.keep (num_same e1) (.keep (num_snoc e2) (.keep (Own.le_refl _) (.keep (Own.le_refl _) (.nil)))))
    · have e1 := skl_next h1
      have l1 : (skl i (k + 1)).length = (skl i k).length + 1 := by rw [e1, List.length_append]; rfl
      by_cases h2 : k = j
      · have e2 : skl j (k + 1) = skl j k := by rw [h2]; exact skl_skip j
        have l2 := congrArg List.length e2
        refine J_seq ?_
        refine J_reg ?_
        refine st (sT (by omega) (s_lt rfl rfl)) rfl ?_
        refine Run.nil ?_
        refine pj_then ?_
        refine J_seq ?_
        refine J_cond1 rfl ?_
        refine J_skip ?_
        refine pj_then ?_
        refine J_seq ?_
        refine J_block ?_
        refine J_seq ?_
        refine J_reg ?_
        refine st (s_move rfl) rfl ?_
        refine st (s_assign rfl) rfl ?_
        refine Run.nil ?_
        refine pj_then ?_
        refine J_seq ?_
        refine J_seq ?_
        refine J_reg ?_
        refine st (s_move rfl) rfl ?_
        refine st (s_move rfl) rfl ?_
        refine st (sT (by omega) (s_ne rfl rfl)) rfl ?_
        refine Run.nil ?_
        refine pj_then ?_
        refine J_cond1 rfl ?_
        refine J_reg ?_
        refine st (s_move rfl) rfl ?_
        refine st (s_move rfl) rfl ?_
        refine stS1 rfl rfl rfl rfl ?_
        (refine a_append 0 rfl rfl rfl (leN rfl) ?_ ?_ rfl (ltN rfl) (fun sv25 cap25 => ?_); omega; omega)
        refine st (s_assign rfl) rfl ?_
        refine Run.nil ?_
        refine pj_then ?_
        refine J_seq ?_
        refine J_reg ?_
        refine st (s_move rfl) rfl ?_
        refine st (s_move rfl) rfl ?_
        refine st (sF (by omega) (s_ne rfl rfl)) rfl ?_
        refine Run.nil ?_
        refine pj_then ?_
        refine J_cond0 rfl ?_
        refine J_skip ?_
        refine pn_block ?_
        refine pj_then ?_
        refine J_reg ?_
        refine st (s_addN _ 1 rfl rfl (by omega)) rfl ?_
        refine st (s_move rfl) rfl ?_
        refine Run.nil ?_
        refine pj_roundM ((k + 1, sv25, cap25, svc, capc)) (hk) (by omega) (by (repeat (first | exact SubG.nil | refine SubG.cons rfl (VT.le_refl _) ?_ | refine SubG.cons rfl (slV_len (by dsimp only; omega)) ?_))) (.keep (num_snoc e1) (.keep (num_same e2) (.keep (Own.le_refl _) (.keep (Own.le_refl _) (.nil)))))
      · have e2 := skl_next h2
        have l2 : (skl j (k + 1)).length = (skl j k).length + 1 := by rw [e2, List.length_append]; rfl
        refine J_seq ?_
        refine J_reg ?_
        refine st (sT (by omega) (s_lt rfl rfl)) rfl ?_
        refine Run.nil ?_
        refine pj_then ?_
        refine J_seq ?_
        refine J_cond1 rfl ?_
        refine J_skip ?_
        refine pj_then ?_
        refine J_seq ?_
        refine J_block ?_
        refine J_seq ?_
        refine J_reg ?_
        refine st (s_move rfl) rfl ?_
        refine st (s_assign rfl) rfl ?_
        refine Run.nil ?_
        refine pj_then ?_
        refine J_seq ?_
        refine J_seq ?_
        refine J_reg ?_
        refine st (s_move rfl) rfl ?_
        refine st (s_move rfl) rfl ?_
        refine st (sT (by omega) (s_ne rfl rfl)) rfl ?_
        refine Run.nil ?_
        refine pj_then ?_
        refine J_cond1 rfl ?_
        refine J_reg ?_
        refine st (s_move rfl) rfl ?_
        refine st (s_move rfl) rfl ?_
        refine stS1 rfl rfl rfl rfl ?_
        (refine a_append 0 rfl rfl rfl (leN rfl) ?_ ?_ rfl (ltN rfl) (fun sv25 cap25 => ?_); omega; omega)
        refine st (s_assign rfl) rfl ?_
        refine Run.nil ?_
        refine pj_then ?_
        refine J_seq ?_
        refine J_reg ?_
        refine st (s_move rfl) rfl ?_
        refine st (s_move rfl) rfl ?_
        refine st (sT (by omega) (s_ne rfl rfl)) rfl ?_
        refine Run.nil ?_
        refine pj_then ?_
        refine J_cond1 rfl ?_
        refine J_reg ?_
        refine st (s_move rfl) rfl ?_
        refine st (s_move rfl) rfl ?_
        refine stS1 rfl rfl rfl rfl ?_
        (refine a_append 1 rfl rfl rfl (leN rfl) ?_ ?_ rfl (ltN rfl) (fun sv32 cap32 => ?_); omega; omega)
        refine st (s_assign rfl) rfl ?_
        refine Run.nil ?_
        refine pn_block ?_
        refine pj_then ?_
        refine J_reg ?_
        refine st (s_addN _ 1 rfl rfl (by omega)) rfl ?_
        refine st (s_move rfl) rfl ?_
        refine Run.nil ?_
        refine pj_roundM ((k + 1, sv25, cap25, sv32, cap32)) (hk) (by omega) (by (repeat (first | exact SubG.nil | refine SubG.cons rfl (VT.le_refl _) ?_ | refine SubG.cons rfl (slV_len (by dsimp only; omega)) ?_))) (.keep (num_snoc e1) (.keep (num_snoc e2) (.keep (Own.le_refl _) (.keep (Own.le_refl _) (.nil)))))
  · have hkr : k = r := by omega
    subst hkr
    have hd := Det_ok (k - 1) (pickF (skl i k) (skl j k) F) n (by omega) (he.le (Nat.sub_le _ _)) (fun a b => hF _ _)
    have hds := det_lz (he.le (Nat.sub_le k 1)) (F := pickF (skl i k) (skl j k) F) (fun a b => hF _ _)
    have hdet : Lin.detZ (k - 1) (pickF (skl i k) (skl j k) F) = Lin.detZ (k - 1) (fun a b => F (Lin.skip i a) (Lin.skip j b)) := Lin.detZ_congr fun a b ha hb => by
      show F ((skl i k).getD a 0).toNat ((skl j k).getD b 0).toNat = _
      rw [skl_get (by omega), skl_get (by omega), Int.toNat_natCast, Int.toNat_natCast]
    unfold cof Lin.sgnZ
    rw [hdet] at hd hds
    have hneg := fun d (h : lz 1099511627700 d) => NegI_ok d (h.small (by decide))
    have hpk' : Ok Try.prog 73 [matF k k F, numT .i64 (skl i k), numT .i64 (skl j k)] (tupT [matF (k - 1) (k - 1) (pickF (skl i k) (skl j k) F), one (.int .i64 0)]) := by simpa [resMT] using hpk
    clear hpk
    unfold matF numT at *
    generalize Lin.detZ (k - 1) (fun a b => F (Lin.skip i a) (Lin.skip j b)) = d at *
    have hneg' := hneg d hds
    refine J_open [_] (List.Perm.refl _) (EntM.refl _) (EntG.set (t := 7) rfl (Ent.sl List.mem_cons_self)) ?_
    refine J_open [_] (List.Perm.refl _) (EntM.refl _) (EntG.set (t := 8) rfl (Ent.sl List.mem_cons_self)) ?_
    by_cases hp : (i + j) % 2 = 0
    · rw [if_pos hp, Int.one_mul]
      refine J_seq ?_
      refine J_reg ?_
      refine st (sF (by omega) (s_lt rfl rfl)) rfl ?_
      refine Run.nil ?_
      refine pj_then ?_
      refine J_seq ?_
      refine J_cond0 rfl ?_
      refine J_exit ?_
      refine px_then ?_
      refine px_then ?_
      refine px_block ?_
      refine pj_then ?_
      refine J_seq ?_
      refine J_reg ?_
      refine st (s_loadW 1 rfl rfl) rfl ?_
      refine st (s_move rfl) rfl ?_
      refine st (s_move rfl) rfl ?_
      refine st (s_callk (hpk' ) rfl ⟨VT.le_refl _, VT.le_refl _, VT.le_refl _, trivial⟩) rfl ?_
      refine st (s_move rfl) rfl ?_
      refine st (s_extract rfl rfl) rfl ?_
      refine st (s_extract rfl rfl) rfl ?_
      refine a_allocS (T := 29) rfl rfl rfl (fun b10 => ?_)
      refine a_storeW 0 rfl rfl rfl rfl ?_
      refine st (s_assign rfl) rfl ?_
      refine Run.nil ?_
      refine pj_then ?_
      refine J_seq ?_
      refine J_reg ?_
      refine st (s_loadW 0 rfl rfl) rfl ?_
      refine st (s_callk (hd ) rfl ⟨VT.le_refl _, trivial⟩) rfl ?_
      refine st (s_move rfl) rfl ?_
      refine st (s_extract rfl rfl) rfl ?_
      refine st (s_extract rfl rfl) rfl ?_
      refine a_alloc (T := 34) rfl (ltN rfl) (fun b12 => ?_)
      refine a_storeB 0 rfl rfl rfl rfl rfl (leN rfl) rfl ?_
      refine st (s_assign rfl) rfl ?_
      refine Run.nil ?_
      refine pj_then ?_
      refine J_seq ?_
      refine J_seq ?_
      refine J_reg ?_
      refine st (s_move rfl) rfl ?_
      refine st (s_move rfl) rfl ?_
      refine st (s_addN _ _ rfl rfl (by omega)) rfl ?_
      refine st (s_remN 2 rfl rfl rfl (by decide)) rfl ?_
      refine st (sF (by omega) (s_eq rfl rfl)) rfl ?_
      refine Run.nil ?_
      refine pj_then ?_
      refine J_cond0 rfl ?_
      refine J_skip ?_
      refine pj_then ?_
      refine J_seq ?_
      refine J_reg ?_
      refine st (s_loadB 0 rfl rfl rfl) rfl ?_
      refine a_storeB 2 rfl rfl rfl rfl rfl (leN rfl) rfl ?_
      refine Run.nil ?_
      refine pj_then ?_
      refine J_ret ?_
      refine retc1 Try.results46 (.cellB 2 rfl rfl rfl (VT.le_refl _))
    · rw [if_neg hp, show (-1 : Int) * d = -d by omega]
      refine J_seq ?_
      refine J_reg ?_
      refine st (sF (by omega) (s_lt rfl rfl)) rfl ?_
      refine Run.nil ?_
      refine pj_then ?_
      refine J_seq ?_
      refine J_cond0 rfl ?_
      refine J_exit ?_
      refine px_then ?_
      refine px_then ?_
      refine px_block ?_
      refine pj_then ?_
      refine J_seq ?_
      refine J_reg ?_
      refine st (s_loadW 1 rfl rfl) rfl ?_
      refine st (s_move rfl) rfl ?_
      refine st (s_move rfl) rfl ?_
      refine st (s_callk (hpk' ) rfl ⟨VT.le_refl _, VT.le_refl _, VT.le_refl _, trivial⟩) rfl ?_
      refine st (s_move rfl) rfl ?_
      refine st (s_extract rfl rfl) rfl ?_
      refine st (s_extract rfl rfl) rfl ?_
      refine a_allocS (T := 29) rfl rfl rfl (fun b10 => ?_)
      refine a_storeW 0 rfl rfl rfl rfl ?_
      refine st (s_assign rfl) rfl ?_
      refine Run.nil ?_
      refine pj_then ?_
      refine J_seq ?_
      refine J_reg ?_
      refine st (s_loadW 0 rfl rfl) rfl ?_
      refine st (s_callk (hd ) rfl ⟨VT.le_refl _, trivial⟩) rfl ?_
      refine st (s_move rfl) rfl ?_
      refine st (s_extract rfl rfl) rfl ?_
      refine st (s_extract rfl rfl) rfl ?_
      refine a_alloc (T := 34) rfl (ltN rfl) (fun b12 => ?_)
      refine a_storeB 0 rfl rfl rfl rfl rfl (leN rfl) rfl ?_
      refine st (s_assign rfl) rfl ?_
      refine Run.nil ?_
      refine pj_then ?_
      refine J_seq ?_
      refine J_seq ?_
      refine J_reg ?_
      refine st (s_move rfl) rfl ?_
      refine st (s_move rfl) rfl ?_
      refine st (s_addN _ _ rfl rfl (by omega)) rfl ?_
      refine st (s_remN 2 rfl rfl rfl (by decide)) rfl ?_
      refine st (sT (by omega) (s_eq rfl rfl)) rfl ?_
      refine Run.nil ?_
      refine pj_then ?_
      refine J_cond1 rfl ?_
      refine J_seq ?_
      refine J_reg ?_
      refine st (s_loadB 0 rfl rfl rfl) rfl ?_
      refine st (s_callk (hneg _ (by assumption)) rfl ⟨VT.le_refl _, trivial⟩) rfl ?_
      refine a_storeB 2 rfl rfl rfl rfl rfl (leN rfl) rfl ?_
      refine Run.nil ?_
      refine pj_then ?_
      refine J_ret ?_
      refine pr_then ?_
      refine retc1 Try.results46 (.cellB 2 rfl rfl rfl (VT.le_refl _))
end Tor
end

section
set_option linter.unusedVariables false
set_option linter.unusedSimpArgs false
namespace Tor
open Go Go.RowKit Go.Proofs
attribute [local irreducible] Tor.J Tor.PJ Tor.StepO Tor.one Tor.slT Tor.ptrT Tor.aggT Tor.tupT Tor.exT Tor.andT Tor.gT Tor.eP Tor.boxO Tor.sliO Tor.slV Tor.VT.le Tor.Ret Tor.anyT Tor.mapO Tor.metT Tor.xO
attribute [local irreducible] bigT ratT
set_option maxHeartbeats 4000000 in
theorem r8Ints_ok (n m : Nat) (f g : Nat → Int) (hn : n ≤ 1048576) : Ok Try.prog 33 [slT .one n (fun q => one (.int .i64 (f q))), slT .one m (fun q => one (.int .i64 (g q)))] (one (.bool (decide (n = m ∧ ∀ i, i < n → f i = g i)))) := by
  refine Ok.enter Try.func33 rfl Try.ntmps33 rfl (fun w O => ?_)
  by_cases h : n = m
  · subst h
    refine J_seq ?_
    refine J_reg ?_
    refine st (s_assign rfl) rfl ?_
    refine Run.nil ?_
    refine pj_then ?_
    refine J_seq ?_
    refine J_seq ?_
    refine J_reg ?_
    refine st (s_move rfl) rfl ?_
    refine st (s_len rfl) rfl ?_
    refine st (s_move rfl) rfl ?_
    refine st (s_len rfl) rfl ?_
    refine st (sF (by omega) (s_ne rfl rfl)) rfl ?_
    refine Run.nil ?_
    refine pj_then ?_
    refine J_cond0 rfl ?_
    refine J_skip ?_
    refine pj_then ?_
    refine J_seq ?_
    refine J_seq ?_
    refine J_reg ?_
    refine st (s_assign rfl) rfl ?_
    refine Run.nil ?_
    refine pj_then ?_
    refine J_block ?_
    refine J_sub (Γ' := [(0, _), (1, _), (4, _), (5, _)]) (SubG.cons rfl (VT.le_refl _) (SubG.cons rfl (VT.le_refl _) (SubG.cons rfl (VT.le_refl _) (SubG.cons rfl (VT.le_refl _) (SubG.nil))))) (SubM.refl _) ?_
    refine J_loopA (σ := Nat) (Γk := [(0, _), (1, _)]) (SubG.cons rfl (VT.le_refl _) (SubG.cons rfl (VT.le_refl _) (SubG.nil))) (fun i => [(5, one (.int .i64 (i : Nat)))]) (fun i M0 => M0) (fun i => i ≤ n ∧ ∀ q, q < i → f q = g q) (fun i => n - i) (0) (⟨Nat.zero_le _, fun q h => absurd h (Nat.not_lt_zero _)⟩) (by repeat (first | exact SubG.refl _ | exact SubG.nil | refine SubG.cons rfl (VT.le_refl _) ?_ | (refine SubG.cons rfl (one_le ?_) ?_; (congr 1; first | omega | (simp; omega) | simp)))) (.nil) (fun i hi => ?_)
    refine J_norm (Γ' := [(5, _), (0, _), (1, _)]) (M' := []) rfl rfl ?_
    obtain ⟨hi, hq⟩ := hi
    by_cases hin : i < n
    · by_cases he : f i = g i
      · refine J_seq ?_
        refine J_seq ?_
        refine J_reg ?_
        refine st (s_move rfl) rfl ?_
        refine st (s_move rfl) rfl ?_
        refine st (s_len rfl) rfl ?_
        refine st (sT (by omega) (s_lt rfl rfl)) rfl ?_
        refine Run.nil ?_
        refine pj_then ?_
        refine J_cond1 rfl ?_
        refine J_skip ?_
        refine pj_then ?_
        refine J_seq ?_
        refine J_block ?_
        refine J_seq ?_
        refine J_regd 9 mixed (by kernel_rfl) (by decide) ?_
        refine st (s_move rfl) rfl ?_
        refine st (s_move rfl) rfl ?_
        refine st (s_indexIN rfl rfl (by omega)) rfl ?_
        refine st (s_load rfl) rfl ?_
        refine st (s_move rfl) rfl ?_
        refine st (s_move rfl) rfl ?_
        refine st (s_indexIN rfl rfl (by omega)) rfl ?_
        refine st (s_load rfl) rfl ?_
        refine st (sF (by omega) (s_ne rfl rfl)) rfl ?_
        refine Run.nil ?_
        refine Run.nil ?_
        refine pj_then ?_
        refine J_cond0 rfl ?_
        refine J_skip ?_
        refine pn_block ?_
        refine pj_then ?_
        refine J_reg ?_
        refine st (s_move rfl) rfl ?_
        refine st (s_addN _ 1 rfl rfl (by omega)) rfl ?_
        refine st (s_assign rfl) rfl ?_
        refine Run.nil ?_
        refine pj_roundM (i + 1) (⟨hin, fun q h => by by_cases h3 : q = i; exact h3 ▸ he; exact hq q (by omega)⟩) (by omega) (by repeat (first | exact SubG.refl _ | exact SubG.nil | refine SubG.cons rfl (VT.le_refl _) ?_ | (refine SubG.cons rfl (one_le ?_) ?_; (congr 1; first | omega | (simp; omega) | simp)))) (.nil)
      · rw [decide_eq_false (fun h => he (h.2 i hin))]
        refine J_seq ?_
        refine J_seq ?_
        refine J_reg ?_
        refine st (s_move rfl) rfl ?_
        refine st (s_move rfl) rfl ?_
        refine st (s_len rfl) rfl ?_
        refine st (sT (by omega) (s_lt rfl rfl)) rfl ?_
        refine Run.nil ?_
        refine pj_then ?_
        refine J_cond1 rfl ?_
        refine J_skip ?_
        refine pj_then ?_
        refine J_seq ?_
        refine J_block ?_
        refine J_seq ?_
        refine J_regd 9 mixed (by kernel_rfl) (by decide) ?_
        refine st (s_move rfl) rfl ?_
        refine st (s_move rfl) rfl ?_
        refine st (s_indexIN rfl rfl (by omega)) rfl ?_
        refine st (s_load rfl) rfl ?_
        refine st (s_move rfl) rfl ?_
        refine st (s_move rfl) rfl ?_
        refine st (s_indexIN rfl rfl (by omega)) rfl ?_
        refine st (s_load rfl) rfl ?_
        refine st (sT (by assumption) (s_ne rfl rfl)) rfl ?_
        refine Run.nil ?_
        refine Run.nil ?_
        refine pj_then ?_
        refine J_cond1 rfl ?_
        refine J_seq ?_
        refine J_reg ?_
        refine st (s_assign rfl) rfl ?_
        refine Run.nil ?_
        refine pj_then ?_
        refine J_ret ?_
        refine pr_block ?_
        refine pr_then ?_
        refine pr_then ?_
        refine pr_block ?_
        refine pr_then ?_
        refine retc1 Try.results33 (.tmp rfl (VT.le_refl _))
    · rw [decide_eq_true ⟨rfl, fun q h => hq q (by omega)⟩]
      refine J_seq ?_
      refine J_seq ?_
      refine J_reg ?_
      refine st (s_move rfl) rfl ?_
      refine st (s_move rfl) rfl ?_
      refine st (s_len rfl) rfl ?_
      refine st (sF (by omega) (s_lt rfl rfl)) rfl ?_
      refine Run.nil ?_
      refine pj_then ?_
      refine J_cond0 rfl ?_
      refine J_exit ?_
      refine px_then ?_
      refine px_then ?_
      refine px_block ?_
      refine pj_then ?_
      refine J_seq ?_
      refine J_reg ?_
      refine st (s_assign rfl) rfl ?_
      refine Run.nil ?_
      refine pj_then ?_
      refine J_ret ?_
      refine retc1 Try.results33 (.tmp rfl (VT.le_refl _))
  · rw [decide_eq_false (fun k => h k.1)]
    refine J_seq ?_
    refine J_reg ?_
    refine st (s_assign rfl) rfl ?_
    refine Run.nil ?_
    refine pj_then ?_
    refine J_seq ?_
    refine J_seq ?_
    refine J_reg ?_
    refine st (s_move rfl) rfl ?_
    refine st (s_len rfl) rfl ?_
    refine st (s_move rfl) rfl ?_
    refine st (s_len rfl) rfl ?_
    refine st (sT (by omega) (s_ne rfl rfl)) rfl ?_
    refine Run.nil ?_
    refine pj_then ?_
    refine J_cond1 rfl ?_
    refine J_seq ?_
    refine J_reg ?_
    refine st (s_assign rfl) rfl ?_
    refine Run.nil ?_
    refine pj_then ?_
    refine J_ret ?_
    refine pr_then ?_
    refine retc1 Try.results33 (.tmp rfl (VT.le_refl _))
end Tor
end

section
set_option linter.unusedVariables false
set_option linter.unusedSimpArgs false
namespace Tor
open Go Go.RowKit Go.Proofs
attribute [local irreducible] Tor.J Tor.PJ Tor.StepO Tor.one Tor.slT Tor.ptrT Tor.aggT Tor.tupT Tor.exT Tor.andT Tor.gT Tor.eP Tor.boxO Tor.sliO Tor.slV Tor.VT.le Tor.Ret Tor.anyT Tor.mapO Tor.metT Tor.xO
attribute [local irreducible] bigT rowF Tor.rowsO
end Tor
end

section
set_option linter.unusedVariables false
set_option linter.unusedSimpArgs false
namespace Tor
open Go Go.RowKit Go.Proofs
def wideF (n : Nat) (F : Nat → Nat → Int) : Nat → Nat → Int := fun i k => if k < n then F i k else (if i = k - n then 1 else 0)
def adjE (n : Nat) (F : Nat → Nat → Int) (e : ElS) : Nat → Nat → Int := fun i j => if e.piv.length < n - 1 then 0 else if e.piv.length < n then cof n F j i else if e.odd then -(e.R i (n + j)) else e.R i (n + j)
theorem lz_wide {n r : Nat} {F : Nat → Nat → Int} (hn : 1 ≤ n) (hF : ∀ i j, lz n (F i j)) : ∀ i j, lz n (wideF r F i j) := fun i j => by
  unfold wideF; split
  · exact hF _ _
  · split
    · exact lz_one hn
    · exact lz_zero _
attribute [local irreducible] Tor.J Tor.PJ Tor.StepO Tor.one Tor.slT Tor.ptrT Tor.aggT Tor.tupT Tor.exT Tor.andT Tor.gT Tor.eP Tor.boxO Tor.sliO Tor.slV Tor.VT.le Tor.Ret Tor.anyT Tor.mapO Tor.metT Tor.xO
attribute [local irreducible] bigT rowF Tor.rowsO
set_option maxHeartbeats 4000000 in
theorem AdjugateS_ok (r c : Nat) (F : Nat → Nat → Int) (h : r ≠ c) : Ok Try.prog 18 [matF r c F] (tupT [matF 0 0 (fun _ _ => 0), one (.int .i64 50)]) := by
  have hs := square_ok r c F
  rw [decide_eq_false h] at hs
  refine Ok.enter Try.func18 rfl Try.ntmps18 rfl (fun w O => ?_)
  refine J_seq ?_
  refine J_reg ?_
  refine a_boxS rfl rfl (ltN rfl) (fun b1 => ?_)
  refine a_allocS (T := 29) rfl rfl rfl (fun b2 => ?_)
  refine st (s_assign rfl) rfl ?_
  refine Run.nil ?_
  refine pj_then ?_
  refine J_seq ?_
  refine J_seq ?_
  refine J_reg ?_
  refine st (s_loadW 1 rfl rfl) rfl ?_
  refine st (s_callk (hs ) rfl ⟨VT.le_refl _, trivial⟩) rfl ?_
  refine st (s_not rfl) rfl ?_
  refine Run.nil ?_
  refine pj_then ?_
  refine J_cond1 rfl ?_
  refine J_seq ?_
  refine J_reg ?_
  refine stB rfl rfl rfl ?_
  refine BuildK.nil ?_
  refine a_storeW 0 rfl rfl rfl rfl ?_
  refine st (s_assign rfl) rfl ?_
  refine Run.nil ?_
  refine pj_then ?_
  refine J_ret ?_
  refine pr_then ?_
  refine retc2 Try.results18 (.cellW 0 rfl rfl (zero_mat _)) (.tmp rfl (VT.le_refl _))
set_option maxHeartbeats 4000000 in
theorem Adjugate_ok (r : Nat) (F : Nat → Nat → Int) (n : Nat) (hr : r ≤ 1024) (he : elim0 n r) (hF : ∀ i j, lz n (F i j)) : Ok Try.prog 18 [matF r r F] (tupT [matF r r (adjE r F (elN r true (wideF r F) r)), one (.int .i64 0)]) := by
  have hs := square_ok r r F
  rw [decide_eq_true rfl] at hs
  have hid := Identity_ok r (by omega)
  have hsm : ∀ i j, small (F i j) := fun i j => (hF i j).small (Nat.le_trans (small_of_elim he) (by decide))
  have hbe := Beside_ok r r F r r (fun i j => if i = j then 1 else 0) (by omega) (by omega) (by omega) hsm (fun i j => by split; exact small_one; exact small_zero)
  rw [decide_eq_true rfl] at hbe
  have hbe' : Ok Try.prog 43 [matF r r F, matF r r (fun i j => if i = j then 1 else 0)] (tupT [matF r (r + r) (wideF r F), one (.int .i64 0)]) := by
    unfold resMT at hbe
    rw [if_pos rfl, if_pos rfl, if_pos rfl] at hbe
    exact hbe
  clear hbe
  have hW := lz_wide (r := r) he.1 hF
  have hru := runR_ok r (r + r) r (wideF r F) true n (by omega) (by omega) (by omega) he.1 he.b hW
  obtain ⟨A, V, hE⟩ := Lin.elN_EL r (r + r) true (wideF r F) r (by omega)
  have hok := elN_ok (r := r) true he.1 hW r
  have hpr := hE.gj.pr
  have hcof := fun i j hi hj => cofactor_ok r F i j n hi hj hr he hF
  have hneg := fun d (h : lz 1099511627700 d) => NegI_ok d (h.small (by decide))
  generalize elN r true (wideF r F) r = e at *
  unfold elimT at hru
  generalize hG : adjE r F e = G
  unfold matF at *
  refine Ok.enter Try.func18 rfl Try.ntmps18 rfl (fun w O => ?_)
  refine J_seq ?_
  refine J_reg ?_
  refine a_boxS rfl rfl (ltN rfl) (fun b1 => ?_)
  refine a_allocS (T := 29) rfl rfl rfl (fun b2 => ?_)
  refine st (s_assign rfl) rfl ?_
  refine Run.nil ?_
  refine pj_then ?_
  refine J_seq ?_
  refine J_seq ?_
  refine J_reg ?_
  refine st (s_loadW 1 rfl rfl) rfl ?_
  refine st (s_callk (hs ) rfl ⟨VT.le_refl _, trivial⟩) rfl ?_
  refine st (s_not rfl) rfl ?_
  refine Run.nil ?_
  refine pj_then ?_
  refine J_cond0 rfl ?_
  refine J_skip ?_
  refine pj_then ?_
  refine J_seq ?_
  refine J_reg ?_
  refine st (s_fieldAddr rfl) rfl ?_
  refine st (s_loadB 1 rfl rfl rfl) rfl ?_
  refine st (s_assign rfl) rfl ?_
  refine Run.nil ?_
  refine pj_then ?_
  refine J_seq ?_
  refine J_regU2 mixed (by kernel_rfl) (by kernel_rfl) ?_
  refine ux (fun B => s_loadW 1 rfl rfl) rfl rfl ?_
  refine ux (fun B => s_move rfl) rfl rfl ?_
  refine uxk (hid ) rfl ⟨VT.le_refl _, trivial⟩ rfl ?_
  refine uxk (hbe' ) rfl ⟨VT.le_refl _, VT.le_refl _, trivial⟩ rfl ?_
  refine ux (fun B => s_move rfl) rfl rfl ?_
  refine ux (fun B => s_extract rfl rfl) rfl rfl ?_
  refine ux (fun B => s_extract rfl rfl) rfl rfl ?_
  refine ua rfl ?_
  refine us rfl ?_
  refine ux (fun B => s_assign rfl) rfl rfl ?_
  refine RunU.nil (fun γ => ?_)
  refine PJ_normM (M' := [_, _, _]) rfl ?_
  refine PJ_sub (SubG.refl _) (.keep box_flat (SubM.refl _)) ?_
  refine pj_then ?_
  refine J_seq ?_
  refine J_reg ?_
  refine st (s_fieldAddr rfl) rfl ?_
  refine st (s_loadB 0 rfl rfl rfl) rfl ?_
  refine st (s_move rfl) rfl ?_
  refine st (s_callk (hru ) rfl ⟨VT.le_refl _, VT.le_refl _, VT.le_refl _, trivial⟩) rfl ?_
  refine st (s_assign rfl) rfl ?_
  refine Run.nil ?_
  refine pj_then ?_
  refine J_seq ?_
  refine J_reg ?_
  refine st (s_move rfl) rfl ?_
  refine st (s_move rfl) rfl ?_
  refine a_callM (New_ok _ _ (by omega) (by omega)) rfl ⟨VT.le_refl _, VT.le_refl _, trivial⟩ rfl rfl (fun s30 => ?_)
  refine a_allocS (T := 29) rfl rfl rfl (fun b8 => ?_)
  refine a_storeW 0 rfl rfl rfl rfl ?_
  refine Run.nil ?_
  refine pj_then ?_
  refine J_seq ?_
  refine J_seq ?_
  refine J_reg ?_
  refine st (s_move rfl) rfl ?_
  refine st (s_nilCheckI rfl) rfl ?_
  refine st (s_fieldI rfl rfl) rfl ?_
  refine st (s_load rfl) rfl ?_
  refine st (s_len rfl) rfl ?_
  refine st (s_move rfl) rfl ?_
  refine st (s_sub rfl rfl (wrap_i64 (by omega) (by omega))) rfl ?_
  refine st (s_lt rfl rfl) rfl ?_
  refine Run.nil ?_
  refine pj_then ?_
  obtain ⟨⟨bs, sv1, cap1⟩, hlen, hsv⟩ := s30
  simp only at hlen hsv
  unfold newT
  dsimp only
  by_cases hp1 : e.piv.length < r - 1
  · have hp1' : (e.piv.length : Int) < (r : Int) - 1 := by omega
    refine J_condT rfl (by assumption) ?_
    refine J_seq ?_
    refine J_reg ?_
    refine st (s_loadW 0 rfl rfl) rfl ?_
    refine a_storeW 4 rfl rfl rfl rfl ?_
    refine st (s_assign rfl) rfl ?_
    refine Run.nil ?_
    refine pj_then ?_
    refine J_ret ?_
    refine pr_then ?_
    refine PJ_open [outO sv1 cap1 r r bs, ownR r bs (fun _ _ => 0)] (perm6 _ _ _ _ _ _) (.keep (EntO.refl _) (.keep (EntO.refl _) (.keep (EntO.box (newT_open hlen ⟨by simp, by simp, by simp⟩)) (.keep (EntO.refl _) .nil)))) (EntG.refl _) ?_
    refine retc2 Try.results18 (.cellW 2 rfl rfl ((matF_le fun a b ha hb => by rw [← hG]; unfold adjE; rw [if_pos hp1]))) (.tmp rfl (VT.le_refl _))
  · have hp1' : ¬ (e.piv.length : Int) < (r : Int) - 1 := by omega
    refine J_condF rfl (by assumption) ?_
    refine J_skip ?_
    refine pj_then ?_
    refine J_seq ?_
    refine J_seq ?_
    refine J_reg ?_
    refine st (s_move rfl) rfl ?_
    refine st (s_move rfl) rfl ?_
    refine Run.nil ?_
    refine pj_then ?_
    refine J_block ?_
    refine J_sub (Γ' := [(1, _), (2, _), (3, _), (4, _), (7, _), (8, _), (40, _), (41, _)]) (SubG.cons rfl (VT.le_refl _) (SubG.cons rfl (VT.le_refl _) (SubG.cons rfl (VT.le_refl _) (SubG.cons rfl (VT.le_refl _) (SubG.cons rfl (VT.le_refl _) (SubG.cons rfl (VT.le_refl _) (SubG.cons rfl (VT.le_refl _) (SubG.cons rfl (VT.le_refl _) (SubG.nil))))))))) (SubM.refl _) ?_
    refine J_loopA (σ := Nat) (Γk := [(1, _), (2, _), (3, _), (4, _), (7, _), (8, _), (40, _)]) (SubG.cons rfl (VT.le_refl _) (SubG.cons rfl (VT.le_refl _) (SubG.cons rfl (VT.le_refl _) (SubG.cons rfl (VT.le_refl _) (SubG.cons rfl (VT.le_refl _) (SubG.cons rfl (VT.le_refl _) (SubG.cons rfl (VT.le_refl _) (SubG.nil)))))))) (fun i => [(41, one (.int .i64 (i : Nat)))]) (fun i M0 => (M0.set 2 (ownR r bs (fill2 G i 0)))) (fun i => i ≤ r) (fun i => r - i) (0) (Nat.zero_le _) (by repeat (first | exact SubG.refl _ | exact SubG.nil | refine SubG.cons rfl (VT.le_refl _) ?_ | (refine SubG.cons rfl (one_le ?_) ?_; (congr 1; first | omega | (simp; omega) | simp)))) (.keep (Own.le_refl _) (.keep (Own.le_refl _) (.keep (ownR_le fun i j hi hj => by simp [fill2]) (.keep (Own.le_refl _) (.keep (Own.le_refl _) (.keep (Own.le_refl _) (.nil))))))) (fun i hi => ?_)
    refine J_norm (Γ' := [(41, _), (1, _), (2, _), (3, _), (4, _), (7, _), (8, _), (40, _)]) (M' := [_, _, _, _, _, _]) rfl rfl ?_
    by_cases hi' : i < r
    · obtain ⟨bo, rfl⟩ := sv_some hsv (by omega)
      refine J_seq ?_
      refine J_reg ?_
      refine st (sT (by omega) (s_lt rfl rfl)) rfl ?_
      refine Run.nil ?_
      refine pj_then ?_
      refine J_seq ?_
      refine J_cond1 rfl ?_
      refine J_skip ?_
      refine pj_then ?_
      refine J_seq ?_
      refine J_block ?_
      refine J_seq ?_
      refine J_reg ?_
      refine st (s_move rfl) rfl ?_
      refine st (s_assign rfl) rfl ?_
      refine Run.nil ?_
      refine pj_then ?_
      refine J_seq ?_
      refine J_reg ?_
      refine st (s_move rfl) rfl ?_
      refine st (s_move rfl) rfl ?_
      refine Run.nil ?_
      refine pj_then ?_
      refine J_block ?_
      refine J_sub (Γ' := [(1, _), (2, _), (3, _), (4, _), (7, _), (8, _), (9, _), (40, _), (41, _), (44, _), (45, _)]) (SubG.cons rfl (VT.le_refl _) (SubG.cons rfl (VT.le_refl _) (SubG.cons rfl (VT.le_refl _) (SubG.cons rfl (VT.le_refl _) (SubG.cons rfl (VT.le_refl _) (SubG.cons rfl (VT.le_refl _) (SubG.cons rfl (VT.le_refl _) (SubG.cons rfl (VT.le_refl _) (SubG.cons rfl (VT.le_refl _) (SubG.cons rfl (VT.le_refl _) (SubG.cons rfl (VT.le_refl _) (SubG.nil)))))))))))) (SubM.refl _) ?_
      refine J_loopA (σ := Nat) (Γk := [(1, _), (2, _), (3, _), (4, _), (7, _), (8, _), (9, _), (40, _), (41, _), (44, _)]) (SubG.cons rfl (VT.le_refl _) (SubG.cons rfl (VT.le_refl _) (SubG.cons rfl (VT.le_refl _) (SubG.cons rfl (VT.le_refl _) (SubG.cons rfl (VT.le_refl _) (SubG.cons rfl (VT.le_refl _) (SubG.cons rfl (VT.le_refl _) (SubG.cons rfl (VT.le_refl _) (SubG.cons rfl (VT.le_refl _) (SubG.cons rfl (VT.le_refl _) (SubG.nil))))))))))) (fun j => [(45, one (.int .i64 (j : Nat)))]) (fun j M0 => (M0.set 2 (ownR r bs (fill2 G i j)))) (fun j => j ≤ r) (fun j => r - j) (0) (Nat.zero_le _) (by repeat (first | exact SubG.refl _ | exact SubG.nil | refine SubG.cons rfl (VT.le_refl _) ?_ | (refine SubG.cons rfl (one_le ?_) ?_; (congr 1; first | omega | (simp; omega) | simp)))) (.keep (Own.le_refl _) (.keep (Own.le_refl _) (.keep (Own.le_refl _) (.keep (Own.le_refl _) (.keep (Own.le_refl _) (.keep (Own.le_refl _) (.nil))))))) (fun j hj => ?_)
      refine J_norm (Γ' := [(45, _), (1, _), (2, _), (3, _), (4, _), (7, _), (8, _), (9, _), (40, _), (41, _), (44, _)]) (M' := [_, _, _, _, _, _]) rfl rfl ?_
      by_cases hj' : j < r
      · by_cases hp : e.piv.length < r
        · have hc := hcof j i hj' hi'
          have hv : cof r F j i = G i j := by rw [← hG]; unfold adjE; rw [if_neg hp1, if_pos hp]
          refine J_seq ?_
          refine J_reg ?_
          refine st (sT (by omega) (s_lt rfl rfl)) rfl ?_
          refine Run.nil ?_
          refine pj_then ?_
          refine J_seq ?_
          refine J_cond1 rfl ?_
          refine J_skip ?_
          refine pj_then ?_
          refine J_seq ?_
          refine J_block ?_
          refine J_seq ?_
          refine J_reg ?_
          refine st (s_move rfl) rfl ?_
          refine st (s_assign rfl) rfl ?_
          refine Run.nil ?_
          refine pj_then ?_
          refine J_block ?_
          refine J_seq ?_
          refine J_reg ?_
          refine st (s_move rfl) rfl ?_
          refine st (s_nilCheckI rfl) rfl ?_
          refine st (s_fieldI rfl rfl) rfl ?_
          refine st (s_load rfl) rfl ?_
          refine st (s_len rfl) rfl ?_
          refine st (s_move rfl) rfl ?_
          refine st (sT (by omega) (s_lt rfl rfl)) rfl ?_
          refine st (s_assign rfl) rfl ?_
          refine Run.nil ?_
          refine pj_then ?_
          refine J_cond1 rfl ?_
          refine J_regd 10 mixed (by kernel_rfl) (by decide) ?_
          refine st (s_fieldAddr rfl) rfl ?_
          refine st (s_loadB 0 rfl rfl rfl) rfl ?_
          refine st (s_move rfl) rfl ?_
          refine st (s_indexON rfl rfl (by omega)) rfl ?_
          refine st (s_loadE 1 rfl rfl (by omega)) rfl ?_
          refine st (s_move rfl) rfl ?_
          refine st (s_loadW 5 rfl rfl) rfl ?_
          refine st (s_move rfl) rfl ?_
          refine st (s_move rfl) rfl ?_
          refine st (s_callk (hcof _ _ (by assumption) (by assumption)) rfl ⟨VT.le_refl _, VT.le_refl _, VT.le_refl _, trivial⟩) rfl ?_
          refine Run.nil ?_
          refine st (s_indexON rfl rfl (by omega)) rfl ?_
          (refine a_storeR 2 rfl rfl rfl (getq ?_) ?_ rfl ?_; omega; omega)
          refine Run.nil ?_
          refine pn_block ?_
          refine pn_block ?_
          refine pj_then ?_
          refine J_reg ?_
          refine st (s_addN _ 1 rfl rfl (by omega)) rfl ?_
          refine st (s_move rfl) rfl ?_
          refine Run.nil ?_
          refine pj_roundM (j + 1) (by assumption) (by omega) (by repeat (first | exact SubG.refl _ | exact SubG.nil | refine SubG.cons rfl (VT.le_refl _) ?_ | (refine SubG.cons rfl (one_le ?_) ?_; (congr 1; first | omega | (simp; omega) | simp)))) (.keep (Own.le_refl _) (.keep (Own.le_refl _) (.keep (upd_fill2 _ hv) (.keep (Own.le_refl _) (.keep (Own.le_refl _) (.keep (Own.le_refl _) (.nil)))))))
        · have hp2 : ¬ (e.piv.length : Int) < (r : Int) := by omega
          have hs2 := he.lz hok (hok.R i (r + j))
          unfold rowF
          cases ho : e.odd with
          | true =>
            have hn := hneg _ hs2
            have hv : -(e.R i (r + j)) = G i j := by rw [← hG]; unfold adjE; rw [if_neg hp1, if_neg hp, if_pos ho]
            refine J_seq ?_
            refine J_reg ?_
            refine st (sT (by omega) (s_lt rfl rfl)) rfl ?_
            refine Run.nil ?_
            refine pj_then ?_
            refine J_seq ?_
            refine J_cond1 rfl ?_
            refine J_skip ?_
            refine pj_then ?_
            refine J_seq ?_
            refine J_block ?_
            refine J_seq ?_
            refine J_reg ?_
            refine st (s_move rfl) rfl ?_
            refine st (s_assign rfl) rfl ?_
            refine Run.nil ?_
            refine pj_then ?_
            refine J_block ?_
            refine J_seq ?_
            refine J_reg ?_
            refine st (s_move rfl) rfl ?_
            refine st (s_nilCheckI rfl) rfl ?_
            refine st (s_fieldI rfl rfl) rfl ?_
            refine st (s_load rfl) rfl ?_
            refine st (s_len rfl) rfl ?_
            refine st (s_move rfl) rfl ?_
            refine st (sF (by assumption) (s_lt rfl rfl)) rfl ?_
            refine st (s_assign rfl) rfl ?_
            refine Run.nil ?_
            refine pj_then ?_
            refine J_cond0 rfl ?_
            refine J_seq ?_
            refine J_reg ?_
            refine st (s_move rfl) rfl ?_
            refine st (s_nilCheckI rfl) rfl ?_
            refine st (s_fieldI rfl rfl) rfl ?_
            refine st (s_fieldI rfl rfl) rfl ?_
            refine st (s_load rfl) rfl ?_
            refine st (s_assign rfl) rfl ?_
            refine Run.nil ?_
            refine pj_then ?_
            refine J_cond1 rfl ?_
            refine J_regd 20 mixed (by kernel_rfl) (by decide) ?_
            refine st (s_fieldAddr rfl) rfl ?_
            refine st (s_loadB 0 rfl rfl rfl) rfl ?_
            refine st (s_move rfl) rfl ?_
            refine st (s_indexON rfl rfl (by omega)) rfl ?_
            refine st (s_loadE 1 rfl rfl (by omega)) rfl ?_
            refine st (s_move rfl) rfl ?_
            refine st (s_move rfl) rfl ?_
            refine st (s_nilCheckI rfl) rfl ?_
            refine st (s_fieldI rfl rfl) rfl ?_
            refine st (s_fieldI rfl rfl) rfl ?_
            refine st (s_load rfl) rfl ?_
            refine st (s_move rfl) rfl ?_
            refine st (s_indexIN rfl rfl (by omega)) rfl ?_
            refine st (s_load rfl) rfl ?_
            refine st (s_move rfl) rfl ?_
            refine st (s_move rfl) rfl ?_
            refine st (s_addN _ _ rfl rfl (by omega)) rfl ?_
            refine st (s_indexIN rfl rfl (by omega)) rfl ?_
            refine st (s_load rfl) rfl ?_
            refine st (s_callk (hneg _ (by assumption)) rfl ⟨VT.le_refl _, trivial⟩) rfl ?_
            refine Run.nil ?_
            refine st (s_indexON rfl rfl (by omega)) rfl ?_
            (refine a_storeR 2 rfl rfl rfl (getq ?_) ?_ rfl ?_; omega; omega)
            refine Run.nil ?_
            refine pn_block ?_
            refine pn_block ?_
            refine pj_then ?_
            refine J_reg ?_
            refine st (s_addN _ 1 rfl rfl (by omega)) rfl ?_
            refine st (s_move rfl) rfl ?_
            refine Run.nil ?_
            refine pj_roundM (j + 1) (by assumption) (by omega) (by repeat (first | exact SubG.refl _ | exact SubG.nil | refine SubG.cons rfl (VT.le_refl _) ?_ | (refine SubG.cons rfl (one_le ?_) ?_; (congr 1; first | omega | (simp; omega) | simp)))) (.keep (Own.le_refl _) (.keep (Own.le_refl _) (.keep (upd_fill2 _ hv) (.keep (Own.le_refl _) (.keep (Own.le_refl _) (.keep (Own.le_refl _) (.nil)))))))
          | false =>
            have hv : e.R i (r + j) = G i j := by rw [← hG]; unfold adjE; rw [if_neg hp1, if_neg hp, if_neg (by rw [ho]; decide)]
            refine J_seq ?_
            refine J_reg ?_
            refine st (sT (by omega) (s_lt rfl rfl)) rfl ?_
            refine Run.nil ?_
            refine pj_then ?_
            refine J_seq ?_
            refine J_cond1 rfl ?_
            refine J_skip ?_
            refine pj_then ?_
            refine J_seq ?_
            refine J_block ?_
            refine J_seq ?_
            refine J_reg ?_
            refine st (s_move rfl) rfl ?_
            refine st (s_assign rfl) rfl ?_
            refine Run.nil ?_
            refine pj_then ?_
            refine J_block ?_
            refine J_seq ?_
            refine J_reg ?_
            refine st (s_move rfl) rfl ?_
            refine st (s_nilCheckI rfl) rfl ?_
            refine st (s_fieldI rfl rfl) rfl ?_
            refine st (s_load rfl) rfl ?_
            refine st (s_len rfl) rfl ?_
            refine st (s_move rfl) rfl ?_
            refine st (sF (by assumption) (s_lt rfl rfl)) rfl ?_
            refine st (s_assign rfl) rfl ?_
            refine Run.nil ?_
            refine pj_then ?_
            refine J_cond0 rfl ?_
            refine J_seq ?_
            refine J_reg ?_
            refine st (s_move rfl) rfl ?_
            refine st (s_nilCheckI rfl) rfl ?_
            refine st (s_fieldI rfl rfl) rfl ?_
            refine st (s_fieldI rfl rfl) rfl ?_
            refine st (s_load rfl) rfl ?_
            refine st (s_assign rfl) rfl ?_
            refine Run.nil ?_
            refine pj_then ?_
            refine J_cond0 rfl ?_
            refine J_regd 19 mixed (by kernel_rfl) (by decide) ?_
            refine st (s_fieldAddr rfl) rfl ?_
            refine st (s_loadB 0 rfl rfl rfl) rfl ?_
            refine st (s_move rfl) rfl ?_
            refine st (s_indexON rfl rfl (by omega)) rfl ?_
            refine st (s_loadE 1 rfl rfl (by omega)) rfl ?_
            refine st (s_move rfl) rfl ?_
            refine st (s_move rfl) rfl ?_
            refine st (s_nilCheckI rfl) rfl ?_
            refine st (s_fieldI rfl rfl) rfl ?_
            refine st (s_fieldI rfl rfl) rfl ?_
            refine st (s_load rfl) rfl ?_
            refine st (s_move rfl) rfl ?_
            refine st (s_indexIN rfl rfl (by omega)) rfl ?_
            refine st (s_load rfl) rfl ?_
            refine st (s_move rfl) rfl ?_
            refine st (s_move rfl) rfl ?_
            refine st (s_addN _ _ rfl rfl (by omega)) rfl ?_
            refine st (s_indexIN rfl rfl (by omega)) rfl ?_
            refine st (s_load rfl) rfl ?_
            refine Run.nil ?_
            refine st (s_indexON rfl rfl (by omega)) rfl ?_
            (refine a_storeR 2 rfl rfl rfl (getq ?_) ?_ rfl ?_; omega; omega)
            refine Run.nil ?_
            refine pn_block ?_
            refine pn_block ?_
            refine pj_then ?_
            refine J_reg ?_
            refine st (s_addN _ 1 rfl rfl (by omega)) rfl ?_
            refine st (s_move rfl) rfl ?_
            refine Run.nil ?_
            refine pj_roundM (j + 1) (by assumption) (by omega) (by repeat (first | exact SubG.refl _ | exact SubG.nil | refine SubG.cons rfl (VT.le_refl _) ?_ | (refine SubG.cons rfl (one_le ?_) ?_; (congr 1; first | omega | (simp; omega) | simp)))) (.keep (Own.le_refl _) (.keep (Own.le_refl _) (.keep (upd_fill2 _ hv) (.keep (Own.le_refl _) (.keep (Own.le_refl _) (.keep (Own.le_refl _) (.nil)))))))
      · have hjr : j = r := by omega
        subst hjr
        refine J_seq ?_
        refine J_reg ?_
        refine st (sF (by omega) (s_lt rfl rfl)) rfl ?_
        refine Run.nil ?_
        refine pj_then ?_
        refine J_seq ?_
        refine J_cond0 rfl ?_
        refine J_exit ?_
        refine px_then ?_
        refine px_then ?_
        refine px_block ?_
        refine pn_block ?_
        refine pj_then ?_
        refine J_reg ?_
        refine st (s_addN _ 1 rfl rfl (by omega)) rfl ?_
        refine st (s_move rfl) rfl ?_
        refine Run.nil ?_
        refine pj_roundM (i + 1) (by assumption) (by omega) (by repeat (first | exact SubG.refl _ | exact SubG.nil | refine SubG.cons rfl (VT.le_refl _) ?_ | (refine SubG.cons rfl (one_le ?_) ?_; (congr 1; first | omega | (simp; omega) | simp)))) (.keep (Own.le_refl _) (.keep (Own.le_refl _) (.keep (next_fill2) (.keep (Own.le_refl _) (.keep (Own.le_refl _) (.keep (Own.le_refl _) (.nil)))))))
    · have hir : i = r := by omega
      subst hir
      refine J_seq ?_
      refine J_reg ?_
      refine st (sF (by omega) (s_lt rfl rfl)) rfl ?_
      refine Run.nil ?_
      refine pj_then ?_
      refine J_seq ?_
      refine J_cond0 rfl ?_
      refine J_exit ?_
      refine px_then ?_
      refine px_then ?_
      refine px_block ?_
      refine pj_then ?_
      refine J_seq ?_
      refine J_reg ?_
      refine st (s_loadW 0 rfl rfl) rfl ?_
      refine a_storeW 4 rfl rfl rfl rfl ?_
      refine st (s_assign rfl) rfl ?_
      refine Run.nil ?_
      refine pj_then ?_
      refine J_ret ?_
      refine PJ_open [outO sv1 cap1 i i bs, ownR i bs (fill2 G i 0)] (perm6 _ _ _ _ _ _) (.keep (EntO.refl _) (.keep (EntO.refl _) (.keep (EntO.box (newT_open hlen ⟨by simp, by simp, by simp⟩)) (.keep (EntO.refl _) .nil)))) (EntG.refl _) ?_
      refine retc2 Try.results18 (.cellW 2 rfl rfl ((matF_le fun a b ha hb => by simp [fill2, ha]))) (.tmp rfl (VT.le_refl _))
end Tor
end

section
set_option linter.unusedVariables false
set_option linter.unusedSimpArgs false
namespace Tor
open Go Go.RowKit Go.Proofs
def intsF (c : Nat) (l : List Int) : Nat → Nat → Int := fun i j => l.getD (i * c + j) 0
def IN (r c : Nat) (l : List Int) : VT := matF r c (intsF c l)
theorem vec_le (l : List Int) : VT.le (slT (.agg 2) l.length (fun q => (l.map bigT).getD q anyT)) (rowF l.length (fun j => l.getD j 0)) := by
  unfold rowF
  refine slT_le fun i hi => ?_
  simp only [List.getD, List.getElem?_map, List.getElem?_eq_getElem hi, Option.map_some, Option.getD_some]
  exact VT.le_refl _
instance (x : Int) : Decidable (mod4 x) := inferInstanceAs (Decidable (_ ≤ _))
theorem i64_ints {l : List Int} (h : (l.all fun x => decide (-9223372036854775808 ≤ x) && decide (x ≤ 9223372036854775807)) = true) : ∀ x ∈ l, -9223372036854775808 ≤ x ∧ x ≤ 9223372036854775807 := fun x hx => by
  have := List.all_eq_true.1 h x hx
  simpa using this
theorem rSameF_ok (r c r' c' : Nat) (F G : Nat → Nat → Int) (hr : r ≤ 1048576) : Ok Try.prog 22 [matF r c F, matF r' c' G] (one (.bool (decide ((r : Int) = r' ∧ (c : Int) = c' ∧ tab r c F = tab r' c' G)))) :=
  (rSameMat_ok r c r' c' (tab r c F) (tab r' c' G) (by simp; omega)).le ⟨matF_mat _ _ _, matF_mat _ _ _, trivial⟩ (VT.le_refl _)
theorem ints_ok (r c : Nat) (l : List Int) (hr : r ≤ 1048576) (hc : c ≤ 1048576) (h : (l.all fun x => decide (-9223372036854775808 ≤ x) && decide (x ≤ 9223372036854775807)) = true) : Ok Try.prog 28 [one (.int .i64 r), one (.int .i64 c), numT .i64 l] (IN r c l) := rInts_ok r c l hr hc (i64_ints h)
end Tor
end

section
set_option linter.unusedVariables false
set_option linter.unusedSimpArgs false
namespace Tor
open Go Go.RowKit Go.Proofs
theorem lzL {l : List Int} (h : (l.all fun x => decide (x.natAbs < 4294967296)) = true) (k : Nat) : lz 1 (l.getD k 0) := by
  refine digs_len_le (k := 1) ?_
  rw [Nat.pow_one]
  by_cases hk : k < l.length
  · have := List.all_eq_true.1 h (l.getD k 0) (by simp [List.getD, hk])
    exact of_decide_eq_true this
  · have : l.getD k 0 = 0 := by simp [List.getD, Nat.le_of_not_lt hk]
    rw [this]; decide
abbrev numV (l : List Int) : VT := slT .one l.length (fun q => one (.int .i64 (l.getD q 0)))
theorem numV_le (l : List Int) : VT.le (slT .one l.length (fun q => (l.map fun x => one (.int .i64 x)).getD q anyT)) (numV l) := by
  refine slT_le fun i hi => ?_
  simp only [List.getD, List.getElem?_map, List.getElem?_eq_getElem hi, Option.map_some, Option.getD_some]
  exact VT.le_refl _
theorem numV1_le (x : Int) : VT.le (slT .one 1 (fun _ => one (.int .i64 x))) (numV [x]) := slT_le' rfl fun q hq => by
  have hq : q < 1 := hq
  rw [show q = 0 by omega]; rfl
theorem pivT_num {l : List Nat} {m : List Int} (h : l.map (fun x : Nat => (x : Int)) = m) : VT.le (pivT l) (numV m) := by
  subst h
  refine slT_le' (by simp) (fun q hq => ?_)
  show one (Value.int .i64 ((l.getD q 0 : Nat) : Int)) = one (Value.int .i64 ((l.map fun x : Nat => (x : Int)).getD q 0))
  simp [List.getD, hq]
theorem newL_eq {r w c : Nat} (F : Nat → Nat → Int) (h : c ≤ w) : Lin.newL r w F c = (elN r false F c).piv := by
  obtain ⟨A, V, hE⟩ := Lin.elN_EL r w false F c h
  exact hE.pl.symm
theorem tup3_le {φ φ' ψ ψ' χ : VT} (h : VT.le φ φ') (k : VT.le ψ ψ') : VT.le (tupT [φ, ψ, χ]) (tupT [φ', ψ', χ]) := by
  rintro v g ⟨vs, h1, h2⟩
  refine ⟨vs, h1, ?_⟩
  match vs, h2 with
  | [a, b, c], ⟨p, q, r, _⟩ => exact ⟨h _ _ p, k _ _ q, r, trivial⟩
theorem ratS_le {n : Nat} {f g : Nat → Rat} (h : ∀ i, i < n → f i = g i) : VT.le (slT (.agg 4) n (fun i => ratT (f i))) (ratF n g) := ratF_le h
attribute [local irreducible] Tor.J Tor.PJ Tor.StepO Tor.one Tor.slT Tor.ptrT Tor.aggT Tor.tupT Tor.exT Tor.andT Tor.gT Tor.eP Tor.boxO Tor.sliO Tor.slV Tor.VT.le Tor.Ret Tor.anyT Tor.mapO Tor.metT Tor.xO
attribute [local irreducible] bigT ratT
set_option maxHeartbeats 4000000 in
theorem halves_ok (l : List Int) (hl : l.length ≤ 1024) (h : (l.all fun x => decide (-9223372036854775808 ≤ x) && decide (x ≤ 9223372036854775807)) = true) : Ok Try.prog 32 [numV l] (ratF l.length (fun i => Rat.divInt (l.getD i 0) 2)) := by
  unfold ratF
  refine Ok.enter Try.func32 rfl Try.ntmps32 rfl (fun w O => ?_)
  refine J_seq ?_
  refine J_reg ?_
  refine st (s_assign rfl) rfl ?_
  refine Run.nil ?_
  refine pj_then ?_
  refine J_seq ?_
  refine J_reg ?_
  refine stSO (n := 0) rfl rfl rfl rfl rfl ?_
  refine PartsK.nil (fun bl => ?_)
  refine st (s_assign rfl) rfl ?_
  refine Run.nil ?_
  refine pj_then ?_
  refine J_seq ?_
  refine J_seq ?_
  refine J_reg ?_
  refine st (s_assign rfl) rfl ?_
  refine Run.nil ?_
  refine pj_then ?_
  refine J_block ?_
  refine J_sub (Γ' := [(0, _), (2, _), (3, _), (4, _)]) (SubG.cons rfl (VT.le_refl _) (SubG.cons rfl (VT.le_refl _) (SubG.cons rfl (VT.le_refl _) (SubG.cons rfl (VT.le_refl _) (SubG.nil))))) (SubM.refl _) ?_
  refine J_loopA (σ := Nat × Option Nat × Nat) (Γk := [(0, _), (2, _)]) (SubG.cons rfl (VT.le_refl _) (SubG.cons rfl (VT.le_refl _) (SubG.nil))) (fun s => [(4, one (.int .i64 (s.1 : Nat))), (3, one (slV s.2.1 s.1 s.2.2))]) (fun s M0 => (M0.set 0 (sliO s.2.1 63 (.agg 4) s.2.2 s.1 (fun q => ratT (Rat.divInt (l.getD q 0) 2))))) (fun s => s.1 ≤ l.length) (fun s => l.length - s.1) ((0, some bl, 0)) (Nat.zero_le _) (by repeat (first | exact SubG.refl _ | exact SubG.nil | refine SubG.cons rfl (VT.le_refl _) ?_ | (refine SubG.cons rfl (one_le ?_) ?_; (congr 1; first | omega | (simp; omega) | simp)))) (.keep (sliO_eq (fun q hq => absurd hq (Nat.not_lt_zero _))) (.nil)) (fun s hs => ?_)
  refine J_norm (Γ' := [(4, _), (3, _), (0, _), (2, _)]) (M' := [_]) rfl rfl ?_
  obtain ⟨i, sv, cap⟩ := s
  dsimp only at hs ⊢
  by_cases hi : i < l.length
  · have hx := List.all_eq_true.1 h (l.getD i 0) (by simp [List.getD, hi])
    simp only [Bool.and_eq_true, decide_eq_true_eq] at hx
    have hm := rqMade_ok (l.getD i 0) 2 (by decide) hx.1 hx.2 (by decide) (by decide)
    refine J_seq ?_
    refine J_seq ?_
    refine J_reg ?_
    refine st (s_move rfl) rfl ?_
    refine st (s_move rfl) rfl ?_
    refine st (s_len rfl) rfl ?_
    refine st (sT (by omega) (s_lt rfl rfl)) rfl ?_
    refine Run.nil ?_
    refine pj_then ?_
    refine J_cond1 rfl ?_
    refine J_skip ?_
    refine pj_then ?_
    refine J_seq ?_
    refine J_block ?_
    refine J_reg ?_
    refine st (s_move rfl) rfl ?_
    refine st (s_move rfl) rfl ?_
    refine st (s_move rfl) rfl ?_
    refine st (s_indexIN rfl rfl (by omega)) rfl ?_
    refine st (s_load rfl) rfl ?_
    refine st (s_callk (hm ) rfl ⟨VT.le_refl _, VT.le_refl _, trivial⟩) rfl ?_
    refine stS1 rfl rfl rfl rfl ?_
    (refine a_append 0 rfl rfl rfl (leN rfl) ?_ ?_ rfl (ltN rfl) (fun sv19 cap19 => ?_); omega; omega)
    refine st (s_assign rfl) rfl ?_
    refine Run.nil ?_
    refine pn_block ?_
    refine pj_then ?_
    refine J_reg ?_
    refine st (s_move rfl) rfl ?_
    refine st (s_addN _ 1 rfl rfl (by omega)) rfl ?_
    refine st (s_assign rfl) rfl ?_
    refine Run.nil ?_
    refine pj_roundM ((i + 1, sv19, cap19)) (hi) (by omega) (by repeat (first | exact SubG.refl _ | exact SubG.nil | refine SubG.cons rfl (VT.le_refl _) ?_ | (refine SubG.cons rfl (one_le ?_) ?_; (congr 1; first | omega | (simp; omega) | simp)))) (.keep (rat_snoc (h := fun q => Rat.divInt (l.getD q 0) 2) rfl) (.nil))
  · have he : i = l.length := by omega
    rw [he]
    refine J_seq ?_
    refine J_seq ?_
    refine J_reg ?_
    refine st (s_move rfl) rfl ?_
    refine st (s_move rfl) rfl ?_
    refine st (s_len rfl) rfl ?_
    refine st (sF (by omega) (s_lt rfl rfl)) rfl ?_
    refine Run.nil ?_
    refine pj_then ?_
    refine J_cond0 rfl ?_
    refine J_exit ?_
    refine px_then ?_
    refine px_then ?_
    refine px_block ?_
    refine pj_then ?_
    refine J_seq ?_
    refine J_reg ?_
    refine st (s_move rfl) rfl ?_
    refine st (s_assign rfl) rfl ?_
    refine Run.nil ?_
    refine pj_then ?_
    refine J_ret ?_
    refine PJ_freeze (t := 2) (i := 0) rfl rfl ?_
    refine retc1 Try.results32 (.tmp rfl (VT.le_refl _))
theorem rNewF_ok (r c : Nat) (hr : r ≤ 1048576) (hc : c ≤ 1048576) : Ok Try.prog 29 [one (.int .i64 r), one (.int .i64 c)] (matF r c (fun _ _ => 0)) := (rNew_ok r c hr hc).ok fun s => newT_mat _ s
theorem rqListF_ok (n m : Nat) (l k : Nat → Rat) (hn : n ≤ 1048576) : Ok Try.prog 31 [ratF n l, ratF m k] (one (.bool (decide (n = m ∧ ∀ i, i < n → l i = k i)))) := rqList_ok n m l k hn
attribute [local irreducible] matF rowF ratF
set_option maxRecDepth 20000 in
set_option maxHeartbeats 20000000 in
theorem sanity_ok : Ok Try.prog 5 [] (one (.bool true)) := by
  have i1 : Ok Try.prog 28 [one (.int .i64 (2 : Nat)), one (.int .i64 (2 : Nat)), numT .i64 [1, 2, 3, 4]] (matF 2 2 (intsF 2 [1, 2, 3, 4])) := ints_ok 2 2 [1, 2, 3, 4] (by decide) (by decide) (by decide)
  have i2 : Ok Try.prog 28 [one (.int .i64 (1 : Nat)), one (.int .i64 (2 : Nat)), numT .i64 [1, 1]] (matF 1 2 (intsF 2 [1, 1])) := ints_ok 1 2 [1, 1] (by decide) (by decide) (by decide)
  have i3 : Ok Try.prog 28 [one (.int .i64 (4 : Nat)), one (.int .i64 (2 : Nat)), numT .i64 [0, 0, 0, 2, 0, 3, 1, 1]] (matF 4 2 (intsF 2 [0, 0, 0, 2, 0, 3, 1, 1])) := ints_ok 4 2 [0, 0, 0, 2, 0, 3, 1, 1] (by decide) (by decide) (by decide)
  have i4 : Ok Try.prog 28 [one (.int .i64 (2 : Nat)), one (.int .i64 (2 : Nat)), numT .i64 [2, 4, 1, 2]] (matF 2 2 (intsF 2 [2, 4, 1, 2])) := ints_ok 2 2 [2, 4, 1, 2] (by decide) (by decide) (by decide)
  have i5 : Ok Try.prog 28 [one (.int .i64 (1 : Nat)), one (.int .i64 (1 : Nat)), numT .i64 [5]] (matF 1 1 (intsF 1 [5])) := ints_ok 1 1 [5] (by decide) (by decide) (by decide)
  have i6 : Ok Try.prog 28 [one (.int .i64 (2 : Nat)), one (.int .i64 (2 : Nat)), numT .i64 [4, -2, -3, 1]] (matF 2 2 (intsF 2 [4, -2, -3, 1])) := ints_ok 2 2 [4, -2, -3, 1] (by decide) (by decide) (by decide)
  have i7 : Ok Try.prog 28 [one (.int .i64 (1 : Nat)), one (.int .i64 (1 : Nat)), numT .i64 [1]] (matF 1 1 (intsF 1 [1])) := ints_ok 1 1 [1] (by decide) (by decide) (by decide)
  have d1 := Det_ok 2 (intsF 2 [1, 2, 3, 4]) 1 (by decide) ⟨by decide, by decide⟩ (fun i j => lzL (by decide) _)
  rw [show Lin.detZ 2 (intsF 2 [1, 2, 3, 4]) = -2 by decide +kernel] at d1
  have d2 := Det_ok 0 (fun _ _ => 0) 1 (by decide) ⟨by decide, by decide⟩ (fun i j => lz_zero 1)
  rw [show Lin.detZ 0 (fun _ _ => 0) = 1 by decide +kernel] at d2
  have d3 := DetS_ok 1 2 (intsF 2 [1, 1]) (by decide)
  have r1 := Rank_ok 4 2 (intsF 2 [0, 0, 0, 2, 0, 3, 1, 1]) 1 (by decide) (by decide) ⟨by decide, by decide⟩ ⟨by decide, by decide⟩ (fun i j => lzL (by decide) _)
  have s1 := Solve_ok 2 2 (intsF 2 [2, 4, 1, 2]) (fun j => [1, 2].getD j 0) 1 (by decide) (by decide) ⟨by decide, by decide⟩ (fun i j => lzL (by decide) _) (fun j => lzL (by decide) _)
  have s2 := Solve_ok 1 2 (intsF 2 [1, 1]) (fun j => [1, 2].getD j 0) 1 (by decide) (by decide) ⟨by decide, by decide⟩ (fun i j => lzL (by decide) _) (fun j => lzL (by decide) _)
  rw [newL_eq _ (by decide), newL_eq _ (by decide), show (elN 2 false (fun i j => intsF 2 [0, 0, 0, 2, 0, 3, 1, 1] j i) 4).piv = [1, 3] by decide +kernel, show (elN 4 false (intsF 2 [0, 0, 0, 2, 0, 3, 1, 1]) 2).piv = [0, 1] by decide +kernel] at r1
  rw [show firstP (elN 2 true (eqS 2 (intsF 2 [2, 4, 1, 2]) (fun j => [1, 2].getD j 0)) 2).R 2 (elN 2 true (eqS 2 (intsF 2 [2, 4, 1, 2]) (fun j => [1, 2].getD j 0)) 2).piv.length 2 = none by decide +kernel] at s1
  have s1' := s1.le (leAll_refl _) (tup3_le (ratS_le (g := fun i => Rat.divInt ([1, 0].getD i 0) 2) (by decide +kernel)) (VT.le_refl _))
  rw [show firstP (elN 2 true (eqS 1 (intsF 2 [1, 1]) (fun j => [1, 2].getD j 0)) 1).R 1 (elN 2 true (eqS 1 (intsF 2 [1, 1]) (fun j => [1, 2].getD j 0)) 1).piv.length 2 = some 1 by decide +kernel] at s2
  have s2' := s2.le (leAll_refl _) (tup3_le (VT.le_refl _) (ratS_le (g := fun i => Rat.divInt ([-2, 2].getD i 0) 2) (by decide +kernel)))
  clear s1 s2
  have a1 := Adjugate_ok 2 (intsF 2 [1, 2, 3, 4]) 1 (by decide) ⟨by decide, by decide⟩ (fun i j => lzL (by decide) _)
  have a2 := Adjugate_ok 1 (intsF 1 [5]) 1 (by decide) ⟨by decide, by decide⟩ (fun i j => lzL (by decide) _)
  have a3 := AdjugateS_ok 1 2 (intsF 2 [1, 1]) (by decide)
  refine Ok.enter Try.func5 rfl Try.ntmps5 rfl (fun w O => ?_)
  have hh1 := halves_ok [1, 0] (by decide) (by decide)
  have hh2 := halves_ok [-2, 2] (by decide) (by decide)
  have hl1 := rqListF_ok 2 2 (fun i => Rat.divInt ([1, 0].getD i 0) 2) (fun i => Rat.divInt ([1, 0].getD i 0) 2) (by decide)
  have hl2 := rqListF_ok 2 2 (fun i => Rat.divInt ([-2, 2].getD i 0) 2) (fun i => Rat.divInt ([-2, 2].getD i 0) 2) (by decide)
  have hn1 := r8Ints_ok 2 2 (fun q => ([1, 3] : List Int).getD q 0) (fun q => ([1, 3] : List Int).getD q 0) (by decide)
  have hn2 := r8Ints_ok 2 2 (fun q => ([0, 1] : List Int).getD q 0) (fun q => ([0, 1] : List Int).getD q 0) (by decide)
  rw [decide_eq_true ⟨rfl, fun i _ => rfl⟩] at hl1 hl2 hn1 hn2
  refine J_seq ?_
  refine J_reg ?_
  refine st (s_assign rfl) rfl ?_
  refine Run.nil ?_
  refine pj_then ?_
  refine J_seq ?_
  refine J_reg ?_
  refine stS rfl rfl rfl rfl ?_
  refine PartsK.cons rfl ?_
  refine PartsK.cons rfl ?_
  refine PartsK.cons rfl ?_
  refine PartsK.cons rfl ?_
  refine PartsK.nil ?_
  refine st (s_callk (i1 ) rfl ⟨VT.le_refl _, VT.le_refl _, (numV_le [1, 2, 3, 4]), trivial⟩) rfl ?_
  refine stS rfl rfl rfl rfl ?_
  refine PartsK.cons rfl ?_
  refine PartsK.cons rfl ?_
  refine PartsK.nil ?_
  refine st (s_callk (i2 ) rfl ⟨VT.le_refl _, VT.le_refl _, (numV_le [1, 1]), trivial⟩) rfl ?_
  refine a_allocS (T := 29) rfl rfl rfl (fun b1 => ?_)
  refine a_allocS (T := 29) rfl rfl rfl (fun b2 => ?_)
  refine a_storeV 1 rfl rfl rfl rfl ?_
  refine a_storeV 0 rfl rfl rfl rfl ?_
  refine Run.nil ?_
  refine pj_then ?_
  refine J_seq ?_
  refine J_reg ?_
  refine st (s_loadB 1 rfl rfl rfl) rfl ?_
  refine st (s_callk (d1 ) rfl ⟨VT.le_refl _, trivial⟩) rfl ?_
  refine st (s_move rfl) rfl ?_
  refine st (s_extract rfl rfl) rfl ?_
  refine st (s_extract rfl rfl) rfl ?_
  refine a_alloc (T := 34) rfl (ltN rfl) (fun b3 => ?_)
  refine a_storeB 0 rfl rfl rfl rfl rfl (leN rfl) rfl ?_
  refine st (s_assign rfl) rfl ?_
  refine Run.nil ?_
  refine pj_then ?_
  refine J_seq ?_
  refine J_reg ?_
  refine st (s_callk (rNewF_ok _ _ (by decide) (by decide)) rfl ⟨VT.le_refl _, VT.le_refl _, trivial⟩) rfl ?_
  refine st (s_callk (d2 ) rfl ⟨VT.le_refl _, trivial⟩) rfl ?_
  refine st (s_move rfl) rfl ?_
  refine st (s_extract rfl rfl) rfl ?_
  refine st (s_extract rfl rfl) rfl ?_
  refine a_alloc (T := 34) rfl (ltN rfl) (fun b5 => ?_)
  refine a_storeB 0 rfl rfl rfl rfl rfl (leN rfl) rfl ?_
  refine st (s_assign rfl) rfl ?_
  refine Run.nil ?_
  refine pj_then ?_
  refine J_seq ?_
  refine J_reg ?_
  refine st (s_loadB 2 rfl rfl rfl) rfl ?_
  refine st (s_callk (d3 ) rfl ⟨VT.le_refl _, trivial⟩) rfl ?_
  refine st (s_move rfl) rfl ?_
  refine st (s_extract rfl rfl) rfl ?_
  refine st (s_extract rfl rfl) rfl ?_
  refine a_alloc (T := 34) rfl (ltN rfl) (fun b7 => ?_)
  refine a_storeB 0 rfl rfl rfl rfl rfl (leN rfl) rfl ?_
  refine st (s_assign rfl) rfl ?_
  refine Run.nil ?_
  refine pj_then ?_
  refine J_seq ?_
  refine J_reg ?_
  refine stS rfl rfl rfl rfl ?_
  refine PartsK.cons rfl ?_
  refine PartsK.cons rfl ?_
  refine PartsK.cons rfl ?_
  refine PartsK.cons rfl ?_
  refine PartsK.cons rfl ?_
  refine PartsK.cons rfl ?_
  refine PartsK.cons rfl ?_
  refine PartsK.cons rfl ?_
  refine PartsK.nil ?_
  refine st (s_callk (i3 ) rfl ⟨VT.le_refl _, VT.le_refl _, (numV_le [0, 0, 0, 2, 0, 3, 1, 1]), trivial⟩) rfl ?_
  refine st (s_callk (r1 ) rfl ⟨VT.le_refl _, trivial⟩) rfl ?_
  refine st (s_move rfl) rfl ?_
  refine st (s_extract rfl rfl) rfl ?_
  refine st (s_extract rfl rfl) rfl ?_
  refine st (s_assign rfl) rfl ?_
  refine st (s_assign rfl) rfl ?_
  refine Run.nil ?_
  refine pj_then ?_
  refine J_seq ?_
  refine J_reg ?_
  refine stS rfl rfl rfl rfl ?_
  refine PartsK.cons rfl ?_
  refine PartsK.cons rfl ?_
  refine PartsK.cons rfl ?_
  refine PartsK.cons rfl ?_
  refine PartsK.nil ?_
  refine st (s_callk (i4 ) rfl ⟨VT.le_refl _, VT.le_refl _, (numV_le [2, 4, 1, 2]), trivial⟩) rfl ?_
  refine st (s_callk (rOf_ok _ (by omega) (by omega)) rfl ⟨VT.le_refl _, trivial⟩) rfl ?_
  refine st (s_callk (rOf_ok _ (by omega) (by omega)) rfl ⟨VT.le_refl _, trivial⟩) rfl ?_
  refine stS rfl rfl rfl rfl ?_
  refine PartsK.cons rfl ?_
  refine PartsK.cons rfl ?_
  refine PartsK.nil ?_
  refine st (s_callk (s1' ) rfl ⟨VT.le_refl _, (vec_le [1, 2]), trivial⟩) rfl ?_
  refine st (s_move rfl) rfl ?_
  refine st (s_extract rfl rfl) rfl ?_
  refine st (s_extract rfl rfl) rfl ?_
  refine st (s_extract rfl rfl) rfl ?_
  refine st (s_assign rfl) rfl ?_
  refine st (s_assign rfl) rfl ?_
  refine st (s_assign rfl) rfl ?_
  refine Run.nil ?_
  refine pj_then ?_
  refine J_seq ?_
  refine J_regd 11 mixed (by kernel_rfl) (by decide) ?_
  refine st (s_loadB 3 rfl rfl rfl) rfl ?_
  refine st (s_callk (rOf_ok _ (by omega) (by omega)) rfl ⟨VT.le_refl _, trivial⟩) rfl ?_
  refine st (s_callk (rOf_ok _ (by omega) (by omega)) rfl ⟨VT.le_refl _, trivial⟩) rfl ?_
  refine stS rfl rfl rfl rfl ?_
  refine PartsK.cons rfl ?_
  refine PartsK.cons rfl ?_
  refine PartsK.nil ?_
  refine st (s_callk (s2' ) rfl ⟨VT.le_refl _, (vec_le [1, 2]), trivial⟩) rfl ?_
  refine st (s_move rfl) rfl ?_
  refine st (s_extract rfl rfl) rfl ?_
  refine st (s_extract rfl rfl) rfl ?_
  refine st (s_extract rfl rfl) rfl ?_
  refine st (s_assign rfl) rfl ?_
  refine st (s_assign rfl) rfl ?_
  refine Run.nil ?_
  refine st (s_assign rfl) rfl ?_
  refine Run.nil ?_
  refine pj_then ?_
  refine J_seq ?_
  refine J_reg ?_
  refine st (s_loadB 4 rfl rfl rfl) rfl ?_
  refine st (s_callk (a1 ) rfl ⟨VT.le_refl _, trivial⟩) rfl ?_
  refine st (s_move rfl) rfl ?_
  refine st (s_extract rfl rfl) rfl ?_
  refine st (s_extract rfl rfl) rfl ?_
  refine a_allocS (T := 29) rfl rfl rfl (fun b17 => ?_)
  refine a_storeV 0 rfl rfl rfl rfl ?_
  refine st (s_assign rfl) rfl ?_
  refine Run.nil ?_
  refine pj_then ?_
  refine J_seq ?_
  refine J_reg ?_
  refine stS1 rfl rfl rfl rfl ?_
  refine st (s_callk (i5 ) rfl ⟨VT.le_refl _, VT.le_refl _, (numV1_le 5), trivial⟩) rfl ?_
  refine st (s_callk (a2 ) rfl ⟨VT.le_refl _, trivial⟩) rfl ?_
  refine st (s_move rfl) rfl ?_
  refine st (s_extract rfl rfl) rfl ?_
  refine st (s_extract rfl rfl) rfl ?_
  refine a_allocS (T := 29) rfl rfl rfl (fun b19 => ?_)
  refine a_storeV 0 rfl rfl rfl rfl ?_
  refine st (s_assign rfl) rfl ?_
  refine Run.nil ?_
  refine pj_then ?_
  refine J_seq ?_
  refine J_reg ?_
  refine st (s_loadB 5 rfl rfl rfl) rfl ?_
  refine st (s_callk (a3 ) rfl ⟨VT.le_refl _, trivial⟩) rfl ?_
  refine st (s_move rfl) rfl ?_
  refine st (s_extract rfl rfl) rfl ?_
  refine st (s_extract rfl rfl) rfl ?_
  refine a_allocS (T := 29) rfl rfl rfl (fun b21 => ?_)
  refine a_storeV 0 rfl rfl rfl rfl ?_
  refine st (s_assign rfl) rfl ?_
  refine Run.nil ?_
  refine pj_then ?_
  refine J_seq ?_
  refine J_regd 20 mixed (by kernel_rfl) (by decide) ?_
  refine st (s_move rfl) rfl ?_
  refine st (sT (by omega) (s_eq rfl rfl)) rfl ?_
  refine st (s_move rfl) rfl ?_
  refine sg1 rfl rfl (s_loadB 5 rfl rfl rfl) rfl ?_
  refine sg1 rfl rfl (s_callk (rOf_ok _ (by omega) (by omega)) rfl ⟨VT.le_refl _, trivial⟩) rfl ?_
  refine sg1 rfl rfl (sT (by omega) (s_callk (rSame_ok _ _) rfl ⟨VT.le_refl _, VT.le_refl _, trivial⟩)) rfl ?_
  refine st (s_pickT rfl rfl) rfl ?_
  refine st (s_move rfl) rfl ?_
  refine sg1 rfl rfl (s_move rfl) rfl ?_
  refine sg1 rfl rfl (sT (by omega) (s_eq rfl rfl)) rfl ?_
  refine st (s_pickT rfl rfl) rfl ?_
  refine st (s_move rfl) rfl ?_
  refine sg1 rfl rfl (s_loadB 4 rfl rfl rfl) rfl ?_
  refine sg1 rfl rfl (s_callk (rOf_ok _ (by omega) (by omega)) rfl ⟨VT.le_refl _, trivial⟩) rfl ?_
  refine sg1 rfl rfl (sT (by omega) (s_callk (rSame_ok _ _) rfl ⟨VT.le_refl _, VT.le_refl _, trivial⟩)) rfl ?_
  refine st (s_pickT rfl rfl) rfl ?_
  refine st (s_move rfl) rfl ?_
  refine sg1 rfl rfl (s_move rfl) rfl ?_
  refine sg1 rfl rfl (sT (by omega) (s_eq rfl rfl)) rfl ?_
  refine st (s_pickT rfl rfl) rfl ?_
  refine Run.nil ?_
  refine st (s_assign rfl) rfl ?_
  refine Run.nil ?_
  refine pj_then ?_
  refine J_seq ?_
  refine J_reg ?_
  refine st (s_move rfl) rfl ?_
  refine st (s_move rfl) rfl ?_
  refine sg1 rfl rfl (s_move rfl) rfl ?_
  refine stSg rfl rfl rfl rfl rfl rfl ?_
  refine PartsK.cons rfl ?_
  refine PartsK.cons rfl ?_
  refine PartsK.nil ?_
  refine sg1 rfl rfl (s_callk (hh1 ) rfl ⟨(numV_le [1, 0]), trivial⟩) rfl ?_
  refine sg1 rfl rfl (s_callk (hl1 ) rfl ⟨VT.le_refl _, VT.le_refl _, trivial⟩) rfl ?_
  refine st (s_pickT rfl rfl) rfl ?_
  refine st (s_move rfl) rfl ?_
  refine sg1 rfl rfl (s_move rfl) rfl ?_
  refine sg1 rfl rfl (s_not rfl) rfl ?_
  refine st (s_pickT rfl rfl) rfl ?_
  refine st (s_move rfl) rfl ?_
  refine sg1 rfl rfl (s_move rfl) rfl ?_
  refine stSg rfl rfl rfl rfl rfl rfl ?_
  refine PartsK.cons rfl ?_
  refine PartsK.cons rfl ?_
  refine PartsK.nil ?_
  refine sg1 rfl rfl (s_callk (hh2 ) rfl ⟨(numV_le [-2, 2]), trivial⟩) rfl ?_
  refine sg1 rfl rfl (s_callk (hl2 ) rfl ⟨VT.le_refl _, VT.le_refl _, trivial⟩) rfl ?_
  refine st (s_pickT rfl rfl) rfl ?_
  refine st (s_assign rfl) rfl ?_
  refine Run.nil ?_
  refine pj_then ?_
  refine J_seq ?_
  refine J_regd 22 mixed (by kernel_rfl) (by decide) ?_
  refine st (s_move rfl) rfl ?_
  refine st (sT (by omega) (s_eq rfl rfl)) rfl ?_
  refine st (s_move rfl) rfl ?_
  refine sg1 rfl rfl (s_loadB 2 rfl rfl rfl) rfl ?_
  refine stSg rfl rfl rfl rfl rfl rfl ?_
  refine PartsK.cons rfl ?_
  refine PartsK.cons rfl ?_
  refine PartsK.cons rfl ?_
  refine PartsK.cons rfl ?_
  refine PartsK.nil ?_
  refine sg1 rfl rfl (s_callk (i6 ) rfl ⟨VT.le_refl _, VT.le_refl _, (numV_le [4, -2, -3, 1]), trivial⟩) rfl ?_
  refine sg1 rfl rfl (sT (⟨rfl, rfl, by decide +kernel⟩) (s_callk (rSameF_ok _ _ _ _ _ _ (by omega)) rfl ⟨VT.le_refl _, VT.le_refl _, trivial⟩)) rfl ?_
  refine st (s_pickT rfl rfl) rfl ?_
  refine st (s_move rfl) rfl ?_
  refine sg1 rfl rfl (s_move rfl) rfl ?_
  refine sg1 rfl rfl (sT (by omega) (s_eq rfl rfl)) rfl ?_
  refine st (s_pickT rfl rfl) rfl ?_
  refine st (s_move rfl) rfl ?_
  refine sg1 rfl rfl (s_loadB 1 rfl rfl rfl) rfl ?_
  refine stSg rfl rfl rfl rfl rfl rfl ?_
  refine PartsK.cons rfl ?_
  refine PartsK.nil ?_
  refine sg1 rfl rfl (s_callk (i7 ) rfl ⟨VT.le_refl _, VT.le_refl _, (numV_le [1]), trivial⟩) rfl ?_
  refine sg1 rfl rfl (sT (⟨rfl, rfl, by decide +kernel⟩) (s_callk (rSameF_ok _ _ _ _ _ _ (by omega)) rfl ⟨VT.le_refl _, VT.le_refl _, trivial⟩)) rfl ?_
  refine st (s_pickT rfl rfl) rfl ?_
  refine st (s_move rfl) rfl ?_
  refine sg1 rfl rfl (s_move rfl) rfl ?_
  refine sg1 rfl rfl (sT (by omega) (s_eq rfl rfl)) rfl ?_
  refine st (s_pickT rfl rfl) rfl ?_
  refine Run.nil ?_
  refine st (s_assign rfl) rfl ?_
  refine Run.nil ?_
  refine pj_then ?_
  refine J_seq ?_
  refine J_reg ?_
  refine st (s_move rfl) rfl ?_
  refine st (s_move rfl) rfl ?_
  refine sg1 rfl rfl (s_move rfl) rfl ?_
  refine stSg rfl rfl rfl rfl rfl rfl ?_
  refine PartsK.cons rfl ?_
  refine PartsK.cons rfl ?_
  refine PartsK.nil ?_
  refine sg1 rfl rfl (s_callk (hn1 ) rfl ⟨(pivT_num (m := [1, 3]) rfl), (numV_le [1, 3]), trivial⟩) rfl ?_
  refine st (s_pickT rfl rfl) rfl ?_
  refine st (s_move rfl) rfl ?_
  refine sg1 rfl rfl (s_move rfl) rfl ?_
  refine stSg rfl rfl rfl rfl rfl rfl ?_
  refine PartsK.cons rfl ?_
  refine PartsK.cons rfl ?_
  refine PartsK.nil ?_
  refine sg1 rfl rfl (s_callk (hn2 ) rfl ⟨(pivT_num (m := [0, 1]) rfl), (numV_le [0, 1]), trivial⟩) rfl ?_
  refine st (s_pickT rfl rfl) rfl ?_
  refine st (s_move rfl) rfl ?_
  refine sg1 rfl rfl (s_move rfl) rfl ?_
  refine st (s_pickT rfl rfl) rfl ?_
  refine st (s_move rfl) rfl ?_
  refine sg1 rfl rfl (s_move rfl) rfl ?_
  refine st (s_pickT rfl rfl) rfl ?_
  refine st (s_assign rfl) rfl ?_
  refine Run.nil ?_
  refine pj_then ?_
  refine J_ret ?_
  refine retc1 Try.results5 (.tmp rfl (VT.le_refl _))
end Tor
end

section
set_option linter.unusedVariables false
set_option linter.unusedSimpArgs false
namespace Tor
open Go Go.RowKit Go.Proofs
def rawInT (r c : Nat) (l : List Int) : VT := aggT 3 [(0, .one, one (.int .u8 r)), (1, .one, one (.int .u8 c)), (2, .one, numT .i8 l)]
theorem tmod5 (n : Nat) : (n : Int).tmod 5 = ((n % 5 : Nat) : Int) := by
  rw [Int.tmod_eq_emod_of_nonneg (by omega)]; omega
attribute [local irreducible] Tor.J Tor.PJ Tor.StepO Tor.one Tor.slT Tor.ptrT Tor.aggT Tor.tupT Tor.exT Tor.andT Tor.gT Tor.eP Tor.boxO Tor.sliO Tor.slV Tor.VT.le Tor.Ret Tor.anyT
attribute [local irreducible] bigT Tor.rowsO
end Tor
end

section
set_option linter.unusedVariables false
set_option linter.unusedSimpArgs false
namespace Tor
open Go Go.RowKit Go.Proofs
theorem dig_abs (l : List Int) (n : Nat) : (dig l n).natAbs ≤ 9 := by
  unfold dig; rw [Int.natAbs_tmod]
  show (l.getD n 0).natAbs % 10 ≤ 9
  omega
theorem mod4_dig (l : List Int) (n : Nat) : mod4 (dig l n) := Nat.le_trans (dig_abs l n) (by decide +kernel)
theorem sumF_abs {B : Nat} {f : Nat → Int} (h : ∀ k, (f k).natAbs ≤ B) : ∀ n, (sumF n f).natAbs ≤ n * B
  | 0 => Nat.zero_le _
  | n + 1 => by
    have h1 := sumF_abs h n
    have h2 := h n
    rw [sumF_step, Nat.succ_mul]
    omega
attribute [local irreducible] Tor.J Tor.PJ Tor.StepO Tor.one Tor.slT Tor.ptrT Tor.aggT Tor.tupT Tor.exT Tor.andT Tor.gT Tor.eP Tor.boxO Tor.sliO Tor.slV Tor.VT.le Tor.Ret Tor.anyT Tor.mapO Tor.metT Tor.xO
attribute [local irreducible] bigT rowF
set_option maxHeartbeats 4000000 in
theorem rSquare_ok (r c : Nat) (l : List Int) : Ok Try.prog 6 [rawInT r c l] (matF (r % 5) (r % 5) (fun i j => dig l (i * (r % 5) + j))) := by
  have h := rFilled_ok (r % 5) (r % 5) l (by omega) (by omega)
  have h5 := tmod5 r
  have hr : r % 5 < 5 := Nat.mod_lt _ (by decide)
  unfold rawInT matF at *
  refine Ok.enter Try.func6 rfl Try.ntmps6 rfl (fun w O => ?_)
  refine J_seq ?_
  refine J_reg ?_
  refine a_boxS rfl rfl (ltN rfl) (fun b1 => ?_)
  refine a_allocS (T := 29) rfl rfl rfl (fun b2 => ?_)
  refine Run.nil ?_
  refine pj_then ?_
  refine J_seq ?_
  refine J_reg ?_
  refine st (s_fieldAddr rfl) rfl ?_
  refine st (s_loadB 1 rfl rfl rfl) rfl ?_
  refine st (s_remN 5 rfl rfl rfl (by decide)) rfl ?_
  refine st (s_toI64 rfl (by omega) (by omega)) rfl ?_
  refine st (s_fieldAddr rfl) rfl ?_
  refine st (s_loadB 1 rfl rfl rfl) rfl ?_
  refine st (s_remN 5 rfl rfl rfl (by decide)) rfl ?_
  refine st (s_toI64 rfl (by omega) (by omega)) rfl ?_
  refine st (s_fieldAddr rfl) rfl ?_
  refine st (s_loadB 1 rfl rfl rfl) rfl ?_
  refine st (s_callk (h ) rfl ⟨VT.le_refl _, VT.le_refl _, VT.le_refl _, trivial⟩) rfl ?_
  refine a_storeW 0 rfl rfl rfl rfl ?_
  refine Run.nil ?_
  refine pj_then ?_
  refine J_ret ?_
  refine retc1 Try.results6 (.cellW 0 rfl rfl (VT.le_refl _))
end Tor
end

section
set_option linter.unusedVariables false
set_option linter.unusedSimpArgs false
namespace Tor
open Go Go.RowKit Go.Proofs
theorem sumF_cast (n : Nat) (f : Nat → Int) : ((sumF n f : Int) : Rat) = Lin.sm n (fun i => (f i : Rat)) := by
  induction n with
  | zero => rfl
  | succ n ih => rw [sumF_step, Lin.sm, Rat.intCast_add, ih]
theorem elim04 {c : Nat} (hc : c ≤ 4) : elim0 1 c := ⟨by decide, by
  have : 2 ^ c ≤ 2 ^ 4 := Nat.pow_le_pow_right (by decide) hc
  have h16 : 2 ^ 4 = 16 := rfl
  omega⟩
attribute [local irreducible] Tor.J Tor.PJ Tor.StepO Tor.one Tor.slT Tor.ptrT Tor.aggT Tor.tupT Tor.exT Tor.andT Tor.gT Tor.eP Tor.boxO Tor.sliO Tor.slV Tor.VT.le Tor.Ret Tor.anyT Tor.mapO Tor.metT Tor.xO
attribute [local irreducible] bigT ratT rowF ratF
end Tor
end

section
set_option linter.unusedVariables false
set_option linter.unusedSimpArgs false
namespace Tor
open Go Go.RowKit Go.Proofs
theorem detZ_mul (n : Nat) (F G : Nat → Nat → Int) : Lin.detZ n (mulF n F G) = Lin.detZ n F * Lin.detZ n G := by
  have h : ((Lin.detZ n (mulF n F G) : Int) : Rat) = ((Lin.detZ n F * Lin.detZ n G : Int) : Rat) := by
    rw [Rat.intCast_mul, Lin.detZ_cast, Lin.detZ_cast, Lin.detZ_cast, ← Lin.det_mul]
    exact Lin.det_congr fun i j _ _ => by
      show ((sumF n (fun k => F i k * G k j) : Int) : Rat) = Lin.sm n (fun k => (F i k : Rat) * (G k j : Rat))
      rw [sumF_cast]
      exact Lin.sm_congr fun k _ => Rat.intCast_mul _ _
  exact_mod_cast h
theorem detZ_tr (n : Nat) (F : Nat → Nat → Int) : Lin.detZ n (fun i j => F j i) = Lin.detZ n F := by
  have h : ((Lin.detZ n (fun i j => F j i) : Int) : Rat) = ((Lin.detZ n F : Int) : Rat) := by
    rw [Lin.detZ_cast, Lin.detZ_cast]
    exact Lin.det_tr n Lin.two_rat (fun i j => (F i j : Rat))
  exact_mod_cast h
theorem detZ_swp {n p q : Nat} (hne : p ≠ q) (hp : p < n) (hq : q < n) (F : Nat → Nat → Int) : Lin.detZ n (swp p q F) = - Lin.detZ n F := by
  have h : ((Lin.detZ n (swp p q F) : Int) : Rat) = ((- Lin.detZ n F : Int) : Rat) := by
    rw [Rat.intCast_neg, Lin.detZ_cast, Lin.detZ_cast, ← Lin.det_swap Lin.two_rat hne hp hq]
    exact Lin.det_congr fun i j _ _ => by
      unfold swp Lin.tw
      split
      · rfl
      · split <;> rfl
  exact_mod_cast h
theorem detZ_new {n : Nat} {F : Nat → Nat → Int} : (Lin.newL n n (fun i j => F j i) n).length < n ↔ Lin.detZ n F = 0 := by
  rw [← detZ_tr, ← Lin.detE_eq]
  obtain ⟨A, V, h⟩ := Lin.elN_EL n n false (fun i j => F j i) n (Nat.le_refl _)
  unfold Lin.detE
  rw [← h.pl]
  have h0 := h.gj.d0
  constructor
  · intro hl; rw [if_pos hl]
  · intro hd
    refine Classical.byContradiction fun hl => ?_
    rw [if_neg hl] at hd
    split at hd <;> omega
end Tor
end

section
set_option linter.unusedVariables false
set_option linter.unusedSimpArgs false
namespace Tor
open Go Go.RowKit Go.Proofs
instance {n : Nat} {f : Nat → Int} : Flat (rowF n f) .one := by unfold rowF; infer_instance
attribute [local irreducible] Tor.J Tor.PJ Tor.StepO Tor.one Tor.slT Tor.ptrT Tor.aggT Tor.tupT Tor.exT Tor.andT Tor.gT Tor.eP Tor.boxO Tor.sliO Tor.slV Tor.VT.le Tor.Ret Tor.anyT
attribute [local irreducible] bigT Tor.rowsO
set_option maxHeartbeats 4000000 in
theorem rScaleM_ok (r c : Nat) (F : Nat → Nat → Int) (k : Int) (hr0 : r ≤ 1048576) (hc0 : c ≤ 1048576) (hF : ∀ i j, small (F i j)) (hk : small k) : OkM Try.prog 20 [matF r c F, bigT k] (newT r c) (fun s => [outO s.1.2.1 s.1.2.2 r c s.1.1, ownR c s.1.1 (fun i j => F i j * k)]) := by
  unfold matF
  refine OkM.enter Try.func20 rfl Try.ntmps20 rfl (fun w O => ?_)
  refine J_seq ?_
  refine J_reg ?_
  refine a_boxS rfl rfl (ltN rfl) (fun b2 => ?_)
  refine a_box rfl rfl (ltN rfl) (fun b3 => ?_)
  refine a_allocS (T := 29) rfl rfl rfl (fun b4 => ?_)
  refine Run.nil ?_
  refine pj_then ?_
  refine J_seq ?_
  refine J_reg ?_
  refine st (s_fieldAddr rfl) rfl ?_
  refine st (s_loadB 2 rfl rfl rfl) rfl ?_
  refine st (s_fieldAddr rfl) rfl ?_
  refine st (s_loadB 2 rfl rfl rfl) rfl ?_
  refine a_callM (rNew_ok _ _ (by assumption) (by assumption)) rfl ⟨VT.le_refl _, VT.le_refl _, trivial⟩ rfl rfl (fun s12 => ?_)
  refine a_allocS (T := 29) rfl rfl rfl (fun b5 => ?_)
  refine a_storeW 0 rfl rfl rfl rfl ?_
  refine Run.nil ?_
  refine pj_then ?_
  refine J_seq ?_
  refine J_seq ?_
  refine J_reg ?_
  refine st (s_assign rfl) rfl ?_
  refine Run.nil ?_
  refine pj_then ?_
  refine J_block ?_
  obtain ⟨⟨bs, sv1, cap1⟩, hlen, hsv⟩ := s12
  simp only at hlen hsv
  unfold newT
  dsimp only
  refine J_sub (Γ' := [(2, _), (3, _), (4, _), (5, _), (6, _)]) (SubG.cons rfl (VT.le_refl _) (SubG.cons rfl (VT.le_refl _) (SubG.cons rfl (VT.le_refl _) (SubG.cons rfl (VT.le_refl _) (SubG.cons rfl (VT.le_refl _) (SubG.nil)))))) (SubM.refl _) ?_
  refine J_loopA (σ := Nat) (Γk := [(2, _), (3, _), (4, _), (5, _)]) (SubG.cons rfl (VT.le_refl _) (SubG.cons rfl (VT.le_refl _) (SubG.cons rfl (VT.le_refl _) (SubG.cons rfl (VT.le_refl _) (SubG.nil))))) (fun i => [(6, one (.int .i64 (i : Nat)))]) (fun i M0 => (M0.set 2 (ownR c bs (fill2 (fun i j => F i j * k) i 0)))) (fun i => i ≤ r) (fun i => r - i) (0) (Nat.zero_le _) (by repeat (first | exact SubG.refl _ | exact SubG.nil | refine SubG.cons rfl (VT.le_refl _) ?_ | (refine SubG.cons rfl (one_le ?_) ?_; (congr 1; first | omega | (simp; omega) | simp)))) (.keep (Own.le_refl _) (.keep (Own.le_refl _) (.keep (ownR_le fun i j hi hj => by simp [fill2]) (.keep (Own.le_refl _) (.keep (Own.le_refl _) (.keep (Own.le_refl _) (.nil))))))) (fun i hi => ?_)
  refine J_norm (Γ' := [(6, _), (2, _), (3, _), (4, _), (5, _)]) (M' := [_, _, _, _, _, _]) rfl rfl ?_
  refine J_seq ?_
  refine J_seq ?_
  refine J_reg ?_
  refine st (s_move rfl) rfl ?_
  refine st (s_fieldAddr rfl) rfl ?_
  refine st (s_loadB 5 rfl rfl rfl) rfl ?_
  refine st (s_lt rfl rfl) rfl ?_
  refine Run.nil ?_
  refine pj_then ?_
  refine J_if rfl (fun hc => ?_) (fun hc => ?_)
  · obtain ⟨bo, rfl⟩ := sv_some hsv (by omega)
    refine J_skip ?_
    refine pj_then ?_
    refine J_seq ?_
    refine J_block ?_
    refine J_seq ?_
    refine J_reg ?_
    refine st (s_assign rfl) rfl ?_
    refine Run.nil ?_
    refine pj_then ?_
    refine J_block ?_
    refine J_sub (Γ' := [(2, _), (3, _), (4, _), (5, _), (6, _), (7, _)]) (SubG.cons rfl (VT.le_refl _) (SubG.cons rfl (VT.le_refl _) (SubG.cons rfl (VT.le_refl _) (SubG.cons rfl (VT.le_refl _) (SubG.cons rfl (VT.le_refl _) (SubG.cons rfl (VT.le_refl _) (SubG.nil))))))) (SubM.refl _) ?_
    refine J_loopA (σ := Nat) (Γk := [(2, _), (3, _), (4, _), (5, _), (6, _)]) (SubG.cons rfl (VT.le_refl _) (SubG.cons rfl (VT.le_refl _) (SubG.cons rfl (VT.le_refl _) (SubG.cons rfl (VT.le_refl _) (SubG.cons rfl (VT.le_refl _) (SubG.nil)))))) (fun j => [(7, one (.int .i64 (j : Nat)))]) (fun j M0 => (M0.set 2 (ownR c bs (fill2 (fun i j => F i j * k) i j)))) (fun j => j ≤ c) (fun j => c - j) (0) (Nat.zero_le _) (by repeat (first | exact SubG.refl _ | exact SubG.nil | refine SubG.cons rfl (VT.le_refl _) ?_ | (refine SubG.cons rfl (one_le ?_) ?_; (congr 1; first | omega | (simp; omega) | simp)))) (.keep (Own.le_refl _) (.keep (Own.le_refl _) (.keep (Own.le_refl _) (.keep (Own.le_refl _) (.keep (Own.le_refl _) (.keep (Own.le_refl _) (.nil))))))) (fun j hj => ?_)
    refine J_norm (Γ' := [(7, _), (2, _), (3, _), (4, _), (5, _), (6, _)]) (M' := [_, _, _, _, _, _]) rfl rfl ?_
    refine J_seq ?_
    refine J_seq ?_
    refine J_reg ?_
    refine st (s_move rfl) rfl ?_
    refine st (s_fieldAddr rfl) rfl ?_
    refine st (s_loadB 5 rfl rfl rfl) rfl ?_
    refine st (s_lt rfl rfl) rfl ?_
    refine Run.nil ?_
    refine pj_then ?_
    refine J_if rfl (fun hc2 => ?_) (fun hc2 => ?_)
    · refine J_skip ?_
      refine pj_then ?_
      refine J_seq ?_
      refine J_block ?_
      refine J_regd 16 mixed (by kernel_rfl) (by decide) ?_
      refine st (s_fieldAddr rfl) rfl ?_
      refine st (s_loadB 0 rfl rfl rfl) rfl ?_
      refine st (s_move rfl) rfl ?_
      (refine st (s_indexON rfl rfl ?_) rfl ?_; omega)
      (refine st (s_loadE 1 rfl rfl ?_) rfl ?_; omega)
      refine st (s_move rfl) rfl ?_
      refine st (s_fieldAddr rfl) rfl ?_
      refine st (s_loadB 5 rfl rfl rfl) rfl ?_
      refine st (s_move rfl) rfl ?_
      (refine st (s_indexIN rfl rfl ?_) rfl ?_; omega)
      refine st (s_load rfl) rfl ?_
      refine st (s_move rfl) rfl ?_
      (refine st (s_indexIN rfl rfl ?_) rfl ?_; omega)
      refine st (s_load rfl) rfl ?_
      refine st (s_loadB 4 rfl rfl rfl) rfl ?_
      refine st (s_callk (rMulI_ok _ _ (hF _ _) (by assumption)) rfl ⟨VT.le_refl _, VT.le_refl _, trivial⟩) rfl ?_
      refine Run.nil ?_
      (refine st (s_indexON rfl rfl ?_) rfl ?_; omega)
      (refine a_storeR 2 rfl rfl rfl (getq ?_) ?_ rfl ?_; omega; omega)
      refine Run.nil ?_
      refine pn_block ?_
      refine pj_then ?_
      refine J_reg ?_
      refine st (s_move rfl) rfl ?_
      refine st (s_addN _ 1 rfl rfl (by omega)) rfl ?_
      refine st (s_assign rfl) rfl ?_
      refine Run.nil ?_
      refine pj_roundM (j + 1) (by omega) (by omega) (by repeat (first | exact SubG.refl _ | exact SubG.nil | refine SubG.cons rfl (VT.le_refl _) ?_ | (refine SubG.cons rfl (one_le ?_) ?_; (congr 1; first | omega | (simp; omega) | simp)))) (.keep (Own.le_refl _) (.keep (Own.le_refl _) (.keep (upd_fill2 _ rfl) (.keep (Own.le_refl _) (.keep (Own.le_refl _) (.keep (Own.le_refl _) (.nil)))))))
    · have hjm : j = c := by omega
      subst hjm
      refine J_exit ?_
      refine px_then ?_
      refine px_then ?_
      refine px_block ?_
      refine pn_block ?_
      refine pj_then ?_
      refine J_reg ?_
      refine st (s_move rfl) rfl ?_
      refine st (s_addN _ 1 rfl rfl (by omega)) rfl ?_
      refine st (s_assign rfl) rfl ?_
      refine Run.nil ?_
      refine pj_roundM (i + 1) (by omega) (by omega) (by repeat (first | exact SubG.refl _ | exact SubG.nil | refine SubG.cons rfl (VT.le_refl _) ?_ | (refine SubG.cons rfl (one_le ?_) ?_; (congr 1; first | omega | (simp; omega) | simp)))) (.keep (Own.le_refl _) (.keep (Own.le_refl _) (.keep (next_fill2) (.keep (Own.le_refl _) (.keep (Own.le_refl _) (.keep (Own.le_refl _) (.nil)))))))
  · have hin : i = r := by omega
    subst hin
    refine J_exit ?_
    refine px_then ?_
    refine px_then ?_
    refine px_block ?_
    refine pj_then ?_
    refine J_seq ?_
    refine J_reg ?_
    refine st (s_loadW 0 rfl rfl) rfl ?_
    refine a_storeW 3 rfl rfl rfl rfl ?_
    refine Run.nil ?_
    refine pj_then ?_
    refine J_ret ?_
    exact retM1 ⟨(bs, sv1, cap1), hlen, hsv⟩ Try.results20 (.cellW 3 rfl rfl (VT.le_refl _)) (.drop (.keep (Own.le_refl _) (.keep (ownR_le fun a b ha hb => by simp [fill2]; omega) (SubM.nilR _))))
set_option maxHeartbeats 4000000 in
theorem rCopiedM_ok (r c : Nat) (F : Nat → Nat → Int) (hr0 : r ≤ 1048576) (hc0 : c ≤ 1048576) (hF : ∀ i j, small (F i j)) : OkM Try.prog 13 [matF r c F] (newT r c) (fun s => [outO s.1.2.1 s.1.2.2 r c s.1.1, ownR c s.1.1 (fun i j => F i j * 1)]) := by
  have hs := rScaleM_ok r c F 1 hr0 hc0 hF small_one
  unfold matF at hs ⊢
  refine OkM.enter Try.func13 rfl Try.ntmps13 rfl (fun w O => ?_)
  refine J_seq ?_
  refine J_reg ?_
  refine a_boxS rfl rfl (ltN rfl) (fun b1 => ?_)
  refine a_allocS (T := 29) rfl rfl rfl (fun b2 => ?_)
  refine Run.nil ?_
  refine pj_then ?_
  refine J_seq ?_
  refine J_regd 2 mixed (by kernel_rfl) (by decide) ?_
  refine st (s_loadW 1 rfl rfl) rfl ?_
  refine st (s_callk (rOf_ok _ (by omega) (by omega)) rfl ⟨VT.le_refl _, trivial⟩) rfl ?_
  refine Run.nil ?_
  refine a_callM (hs ) rfl ⟨VT.le_refl _, VT.le_refl _, trivial⟩ rfl rfl (fun s5 => ?_)
  refine a_storeW 2 rfl rfl rfl rfl ?_
  refine Run.nil ?_
  refine pj_then ?_
  refine J_ret ?_
  exact retM1 s5 Try.results13 (.cellW 2 rfl rfl (VT.le_refl _)) (.keep (Own.le_refl _) (.keep (Own.le_refl _) (SubM.nilR _)))
end Tor
end
