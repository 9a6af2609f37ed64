/-
  Theorems that the proofs of laws of this seat rest on.
  No condition.
-/
import Derived.Test.YtinfobmidgammaaEC6
section
set_option linter.unusedVariables false
set_option linter.unusedSimpArgs false
namespace Tor
open Go Go.RowKit Go.Proofs
theorem small_zero : small 0 := Nat.zero_le _
abbrev pivT (l : List Nat) : VT := slT .one l.length (pivF l)
def elim0 (n r : Nat) : Prop := 1 ≤ n ∧ (n + 1) * 2 ^ r ≤ 1099511627700
theorem elim0.b {n r : Nat} (h : elim0 n r) : (n + 1) * 2 ^ r ≤ 1099511627776 := Nat.le_trans h.2 (by decide)
theorem elim0.lz {n r : Nat} (h : elim0 n r) {e : ElS} (he : ElOk n r e) {x : Int} (hx : lz (bndN n e.piv.length) x) : lz 1099511627700 x := hx.mono (by
  have h1 := bndN_le (n := n) he.p
  have h2 := bndN_eq n r
  have h3 := h.2
  omega)
theorem det_lz {n r : Nat} {F : Nat → Nat → Int} (he : elim0 n r) (hF : ∀ i j, lz n (F i j)) : lz 1099511627700 (Lin.detZ r F) := by
  rw [← Lin.detE_eq]
  have hok := elN_ok (r := r) false he.1 hF r
  have h := he.lz hok hok.last
  unfold Lin.detE
  split
  · exact lz_zero _
  · split
    · exact lz_neg h
    · exact h
theorem elim0.le {n r s : Nat} (h : elim0 n r) (hs : s ≤ r) : elim0 n s := ⟨h.1, Nat.le_trans (Nat.mul_le_mul_left _ (Nat.pow_le_pow_right (by decide) hs)) h.2⟩
attribute [local irreducible] Tor.J Tor.PJ Tor.StepO Tor.one Tor.slT Tor.ptrT Tor.aggT Tor.tupT Tor.exT Tor.andT Tor.gT Tor.eP Tor.boxO Tor.sliO Tor.slV Tor.VT.le Tor.Ret Tor.anyT Tor.mapO Tor.metT Tor.xO
attribute [local irreducible] bigT rowF
set_option maxHeartbeats 4000000 in
theorem square_ok (r c : Nat) (F : Nat → Nat → Int) : Ok Try.prog 34 [matF r c F] (one (.bool (decide (r = c)))) := by
  have hv := matValidF_ok r c F
  unfold matF at *
  refine Ok.enter Try.func34 rfl Try.ntmps34 rfl (fun w O => ?_)
  by_cases h : r = c
  · rw [decide_eq_true h]
    refine J_seq ?_
    refine J_reg ?_
    refine a_boxS rfl rfl (ltN rfl) (fun b1 => ?_)
    refine st (s_assign rfl) rfl ?_
    refine Run.nil ?_
    refine pj_then ?_
    refine J_seq ?_
    refine J_reg ?_
    refine st (s_loadW 0 rfl rfl) rfl ?_
    refine st (s_callk (hv ) rfl ⟨VT.le_refl _, trivial⟩) rfl ?_
    refine st (s_move rfl) rfl ?_
    refine sg1 rfl rfl (s_fieldAddr rfl) rfl ?_
    refine sg1 rfl rfl (s_loadB 0 rfl rfl rfl) rfl ?_
    refine sg1 rfl rfl (s_fieldAddr rfl) rfl ?_
    refine sg1 rfl rfl (s_loadB 0 rfl rfl rfl) rfl ?_
    refine sg1 rfl rfl (sT (by omega) (s_eq rfl rfl)) rfl ?_
    refine st (s_pickT rfl rfl) rfl ?_
    refine st (s_assign rfl) rfl ?_
    refine Run.nil ?_
    refine pj_then ?_
    refine J_ret ?_
    refine retc1 Try.results34 (.tmp rfl (VT.le_refl _))
  · rw [decide_eq_false h]
    refine J_seq ?_
    refine J_reg ?_
    refine a_boxS rfl rfl (ltN rfl) (fun b1 => ?_)
    refine st (s_assign rfl) rfl ?_
    refine Run.nil ?_
    refine pj_then ?_
    refine J_seq ?_
    refine J_reg ?_
    refine st (s_loadW 0 rfl rfl) rfl ?_
    refine st (s_callk (hv ) rfl ⟨VT.le_refl _, trivial⟩) rfl ?_
    refine st (s_move rfl) rfl ?_
    refine sg1 rfl rfl (s_fieldAddr rfl) rfl ?_
    refine sg1 rfl rfl (s_loadB 0 rfl rfl rfl) rfl ?_
    refine sg1 rfl rfl (s_fieldAddr rfl) rfl ?_
    refine sg1 rfl rfl (s_loadB 0 rfl rfl rfl) rfl ?_
    refine sg1 rfl rfl (sF (by omega) (s_eq rfl rfl)) rfl ?_
    refine st (s_pickT rfl rfl) rfl ?_
    refine st (s_assign rfl) rfl ?_
    refine Run.nil ?_
    refine pj_then ?_
    refine J_ret ?_
    refine retc1 Try.results34 (.tmp rfl (VT.le_refl _))
set_option maxHeartbeats 4000000 in
theorem DetS_ok (r c : Nat) (F : Nat → Nat → Int) (h : r ≠ c) : Ok Try.prog 8 [matF r c F] (tupT [bigT 0, one (.int .i64 50)]) := by
  have hs := square_ok r c F
  rw [decide_eq_false h] at hs
  refine Ok.enter Try.func8 rfl Try.ntmps8 rfl (fun w O => ?_)
  refine J_seq ?_
  refine J_reg ?_
  refine a_boxS rfl rfl (ltN rfl) (fun b1 => ?_)
  refine a_alloc (T := 34) rfl (ltN rfl) (fun b2 => ?_)
  refine st (s_assign rfl) rfl ?_
  refine Run.nil ?_
  refine pj_then ?_
  refine J_seq ?_
  refine J_seq ?_
  refine J_reg ?_
  refine st (s_loadW 1 rfl rfl) rfl ?_
  refine st (s_callk (hs ) rfl ⟨VT.le_refl _, trivial⟩) rfl ?_
  refine st (s_not rfl) rfl ?_
  refine Run.nil ?_
  refine pj_then ?_
  refine J_cond1 rfl ?_
  refine J_seq ?_
  refine J_reg ?_
  refine stB rfl rfl rfl ?_
  refine BuildK.nil ?_
  refine a_storeB 0 rfl rfl rfl rfl rfl (leN rfl) rfl ?_
  refine st (s_assign rfl) rfl ?_
  refine Run.nil ?_
  refine pj_then ?_
  refine J_ret ?_
  refine pr_then ?_
  refine retc2 Try.results8 (.cellB 0 rfl rfl rfl (zero_bigC)) (.tmp rfl (VT.le_refl _))
set_option maxHeartbeats 4000000 in
theorem Det_ok (r : Nat) (F : Nat → Nat → Int) (n : Nat) (hr : r ≤ 1048576) (he : elim0 n r) (hF : ∀ i j, lz n (F i j)) : Ok Try.prog 8 [matF r r F] (tupT [bigT (Lin.detZ r F), one (.int .i64 0)]) := by
  have hs := square_ok r r F
  rw [decide_eq_true rfl] at hs
  have hru := runR_ok r r r F false n hr hr (Nat.le_refl _) he.1 he.b hF
  rw [← Lin.detE_eq]
  obtain ⟨A, V, hEL⟩ := Lin.elN_EL r r false F r (Nat.le_refl _)
  have hpr := hEL.gj.pr
  unfold Lin.detE
  have hok := elN_ok (r := r) false he.1 hF r
  generalize elN r false F r = e at *
  have hlast : small e.last := (he.lz hok hok.last).small (by decide)
  have hneg := NegI_ok e.last hlast
  have hadd := AddI_ok e.last 0 hlast small_zero
  rw [Int.add_zero] at hadd
  unfold matF elimT at *
  refine Ok.enter Try.func8 rfl Try.ntmps8 rfl (fun w O => ?_)
  by_cases h : e.piv.length < r
  · rw [if_pos h]
    refine J_seq ?_
    refine J_reg ?_
    refine a_boxS rfl rfl (ltN rfl) (fun b1 => ?_)
    refine a_alloc (T := 34) rfl (ltN rfl) (fun b2 => ?_)
    refine st (s_assign rfl) rfl ?_
    refine Run.nil ?_
    refine pj_then ?_
    refine J_seq ?_
    refine J_seq ?_
    refine J_reg ?_
    refine st (s_loadW 1 rfl rfl) rfl ?_
    refine st (s_callk (hs ) rfl ⟨VT.le_refl _, trivial⟩) rfl ?_
    refine st (s_not rfl) rfl ?_
    refine Run.nil ?_
    refine pj_then ?_
    refine J_cond0 rfl ?_
    refine J_skip ?_
    refine pj_then ?_
    refine J_seq ?_
    refine J_reg ?_
    refine st (s_fieldAddr rfl) rfl ?_
    refine st (s_loadB 1 rfl rfl rfl) rfl ?_
    refine st (s_fieldAddr rfl) rfl ?_
    refine st (s_loadB 1 rfl rfl rfl) rfl ?_
    refine st (s_callk (hru ) rfl ⟨VT.le_refl _, VT.le_refl _, VT.le_refl _, trivial⟩) rfl ?_
    refine st (s_assign rfl) rfl ?_
    refine Run.nil ?_
    refine pj_then ?_
    refine J_seq ?_
    refine J_block ?_
    refine J_seq ?_
    refine J_regd 9 mixed (by kernel_rfl) (by decide) ?_
    refine st (s_move rfl) rfl ?_
    refine st (s_nilCheckI rfl) rfl ?_
    refine st (s_fieldI rfl rfl) rfl ?_
    refine st (s_load rfl) rfl ?_
    refine st (s_len rfl) rfl ?_
    refine st (s_fieldAddr rfl) rfl ?_
    refine st (s_loadB 1 rfl rfl rfl) rfl ?_
    refine st (sT (by omega) (s_lt rfl rfl)) rfl ?_
    refine st (s_assign rfl) rfl ?_
    refine Run.nil ?_
    refine Run.nil ?_
    refine pj_then ?_
    refine J_cond1 rfl ?_
    refine J_seq ?_
    refine J_reg ?_
    refine stB rfl rfl rfl ?_
    refine BuildK.nil ?_
    refine a_storeB 0 rfl rfl rfl rfl rfl (leN rfl) rfl ?_
    refine st (s_assign rfl) rfl ?_
    refine Run.nil ?_
    refine pj_then ?_
    refine J_ret ?_
    refine pr_block ?_
    refine pr_then ?_
    refine retc2 Try.results8 (.cellB 0 rfl rfl rfl (zero_bigC)) (.tmp rfl (VT.le_refl _))
  · rw [if_neg h]
    cases ho : e.odd
    · simp only [ho] at *
      refine J_seq ?_
      refine J_reg ?_
      refine a_boxS rfl rfl (ltN rfl) (fun b1 => ?_)
      refine a_alloc (T := 34) rfl (ltN rfl) (fun b2 => ?_)
      refine st (s_assign rfl) rfl ?_
      refine Run.nil ?_
      refine pj_then ?_
      refine J_seq ?_
      refine J_seq ?_
      refine J_reg ?_
      refine st (s_loadW 1 rfl rfl) rfl ?_
      refine st (s_callk (hs ) rfl ⟨VT.le_refl _, trivial⟩) rfl ?_
      refine st (s_not rfl) rfl ?_
      refine Run.nil ?_
      refine pj_then ?_
      refine J_cond0 rfl ?_
      refine J_skip ?_
      refine pj_then ?_
      refine J_seq ?_
      refine J_reg ?_
      refine st (s_fieldAddr rfl) rfl ?_
      refine st (s_loadB 1 rfl rfl rfl) rfl ?_
      refine st (s_fieldAddr rfl) rfl ?_
      refine st (s_loadB 1 rfl rfl rfl) rfl ?_
      refine st (s_callk (hru ) rfl ⟨VT.le_refl _, VT.le_refl _, VT.le_refl _, trivial⟩) rfl ?_
      refine st (s_assign rfl) rfl ?_
      refine Run.nil ?_
      refine pj_then ?_
      refine J_seq ?_
      refine J_block ?_
      refine J_seq ?_
      refine J_regd 9 mixed (by kernel_rfl) (by decide) ?_
      refine st (s_move rfl) rfl ?_
      refine st (s_nilCheckI rfl) rfl ?_
      refine st (s_fieldI rfl rfl) rfl ?_
      refine st (s_load rfl) rfl ?_
      refine st (s_len rfl) rfl ?_
      refine st (s_fieldAddr rfl) rfl ?_
      refine st (s_loadB 1 rfl rfl rfl) rfl ?_
      refine st (sF (by omega) (s_lt rfl rfl)) rfl ?_
      refine st (s_assign rfl) rfl ?_
      refine Run.nil ?_
      refine Run.nil ?_
      refine pj_then ?_
      refine J_cond0 rfl ?_
      refine J_seq ?_
      refine J_reg ?_
      refine st (s_move rfl) rfl ?_
      refine st (s_nilCheckI rfl) rfl ?_
      refine st (s_fieldI rfl rfl) rfl ?_
      refine st (s_fieldI rfl rfl) rfl ?_
      refine st (s_load rfl) rfl ?_
      refine st (s_assign rfl) rfl ?_
      refine Run.nil ?_
      refine pj_then ?_
      refine J_cond0 rfl ?_
      refine J_skip ?_
      refine pn_block ?_
      refine pj_then ?_
      refine J_seq ?_
      refine J_reg ?_
      refine st (s_move rfl) rfl ?_
      refine st (s_nilCheckI rfl) rfl ?_
      refine st (s_fieldI rfl rfl) rfl ?_
      refine st (s_fieldI rfl rfl) rfl ?_
      refine st (s_load rfl) rfl ?_
      refine stB rfl rfl rfl ?_
      refine BuildK.nil ?_
      refine st (s_callk (hadd ) rfl ⟨VT.le_refl _, (zero_bigC), trivial⟩) rfl ?_
      refine a_storeB 0 rfl rfl rfl rfl rfl (leN rfl) rfl ?_
      refine st (s_assign rfl) rfl ?_
      refine Run.nil ?_
      refine pj_then ?_
      refine J_ret ?_
      refine retc2 Try.results8 (.cellB 0 rfl rfl rfl (VT.le_refl _)) (.tmp rfl (VT.le_refl _))
    · simp only [ho] at *
      refine J_seq ?_
      refine J_reg ?_
      refine a_boxS rfl rfl (ltN rfl) (fun b1 => ?_)
      refine a_alloc (T := 34) rfl (ltN rfl) (fun b2 => ?_)
      refine st (s_assign rfl) rfl ?_
      refine Run.nil ?_
      refine pj_then ?_
      refine J_seq ?_
      refine J_seq ?_
      refine J_reg ?_
      refine st (s_loadW 1 rfl rfl) rfl ?_
      refine st (s_callk (hs ) rfl ⟨VT.le_refl _, trivial⟩) rfl ?_
      refine st (s_not rfl) rfl ?_
      refine Run.nil ?_
      refine pj_then ?_
      refine J_cond0 rfl ?_
      refine J_skip ?_
      refine pj_then ?_
      refine J_seq ?_
      refine J_reg ?_
      refine st (s_fieldAddr rfl) rfl ?_
      refine st (s_loadB 1 rfl rfl rfl) rfl ?_
      refine st (s_fieldAddr rfl) rfl ?_
      refine st (s_loadB 1 rfl rfl rfl) rfl ?_
      refine st (s_callk (hru ) rfl ⟨VT.le_refl _, VT.le_refl _, VT.le_refl _, trivial⟩) rfl ?_
      refine st (s_assign rfl) rfl ?_
      refine Run.nil ?_
      refine pj_then ?_
      refine J_seq ?_
      refine J_block ?_
      refine J_seq ?_
      refine J_regd 9 mixed (by kernel_rfl) (by decide) ?_
      refine st (s_move rfl) rfl ?_
      refine st (s_nilCheckI rfl) rfl ?_
      refine st (s_fieldI rfl rfl) rfl ?_
      refine st (s_load rfl) rfl ?_
      refine st (s_len rfl) rfl ?_
      refine st (s_fieldAddr rfl) rfl ?_
      refine st (s_loadB 1 rfl rfl rfl) rfl ?_
      refine st (sF (by omega) (s_lt rfl rfl)) rfl ?_
      refine st (s_assign rfl) rfl ?_
      refine Run.nil ?_
      refine Run.nil ?_
      refine pj_then ?_
      refine J_cond0 rfl ?_
      refine J_seq ?_
      refine J_reg ?_
      refine st (s_move rfl) rfl ?_
      refine st (s_nilCheckI rfl) rfl ?_
      refine st (s_fieldI rfl rfl) rfl ?_
      refine st (s_fieldI rfl rfl) rfl ?_
      refine st (s_load rfl) rfl ?_
      refine st (s_assign rfl) rfl ?_
      refine Run.nil ?_
      refine pj_then ?_
      refine J_cond1 rfl ?_
      refine J_seq ?_
      refine J_reg ?_
      refine st (s_move rfl) rfl ?_
      refine st (s_nilCheckI rfl) rfl ?_
      refine st (s_fieldI rfl rfl) rfl ?_
      refine st (s_fieldI rfl rfl) rfl ?_
      refine st (s_load rfl) rfl ?_
      refine st (s_callk (hneg ) rfl ⟨VT.le_refl _, trivial⟩) rfl ?_
      refine a_storeB 0 rfl rfl rfl rfl rfl (leN rfl) rfl ?_
      refine st (s_assign rfl) rfl ?_
      refine Run.nil ?_
      refine pj_then ?_
      refine J_ret ?_
      refine pr_block ?_
      refine pr_then ?_
      refine retc2 Try.results8 (.cellB 0 rfl rfl rfl (VT.le_refl _)) (.tmp rfl (VT.le_refl _))
set_option maxHeartbeats 4000000 in
theorem Rank_ok (r c : Nat) (F : Nat → Nat → Int) (n : Nat) (hr : r ≤ 1048576) (hc : c ≤ 1048576) (he : elim0 n r) (he' : elim0 n c) (hF : ∀ i j, lz n (F i j)) :
    Ok Try.prog 11 [matF r c F] (tupT [pivT (Lin.newL c r (fun i j => F j i) r), pivT (Lin.newL r c F c)]) := by
  have hv := matValidF_ok r c F
  have hF' : ∀ i j, lz n ((fun i j => F j i : Nat → Nat → Int) i j) := fun i j => hF j i
  have hn : n ≤ 1099511627776 := by
    have h1 := he.2
    have h2 : 1 ≤ 2 ^ r := Nat.one_le_two_pow
    have h3 := Nat.mul_le_mul_left (n + 1) h2
    omega
  have ht := Transpose_ok r c F hr hc (fun i j => (hF i j).small hn)
  have h1 := runR_ok r c c F false n hr hc (Nat.le_refl _) he.1 he.b hF
  have h2 := runR_ok c r r (fun i j => F j i) false n hc hr (Nat.le_refl _) he.1 he'.b hF'
  obtain ⟨A, V, hE1⟩ := Lin.elN_EL r c false F c (Nat.le_refl _)
  obtain ⟨A', V', hE2⟩ := Lin.elN_EL c r false (fun i j => F j i) r (Nat.le_refl _)
  rw [← hE1.pl, ← hE2.pl]
  have p1 := hE1.gj.pr
  have p2 := hE2.gj.pr
  have p0 : r = 0 → (elN c false (fun i j => F j i) r).piv.length = 0 ∧ (elN r false F c).piv.length = 0 := fun h => by
    subst h; exact ⟨rfl, by omega⟩
  generalize elN r false F c = e1 at *
  generalize elN c false (fun i j => F j i) r = e2 at *
  unfold matF elimT at *
  refine Ok.enter Try.func11 rfl Try.ntmps11 rfl (fun w O => ?_)
  by_cases h : r = 0
  · obtain ⟨q1, q2⟩ := p0 h
    refine J_seq ?_
    refine J_reg ?_
    refine a_boxS rfl rfl (ltN rfl) (fun b1 => ?_)
    refine st (s_assign rfl) rfl ?_
    refine st (s_assign rfl) rfl ?_
    refine Run.nil ?_
    refine pj_then ?_
    refine J_seq ?_
    refine J_seq ?_
    refine J_reg ?_
    refine st (s_loadW 0 rfl rfl) rfl ?_
    refine st (s_callk (hv ) rfl ⟨VT.le_refl _, trivial⟩) rfl ?_
    refine st (s_not rfl) rfl ?_
    refine st (s_move rfl) rfl ?_
    refine sg1 rfl rfl (s_fieldAddr rfl) rfl ?_
    refine sg1 rfl rfl (s_loadB 0 rfl rfl rfl) rfl ?_
    refine sg1 rfl rfl (sT (by omega) (s_eq rfl rfl)) rfl ?_
    refine st (s_pickF rfl rfl) rfl ?_
    refine Run.nil ?_
    refine pj_then ?_
    refine J_cond1 rfl ?_
    refine J_seq ?_
    refine J_reg ?_
    refine st (s_assign rfl) rfl ?_
    refine st (s_assign rfl) rfl ?_
    refine Run.nil ?_
    refine pj_then ?_
    refine J_ret ?_
    refine pr_then ?_
    refine retc2 Try.results11 (.tmp rfl (by (unfold pivT; rw [q1]; exact nil_slT))) (.tmp rfl (by (unfold pivT; rw [q2]; exact nil_slT)))
  · refine J_seq ?_
    refine J_reg ?_
    refine a_boxS rfl rfl (ltN rfl) (fun b1 => ?_)
    refine st (s_assign rfl) rfl ?_
    refine st (s_assign rfl) rfl ?_
    refine Run.nil ?_
    refine pj_then ?_
    refine J_seq ?_
    refine J_seq ?_
    refine J_reg ?_
    refine st (s_loadW 0 rfl rfl) rfl ?_
    refine st (s_callk (hv ) rfl ⟨VT.le_refl _, trivial⟩) rfl ?_
    refine st (s_not rfl) rfl ?_
    refine st (s_move rfl) rfl ?_
    refine sg1 rfl rfl (s_fieldAddr rfl) rfl ?_
    refine sg1 rfl rfl (s_loadB 0 rfl rfl rfl) rfl ?_
    refine sg1 rfl rfl (sF (by omega) (s_eq rfl rfl)) rfl ?_
    refine st (s_pickF rfl rfl) rfl ?_
    refine Run.nil ?_
    refine pj_then ?_
    refine J_cond0 rfl ?_
    refine J_skip ?_
    refine pj_then ?_
    refine J_seq ?_
    refine J_regd 9 mixed (by kernel_rfl) (by decide) ?_
    refine st (s_loadW 0 rfl rfl) rfl ?_
    refine st (s_callk (ht ) rfl ⟨VT.le_refl _, trivial⟩) rfl ?_
    refine st (s_field rfl rfl) rfl ?_
    refine st (s_fieldAddr rfl) rfl ?_
    refine st (s_loadB 0 rfl rfl rfl) rfl ?_
    refine st (s_callk (h2 ) rfl ⟨VT.le_refl _, VT.le_refl _, VT.le_refl _, trivial⟩) rfl ?_
    refine st (s_nilCheckI rfl) rfl ?_
    refine st (s_fieldI rfl rfl) rfl ?_
    refine st (s_load rfl) rfl ?_
    refine Run.nil ?_
    refine st (s_assign rfl) rfl ?_
    refine Run.nil ?_
    refine pj_then ?_
    refine J_seq ?_
    refine J_regd 10 mixed (by kernel_rfl) (by decide) ?_
    refine st (s_move rfl) rfl ?_
    refine st (s_fieldAddr rfl) rfl ?_
    refine st (s_loadB 0 rfl rfl rfl) rfl ?_
    refine st (s_fieldAddr rfl) rfl ?_
    refine st (s_loadB 0 rfl rfl rfl) rfl ?_
    refine st (s_callk (h1 ) rfl ⟨VT.le_refl _, VT.le_refl _, VT.le_refl _, trivial⟩) rfl ?_
    refine st (s_nilCheckI rfl) rfl ?_
    refine st (s_fieldI rfl rfl) rfl ?_
    refine st (s_load rfl) rfl ?_
    refine st (s_assign rfl) rfl ?_
    refine Run.nil ?_
    refine st (s_assign rfl) rfl ?_
    refine Run.nil ?_
    refine pj_then ?_
    refine J_ret ?_
    refine retc2 Try.results11 (.tmp rfl (VT.le_refl _)) (.tmp rfl (VT.le_refl _))
end Tor
end

section
set_option linter.unusedVariables false
set_option linter.unusedSimpArgs false
namespace Tor
open Go Go.RowKit Go.Proofs
def qz (n : Nat) (q : Rat) : Prop := lz n q.num ∧ lz n (q.den : Int)
attribute [local irreducible] Tor.J Tor.PJ Tor.StepO Tor.one Tor.slT Tor.ptrT Tor.aggT Tor.tupT Tor.exT Tor.andT Tor.gT Tor.eP Tor.boxO Tor.sliO Tor.slV Tor.VT.le Tor.Ret Tor.anyT Tor.mapO Tor.metT Tor.xO
attribute [local irreducible] bigT
set_option maxHeartbeats 4000000 in
theorem rqof_ok (n d : Int) (hd : d ≠ 0) (hn : small0 n) (hds : small0 d) : Ok Try.prog 80 [bigT n, bigT d] (ratT (Rat.divInt n d)) := by
  have h := rqOf_ok n d hd hn hds
  unfold ratT fracT at *
  refine Ok.enter Try.func80 rfl Try.ntmps80 rfl (fun w O => ?_)
  refine J_seq ?_
  refine J_reg ?_
  refine a_box rfl rfl (ltN rfl) (fun b2 => ?_)
  refine a_box rfl rfl (ltN rfl) (fun b3 => ?_)
  refine a_allocS (T := 63) rfl rfl rfl (fun b4 => ?_)
  refine Run.nil ?_
  refine pj_then ?_
  refine J_seq ?_
  refine J_reg ?_
  refine st (s_loadB 2 rfl rfl rfl) rfl ?_
  refine st (s_loadB 1 rfl rfl rfl) rfl ?_
  refine st (s_callk (h ) rfl ⟨VT.le_refl _, VT.le_refl _, trivial⟩) rfl ?_
  refine st (s_move rfl) rfl ?_
  refine st (s_extract rfl rfl) rfl ?_
  refine st (s_extract rfl rfl) rfl ?_
  refine a_allocS (T := 63) rfl rfl rfl (fun b5 => ?_)
  refine a_storeW 0 rfl rfl rfl rfl ?_
  refine st (s_assign rfl) rfl ?_
  refine Run.nil ?_
  refine pj_then ?_
  refine J_seq ?_
  refine J_reg ?_
  refine st (s_loadW 0 rfl rfl) rfl ?_
  refine a_storeW 1 rfl rfl rfl rfl ?_
  refine Run.nil ?_
  refine pj_then ?_
  refine J_ret ?_
  refine retc1 Try.results80 (.cellW 1 rfl rfl (VT.le_refl _))
set_option maxHeartbeats 4000000 in
theorem rqMade_ok (n d : Int) (hd : d ≠ 0) (n1 : -9223372036854775808 ≤ n) (n2 : n ≤ 9223372036854775807) (d1 : -9223372036854775808 ≤ d) (d2 : d ≤ 9223372036854775807) : Ok Try.prog 56 [one (.int .i64 n), one (.int .i64 d)] (ratT (Rat.divInt n d)) := by
  have o1 := rOf_ok n n1 n2
  have o2 := rOf_ok d d1 d2
  have c := rqof_ok n d hd (small0_lt (by omega)) (small0_lt (by omega))
  refine Ok.enter Try.func56 rfl Try.ntmps56 rfl (fun w O => ?_)
  refine J_seq ?_
  refine J_reg ?_
  refine a_allocS (T := 63) rfl rfl rfl (fun b4 => ?_)
  refine Run.nil ?_
  refine pj_then ?_
  refine J_seq ?_
  refine J_seq ?_
  refine J_reg ?_
  refine st (s_move rfl) rfl ?_
  refine st (sF (by assumption) (s_eq rfl rfl)) rfl ?_
  refine Run.nil ?_
  refine pj_then ?_
  refine J_cond0 rfl ?_
  refine J_skip ?_
  refine pj_then ?_
  refine J_seq ?_
  refine J_reg ?_
  refine st (s_move rfl) rfl ?_
  refine st (s_callk (o1 ) rfl ⟨VT.le_refl _, trivial⟩) rfl ?_
  refine st (s_move rfl) rfl ?_
  refine st (s_callk (o2 ) rfl ⟨VT.le_refl _, trivial⟩) rfl ?_
  refine st (s_callk (c ) rfl ⟨VT.le_refl _, VT.le_refl _, trivial⟩) rfl ?_
  refine a_storeW 0 rfl rfl rfl rfl ?_
  refine Run.nil ?_
  refine pj_then ?_
  refine J_ret ?_
  refine retc1 Try.results56 (.cellW 0 rfl rfl (VT.le_refl _))
set_option maxHeartbeats 4000000 in
theorem rqList_ok (n m : Nat) (l k : Nat → Rat) (hn : n ≤ 1048576) : Ok Try.prog 31 [slT (.agg 4) n (fun i => ratT (l i)), slT (.agg 4) m (fun i => ratT (k i))] (one (.bool (decide (n = m ∧ ∀ i, i < n → l i = k i)))) := by
  refine Ok.enter Try.func31 rfl Try.ntmps31 rfl (fun w O => ?_)
  by_cases h : n = m
  · subst h
    refine J_seq ?_
    refine J_reg ?_
    refine st (s_assign rfl) rfl ?_
    refine Run.nil ?_
    refine pj_then ?_
    refine J_seq ?_
    refine J_seq ?_
    refine J_reg ?_
    refine st (s_move rfl) rfl ?_
    refine st (s_len rfl) rfl ?_
    refine st (s_move rfl) rfl ?_
    refine st (s_len rfl) rfl ?_
    refine st (sF (by omega) (s_ne rfl rfl)) rfl ?_
    refine Run.nil ?_
    refine pj_then ?_
    refine J_cond0 rfl ?_
    refine J_skip ?_
    refine pj_then ?_
    refine J_seq ?_
    refine J_seq ?_
    refine J_reg ?_
    refine st (s_assign rfl) rfl ?_
    refine Run.nil ?_
    refine pj_then ?_
    refine J_block ?_
    refine J_sub (Γ' := [(0, _), (1, _), (4, _), (5, _)]) (SubG.cons rfl (VT.le_refl _) (SubG.cons rfl (VT.le_refl _) (SubG.cons rfl (VT.le_refl _) (SubG.cons rfl (VT.le_refl _) (SubG.nil))))) (SubM.refl _) ?_
    refine J_loopA (σ := Nat) (Γk := [(0, _), (1, _)]) (SubG.cons rfl (VT.le_refl _) (SubG.cons rfl (VT.le_refl _) (SubG.nil))) (fun i => [(5, one (.int .i64 (i : Nat)))]) (fun i M0 => M0) (fun i => i ≤ n ∧ ∀ q, q < i → l q = k q) (fun i => n - i) (0) (⟨Nat.zero_le _, fun q h => absurd h (Nat.not_lt_zero _)⟩) (by repeat (first | exact SubG.refl _ | exact SubG.nil | refine SubG.cons rfl (VT.le_refl _) ?_ | (refine SubG.cons rfl (one_le ?_) ?_; (congr 1; first | omega | (simp; omega) | simp)))) (.nil) (fun i hi => ?_)
    refine J_norm (Γ' := [(5, _), (0, _), (1, _)]) (M' := []) rfl rfl ?_
    obtain ⟨hi, hq⟩ := hi
    by_cases hin : i < n
    · have hs := rqSame_ok (l i) (k i)
      by_cases he : l i = k i
      · rw [decide_eq_true he] at hs
        refine J_seq ?_
        refine J_seq ?_
        refine J_reg ?_
        refine st (s_move rfl) rfl ?_
        refine st (s_move rfl) rfl ?_
        refine st (s_len rfl) rfl ?_
        refine st (sT (by omega) (s_lt rfl rfl)) rfl ?_
        refine Run.nil ?_
        refine pj_then ?_
        refine J_cond1 rfl ?_
        refine J_skip ?_
        refine pj_then ?_
        refine J_seq ?_
        refine J_block ?_
        refine J_seq ?_
        refine J_regd 10 mixed (by kernel_rfl) (by decide) ?_
        refine st (s_move rfl) rfl ?_
        refine st (s_move rfl) rfl ?_
        refine st (s_indexIN rfl rfl (by omega)) rfl ?_
        refine st (s_load rfl) rfl ?_
        refine st (s_move rfl) rfl ?_
        refine st (s_move rfl) rfl ?_
        refine st (s_indexIN rfl rfl (by omega)) rfl ?_
        refine st (s_load rfl) rfl ?_
        refine st (s_callk (hs ) rfl ⟨VT.le_refl _, VT.le_refl _, trivial⟩) rfl ?_
        refine st (s_not rfl) rfl ?_
        refine Run.nil ?_
        refine Run.nil ?_
        refine pj_then ?_
        refine J_cond0 rfl ?_
        refine J_skip ?_
        refine pn_block ?_
        refine pj_then ?_
        refine J_reg ?_
        refine st (s_move rfl) rfl ?_
        refine st (s_addN _ 1 rfl rfl (by omega)) rfl ?_
        refine st (s_assign rfl) rfl ?_
        refine Run.nil ?_
        refine pj_roundM (i + 1) (⟨hin, fun q h => by by_cases h3 : q = i; exact h3 ▸ he; exact hq q (by omega)⟩) (by omega) (by repeat (first | exact SubG.refl _ | exact SubG.nil | refine SubG.cons rfl (VT.le_refl _) ?_ | (refine SubG.cons rfl (one_le ?_) ?_; (congr 1; first | omega | (simp; omega) | simp)))) (.nil)
      · rw [decide_eq_false he] at hs
        rw [decide_eq_false (fun h => he (h.2 i hin))]
        refine J_seq ?_
        refine J_seq ?_
        refine J_reg ?_
        refine st (s_move rfl) rfl ?_
        refine st (s_move rfl) rfl ?_
        refine st (s_len rfl) rfl ?_
        refine st (sT (by omega) (s_lt rfl rfl)) rfl ?_
        refine Run.nil ?_
        refine pj_then ?_
        refine J_cond1 rfl ?_
        refine J_skip ?_
        refine pj_then ?_
        refine J_seq ?_
        refine J_block ?_
        refine J_seq ?_
        refine J_regd 10 mixed (by kernel_rfl) (by decide) ?_
        refine st (s_move rfl) rfl ?_
        refine st (s_move rfl) rfl ?_
        refine st (s_indexIN rfl rfl (by omega)) rfl ?_
        refine st (s_load rfl) rfl ?_
        refine st (s_move rfl) rfl ?_
        refine st (s_move rfl) rfl ?_
        refine st (s_indexIN rfl rfl (by omega)) rfl ?_
        refine st (s_load rfl) rfl ?_
        refine st (s_callk (hs ) rfl ⟨VT.le_refl _, VT.le_refl _, trivial⟩) rfl ?_
        refine st (s_not rfl) rfl ?_
        refine Run.nil ?_
        refine Run.nil ?_
        refine pj_then ?_
        refine J_cond1 rfl ?_
        refine J_seq ?_
        refine J_reg ?_
        refine st (s_assign rfl) rfl ?_
        refine Run.nil ?_
        refine pj_then ?_
        refine J_ret ?_
        refine pr_block ?_
        refine pr_then ?_
        refine pr_then ?_
        refine pr_block ?_
        refine pr_then ?_
        refine retc1 Try.results31 (.tmp rfl (VT.le_refl _))
    · rw [decide_eq_true ⟨rfl, fun q h => hq q (by omega)⟩]
      refine J_seq ?_
      refine J_seq ?_
      refine J_reg ?_
      refine st (s_move rfl) rfl ?_
      refine st (s_move rfl) rfl ?_
      refine st (s_len rfl) rfl ?_
      refine st (sF (by omega) (s_lt rfl rfl)) rfl ?_
      refine Run.nil ?_
      refine pj_then ?_
      refine J_cond0 rfl ?_
      refine J_exit ?_
      refine px_then ?_
      refine px_then ?_
      refine px_block ?_
      refine pj_then ?_
      refine J_seq ?_
      refine J_reg ?_
      refine st (s_assign rfl) rfl ?_
      refine Run.nil ?_
      refine pj_then ?_
      refine J_ret ?_
      refine retc1 Try.results31 (.tmp rfl (VT.le_refl _))
  · rw [decide_eq_false (fun k => h k.1)]
    refine J_seq ?_
    refine J_reg ?_
    refine st (s_assign rfl) rfl ?_
    refine Run.nil ?_
    refine pj_then ?_
    refine J_seq ?_
    refine J_seq ?_
    refine J_reg ?_
    refine st (s_move rfl) rfl ?_
    refine st (s_len rfl) rfl ?_
    refine st (s_move rfl) rfl ?_
    refine st (s_len rfl) rfl ?_
    refine st (sT (by omega) (s_ne rfl rfl)) rfl ?_
    refine Run.nil ?_
    refine pj_then ?_
    refine J_cond1 rfl ?_
    refine J_seq ?_
    refine J_reg ?_
    refine st (s_assign rfl) rfl ?_
    refine Run.nil ?_
    refine pj_then ?_
    refine J_ret ?_
    refine pr_then ?_
    refine retc1 Try.results31 (.tmp rfl (VT.le_refl _))
end Tor
end

section
set_option linter.unusedVariables false
set_option linter.unusedSimpArgs false
namespace Tor
open Go Go.RowKit Go.Proofs
attribute [local irreducible] Tor.J Tor.PJ Tor.StepO Tor.one Tor.slT Tor.ptrT Tor.aggT Tor.tupT Tor.exT Tor.andT Tor.gT Tor.eP Tor.boxO Tor.sliO Tor.slV Tor.VT.le Tor.Ret Tor.anyT
attribute [local irreducible] bigT Tor.rowsO
end Tor
end

section
set_option linter.unusedVariables false
set_option linter.unusedSimpArgs false
namespace Tor
open Go Go.RowKit Go.Proofs
theorem perm6 (x y z u t s : Own) : [x, y, z, u, t, s].Perm ([y, z] ++ [x, u, t, s]) := (List.Perm.swap y x _).trans (List.Perm.cons y (List.Perm.swap z x _))
attribute [local irreducible] Tor.J Tor.PJ Tor.StepO Tor.one Tor.slT Tor.ptrT Tor.aggT Tor.tupT Tor.exT Tor.andT Tor.gT Tor.eP Tor.boxO Tor.sliO Tor.slV Tor.VT.le Tor.Ret Tor.anyT
attribute [local irreducible] bigT Tor.rowsO
end Tor
end

section
set_option linter.unusedVariables false
set_option linter.unusedSimpArgs false
namespace Tor
open Go Go.RowKit Go.Proofs
def ratF (n : Nat) (f : Nat → Rat) : VT := slT (.agg 4) n (fun i => ratT (f i))
theorem ratF_le {n : Nat} {f g : Nat → Rat} (h : ∀ i, i < n → f i = g i) : VT.le (ratF n f) (ratF n g) := slT_le fun i hi => le_eq (by rw [h i hi])
instance {n : Nat} {f : Nat → Rat} : Flat (ratF n f) .one := by unfold ratF; infer_instance
def firstQ (a : Nat → Rat) (n : Nat) : Nat := ((List.range' 0 n).find? fun i => decide (a i ≠ 0)).getD n
def redB (α β : Nat) : Nat → Nat
  | 0 => α
  | i + 1 => 2 * redB α β i + 2 * β + 1
theorem rat_snoc {sv : Option Nat} {T : TypeId} {cap i : Nat} {h : Nat → Rat} {x : Rat} (hx : x = h i) : Own.le (sliO sv T (.agg 4) cap (i + 1) (fun q => if q < i then ratT (h q) else ratT x)) (sliO sv T (.agg 4) cap (i + 1) (fun q => ratT (h q))) := sliO_eq fun q hq => by
  subst hx
  by_cases c : q < i
  · rw [if_pos c]
  · rw [if_neg c, show q = i by omega]
attribute [local irreducible] Tor.J Tor.PJ Tor.StepO Tor.one Tor.slT Tor.ptrT Tor.aggT Tor.tupT Tor.exT Tor.andT Tor.gT Tor.eP Tor.boxO Tor.sliO Tor.slV Tor.VT.le Tor.Ret Tor.anyT Tor.mapO Tor.metT Tor.xO
attribute [local irreducible] bigT ratT
end Tor
end

section
set_option linter.unusedVariables false
set_option linter.unusedSimpArgs false
namespace Tor
open Go Go.RowKit Go.Proofs
abbrev basF (l : List (Nat → Rat)) : Nat → Nat → Rat := fun k => l.getD k (fun _ => 0)
def newB (α : Nat) : Nat → Nat
  | 0 => α
  | k + 1 => redB α (newB α k) k
/-- What is known of the lists. -/
structure NewI (α c i : Nat) (s : List Nat × List (Nat → Rat)) : Prop where
  l1 : s.1.length = s.2.length
  l2 : s.2.length ≤ i
  b : ∀ k, k < s.2.length → firstQ (basF s.2 k) c < c ∧ ∀ j, qz (newB α s.2.length) (basF s.2 k j)
attribute [local irreducible] Tor.J Tor.PJ Tor.StepO Tor.one Tor.slT Tor.ptrT Tor.aggT Tor.tupT Tor.exT Tor.andT Tor.gT Tor.eP Tor.boxO Tor.sliO Tor.slV Tor.VT.le Tor.Ret Tor.anyT Tor.mapO Tor.metT Tor.xO
attribute [local irreducible] bigT ratT ratF rowF
end Tor
end

section
set_option linter.unusedVariables false
set_option linter.unusedSimpArgs false
namespace Tor.Lin
def DetI (n k : Nat) (F : Nat → Nat → Int) (R : Nat → Nat → Rat) (o : Rat) : Prop := det n (fun i j => (F i j : Rat)) = o * det (n - k) (fun i j => R (k + i) (k + j))
end Tor.Lin
end

section
set_option linter.unusedVariables false
set_option linter.unusedSimpArgs false
namespace Tor
open Go Go.RowKit Go.Proofs
def rdB (α : Nat) : Nat → Nat
  | 0 => α
  | k + 1 => 4 * rdB α k + 1
/-- The state of the reference's elimination. -/
structure RdI (α n k : Nat) (F : Nat → Nat → Int) (R : Nat → Nat → Rat) (o : Rat) : Prop where
  d : Lin.DetI n k F R o
  q : ∀ i j, qz (rdB α k) (R i j)
  o : qz (rdB α k) o
attribute [local irreducible] Tor.J Tor.PJ Tor.StepO Tor.one Tor.slT Tor.ptrT Tor.aggT Tor.tupT Tor.exT Tor.andT Tor.gT Tor.eP Tor.boxO Tor.sliO Tor.slV Tor.VT.le Tor.Ret Tor.anyT Tor.mapO Tor.metT Tor.xO
attribute [local irreducible] bigT ratT
end Tor
end

section
set_option linter.unusedVariables false
set_option linter.unusedSimpArgs false
namespace Tor
def eqS (r : Nat) (F : Nat → Nat → Int) (b : Nat → Int) : Nat → Nat → Int := fun j i => if i < r then F i j else if i = r then b j else if i = r + 1 + j then 1 else 0
def xsN (e : ElS) (r : Nat) : Nat → Nat → Rat
  | 0 => fun _ => 0
  | k + 1 => fun i => if i = e.piv.getD k 0 then Rat.divInt (e.R k r) (e.R k i) else xsN e r k i
end Tor
namespace Tor.Lin
theorem newL_sorted (r w : Nat) (F : Nat → Nat → Int) (n : Nat) : (newL r w F n).Pairwise (· < ·) := by
  unfold newL; exact List.Pairwise.filter _ List.pairwise_lt_range
theorem sorted_get {l : List Nat} (h : l.Pairwise (· < ·)) {i j : Nat} (hij : i < j) (hj : j < l.length) : l.getD i 0 < l.getD j 0 := by
  have := List.pairwise_iff_getElem.1 h i j (by omega) hj hij
  simpa [List.getD, show i < l.length by omega, hj] using this
theorem sm_app (n m : Nat) (f : Nat → Rat) : sm (n + m) f = sm n f + sm m (fun k => f (n + k)) := by
  induction m with
  | zero => show sm n f = sm n f + 0; grind
  | succ m ih => rw [← Nat.add_assoc, sm, sm, ih]; grind
theorem xs_sum {e : ElS} {r : Nat} {val : Nat → Rat} (hv : ∀ k, k < e.piv.length → Rat.divInt (e.R k r) (e.R k (pv e k)) = val k) (hs : e.piv.Pairwise (· < ·)) : ∀ p, p ≤ e.piv.length → ∀ i, xsN e r p i = sm p (fun k => if i = pv e k then val k else 0)
  | 0, _, i => rfl
  | p + 1, hp, i => by
    have ih := xs_sum hv hs p (by omega) i
    rw [sm, ← ih]
    show (if i = e.piv.getD p 0 then Rat.divInt (e.R p r) (e.R p i) else xsN e r p i) = _
    by_cases h : i = e.piv.getD p 0
    · rw [if_pos h, if_pos h, ih, sm_all0 (fun k hk => by
        rw [if_neg]
        have := sorted_get hs hk (by omega)
        show ¬ i = e.piv.getD k 0
        omega)]
      have h2 := hv p (by omega)
      have h2 : Rat.divInt (e.R p r) (e.R p (e.piv.getD p 0)) = val p := h2
      rw [h, h2]; grind
    · rw [if_neg h, if_neg h]; grind
theorem divInt_rat (a b : Int) : Rat.divInt a b = (a : Rat) / (b : Rat) := by
  rw [Rat.div_def]
  have h1 : (a : Rat) = Rat.divInt a 1 := by
    have := Rat.mkRat_self (a : Rat)
    rw [← Rat.divInt_ofNat, Rat.num_intCast, Rat.den_intCast] at this
    exact this.symm
  have h2 : ((b : Int) : Rat)⁻¹ = Rat.divInt 1 b := by rw [Rat.inv_def]; simp
  rw [h1, h2, Rat.divInt_mul_divInt, Int.mul_one, Int.one_mul]
variable {r c : Nat} {F : Nat → Nat → Int} {b : Nat → Int} {e : ElS} {A : Nat → Nat → Int} {V : Nat → Nat → Rat}
theorem EL.val (h : EL c (r + 1 + c) r true (eqS r F b) e A V) {k : Nat} (hk : k < e.piv.length) : Rat.divInt (e.R k r) (e.R k (pv e k)) = V k r := by
  have hp := h.gj.pr
  have hc := h.gj.pc k hk
  have hd := int_ne h.gj.d0
  rw [divInt_rat, h.gj.B3 k (by omega) r (by omega) (.inl rfl), h.gj.B3 k (by omega) (pv e k) (by omega) (.inl rfl), h.gj.V4 k hk k (by omega), if_pos rfl]
  grind
theorem EL.sorted (h : EL c (r + 1 + c) r true (eqS r F b) e A V) : e.piv.Pairwise (· < ·) := by rw [h.pl]; exact newL_sorted _ _ _ _
theorem EL.solves (h : EL c (r + 1 + c) r true (eqS r F b) e A V) (h0 : firstP e.R r e.piv.length c = none) {j : Nat} (hj : j < c) : sm r (fun i => xsN e r e.piv.length i * (F i j : Rat)) = (b j : Rat) := by
  have hz : ∀ q, e.piv.length ≤ q → q < c → e.R q r = 0 := by
    rcases el_cases e.R r e.piv.length c with h1 | ⟨i, h1, h2, h3, h4⟩
    · exact h1
    · rw [firstP_some h1 h2 h3 h4] at h0; cases h0
  have hd := int_ne h.gj.d0
  have hpc := h.gj.pc
  rw [sm_congr (g := fun i => sm e.piv.length (fun k => if i = pv e k then V k r * (F i j : Rat) else 0)) (fun i _ => by
    rw [xs_sum (fun k hk => h.val hk) h.sorted _ (Nat.le_refl _) i, ← sm_mulr]
    exact sm_congr fun k _ => by split <;> grind), sm_swap, sm_congr (g := fun k => V k r * (F (pv e k) j : Rat)) (fun k hk => sm_ite (hpc k hk) (fun i => V k r * (F i j : Rat)))]
  obtain ⟨i, hi, ei⟩ := h.p2 j hj
  have a2 := h.gj.A2 i hi r (by omega)
  have e1 : A i r = b j := by rw [ei]; unfold eqS; rw [if_neg (by omega), if_pos rfl]
  have e2 : ∀ k, k < e.piv.length → A i (pv e k) = F (pv e k) j := fun k hk => by rw [ei]; unfold eqS; rw [if_pos (hpc k hk)]
  have e3 : (if i < e.piv.length then 0 else V i r) = 0 := by
    split
    · rfl
    · have := h.gj.B3 i hi r (by omega) (.inl rfl)
      rw [hz i (by omega) hi] at this
      have h3 : ((0 : Int) : Rat) = 0 := rfl
      rw [h3] at this
      grind
  rw [e1, e3] at a2
  rw [a2, sm_congr (f := fun k => (A i (pv e k) : Rat) * V k r) (g := fun k => V k r * (F (pv e k) j : Rat)) (fun k hk => by rw [e2 k hk]; exact Rat.mul_comm _ _)]
  grind
theorem EL.made (h : EL c (r + 1 + c) r true (eqS r F b) e A V) {q i0 : Nat} (hq : q < c) (hi : i0 ≤ r) (G : Nat → Int) (hG : ∀ j, j < c → eqS r F b j i0 = G j) : V q i0 = sm c (fun k => (G k : Rat) * V q (r + 1 + k)) := by
  have key : ∀ T : Nat → Rat, sm (r + 1 + c) (fun x => ((if x = i0 then 1 else 0) - (if r + 1 ≤ x then (G (x - (r + 1)) : Rat) else 0)) * T x) = T i0 - sm c (fun k => (G k : Rat) * T (r + 1 + k)) := fun T => by
    rw [sm_congr (g := fun x => (if x = i0 then T x else 0) - (if r + 1 ≤ x then (G (x - (r + 1)) : Rat) else 0) * T x) (fun x _ => by split <;> grind), sm_sub, sm_ite (by omega), sm_app]
    rw [sm_all0 (f := fun x => (if r + 1 ≤ x then (G (x - (r + 1)) : Rat) else 0) * T x) (fun x hx => by rw [if_neg (by omega)]; grind)]
    rw [sm_congr (f := fun k => (if r + 1 ≤ r + 1 + k then (G (r + 1 + k - (r + 1)) : Rat) else 0) * T (r + 1 + k)) (g := fun k => (G k : Rat) * T (r + 1 + k)) (fun k _ => by rw [if_pos (by omega), show r + 1 + k - (r + 1) = k by omega])]
    grind
  have z := h.gj.V6 (fun x => (if x = i0 then 1 else 0) - (if r + 1 ≤ x then (G (x - (r + 1)) : Rat) else 0)) (fun i hi' => by
    obtain ⟨j, hj, ej⟩ := h.p1 i hi'
    rw [key (fun x => (A i x : Rat)), ej, hG j hj]
    have e1 : sm c (fun k => (G k : Rat) * (eqS r F b j (r + 1 + k) : Rat)) = (G j : Rat) := by
      rw [sm_one hj (fun k hk hne => by
        have : eqS r F b j (r + 1 + k) = 0 := by unfold eqS; rw [if_neg (by omega), if_neg (by omega), if_neg (by omega)]
        rw [this]; exact Rat.mul_zero _)]
      have : eqS r F b j (r + 1 + j) = 1 := by unfold eqS; rw [if_neg (by omega), if_neg (by omega), if_pos rfl]
      rw [this]; exact Rat.mul_one _
    rw [e1]; grind) q hq
  rw [key (V q)] at z
  grind
theorem EL.alt (h : EL c (r + 1 + c) r true (eqS r F b) e A V) {q : Nat} (h0 : firstP e.R r e.piv.length c = some q) :
    (∀ i, i < r → sm c (fun k => Rat.divInt (e.R q (r + 1 + k)) (e.R q r) * (F i k : Rat)) = 0) ∧ sm c (fun k => (b k : Rat) * Rat.divInt (e.R q (r + 1 + k)) (e.R q r)) = 1 := by
  have hq : e.piv.length ≤ q ∧ q < c ∧ e.R q r ≠ 0 := by
    rcases el_cases e.R r e.piv.length c with h1 | ⟨i, h1, h2, h3, h4⟩
    · rw [firstP_none h1] at h0; cases h0
    · rw [firstP_some h1 h2 h3 h4] at h0; cases h0; exact ⟨h1, h2, h4⟩
  obtain ⟨h1, h2, h3⟩ := hq
  have hd := int_ne h.gj.d0
  have hb := h.gj.B3 q h2 r (by omega) (.inl rfl)
  have hv : V q r ≠ 0 := fun k => int_ne h3 (by rw [hb, k]; exact Rat.mul_zero _)
  have hy : ∀ k, k < c → Rat.divInt (e.R q (r + 1 + k)) (e.R q r) = V q (r + 1 + k) / V q r := fun k hk => by
    rw [divInt_rat, hb, h.gj.B3 q h2 (r + 1 + k) (by omega) (.inl rfl)]; grind
  refine ⟨fun i hi => ?_, ?_⟩
  · have m := h.made (i0 := i) h2 (by omega) (fun j => F i j) (fun j _ => by unfold eqS; rw [if_pos hi])
    rw [h.gj.V5 i hi q h1 h2] at m
    rw [sm_congr (g := fun k => (F i k : Rat) * V q (r + 1 + k) * (1 / V q r)) (fun k hk => by rw [hy k hk]; grind), sm_mulr, ← m]; grind
  · have m := h.made (i0 := r) h2 (Nat.le_refl _) b (fun j _ => by unfold eqS; rw [if_neg (by omega), if_pos rfl])
    rw [sm_congr (g := fun k => (b k : Rat) * V q (r + 1 + k) * (1 / V q r)) (fun k hk => by rw [hy k hk]; grind), sm_mulr, ← m]; grind
end Tor.Lin
end

section
set_option linter.unusedVariables false
set_option linter.unusedSimpArgs false
namespace Tor
open Go Go.RowKit Go.Proofs
theorem fill_rat {sv : Option Nat} {T : TypeId} {cap n j : Nat} {h : Nat → Rat} {x : Rat} (hx : x = h j) : Own.le (sliO sv T (.agg 4) cap n (upd (fun q => if q < j then ratT (h q) else fracT 0 0) j (ratT x))) (sliO sv T (.agg 4) cap n (fun q => if q < j + 1 then ratT (h q) else fracT 0 0)) := sliO_eq (fun q _ => by
  subst hx
  show (if q = j then ratT (h j) else (if q < j then ratT (h q) else fracT 0 0)) = _
  by_cases c : q = j
  · rw [if_pos c, if_pos (by omega), c]
  · rw [if_neg c]
    by_cases c2 : q < j
    · rw [if_pos c2, if_pos (by omega)]
    · rw [if_neg c2, if_neg (by omega)])
theorem zeroR_le : VT.le (one (.agg #[.bool false, .slice none 0 0, .bool false, .slice none 0 0])) (fracT 0 0) := by
  intro v h e
  have e : v = .agg #[.bool false, .slice none 0 0, .bool false, .slice none 0 0] := e
  subst e
  refine ⟨_, rfl, rfl, by simp [Value.oneCell'], fun q hq => ?_⟩
  rcases List.mem_cons.1 hq with rfl | hq
  · exact ⟨_, rfl, zeroB_le _ _ rfl⟩
  · rcases List.mem_cons.1 hq with rfl | hq
    · exact ⟨_, rfl, zeroB_le _ _ rfl⟩
    · cases hq
theorem el_pivne {r w c : Nat} {full : Bool} {A : Nat → Nat → Int} {e : ElS} {V : Nat → Nat → Rat} (h : Lin.GJ r w c full A e V) (hf : full = true) (hcw : c ≤ w) {k : Nat} (hk : k < e.piv.length) : e.R k (e.piv.getD k 0) ≠ 0 := by
  have h1 := h.pc k hk
  have h2 := h.B3 k (Nat.lt_of_lt_of_le hk h.pr) (e.piv.getD k 0) (Nat.lt_of_lt_of_le h1 hcw) (.inl hf)
  have h3 := h.V4 k hk k (Nat.lt_of_lt_of_le hk h.pr)
  rw [if_pos rfl] at h3
  have h3 : V k (e.piv.getD k 0) = 1 := h3
  rw [h3, Rat.mul_one] at h2
  intro h0
  rw [h0] at h2
  exact Lin.int_ne h.d0 h2.symm
attribute [local irreducible] Tor.J Tor.PJ Tor.StepO Tor.one Tor.slT Tor.ptrT Tor.aggT Tor.tupT Tor.exT Tor.andT Tor.gT Tor.eP Tor.boxO Tor.sliO Tor.slV Tor.VT.le Tor.Ret Tor.anyT Tor.mapO Tor.metT Tor.xO
attribute [local irreducible] bigT
set_option maxHeartbeats 4000000 in
theorem overM_ok (n : Nat) (f : Nat → Int) (d : Int) (hn : n ≤ 1048576) (hd : d ≠ 0) (hds : small d) (hf : ∀ i, i < n → small (f i)) : OkM (σ := Nat) Try.prog 51 [rowF n f, bigT d] (fun s => one (slV (some s) n n)) (fun s => [sliO (some s) 63 (.agg 4) n n (fun i => ratT (Rat.divInt (f i) d))]) := by
  unfold rowF
  refine OkM.enter Try.func51 rfl Try.ntmps51 rfl (fun w0 O => ?_)
  refine J_seq ?_
  refine J_reg ?_
  refine a_box rfl rfl (ltN rfl) (fun b3 => ?_)
  refine st (s_assign rfl) rfl ?_
  refine Run.nil ?_
  refine pj_then ?_
  refine J_seq ?_
  refine J_reg ?_
  refine st (s_move rfl) rfl ?_
  refine st (s_len rfl) rfl ?_
  refine a_makeSlice n n rfl rfl rfl rfl (Nat.le_refl _) rfl rfl (by omega) rfl rfl (fun bz => ?_)
  refine st (s_assign rfl) rfl ?_
  refine Run.nil ?_
  refine pj_then ?_
  refine J_seq ?_
  refine J_seq ?_
  refine J_reg ?_
  refine st (s_move rfl) rfl ?_
  refine st (s_len rfl) rfl ?_
  refine st (s_move rfl) rfl ?_
  refine Run.nil ?_
  refine pj_then ?_
  refine J_block ?_
  refine J_sub (Γ' := [(3, _), (4, _), (5, _), (11, _), (12, _), (13, _)]) (SubG.cons rfl (VT.le_refl _) (SubG.cons rfl (VT.le_refl _) (SubG.cons rfl (VT.le_refl _) (SubG.cons rfl (VT.le_refl _) (SubG.cons rfl (VT.le_refl _) (SubG.cons rfl (VT.le_refl _) (SubG.nil))))))) (SubM.refl _) ?_
  refine J_loopA (σ := Nat) (Γk := [(3, _), (4, _), (5, _), (11, _), (12, _)]) (SubG.cons rfl (VT.le_refl _) (SubG.cons rfl (VT.le_refl _) (SubG.cons rfl (VT.le_refl _) (SubG.cons rfl (VT.le_refl _) (SubG.cons rfl (VT.le_refl _) (SubG.nil)))))) (fun i => [(13, one (.int .i64 (i : Nat)))]) (fun i M0 => (M0.set 0 (sliO (some bz) 63 (.agg 4) n n (fun q => if q < i then ratT (Rat.divInt (f q) d) else fracT 0 0)))) (fun i => i ≤ n) (fun i => n - i) (0) (Nat.zero_le _) (by repeat (first | exact SubG.refl _ | exact SubG.nil | refine SubG.cons rfl (VT.le_refl _) ?_ | (refine SubG.cons rfl (one_le ?_) ?_; (congr 1; first | omega | (simp; omega) | simp)))) (.keep (sliO_le fun q hq => zeroR_le) (.keep (Own.le_refl _) (.nil))) (fun i hi => ?_)
  refine J_norm (Γ' := [(13, _), (3, _), (4, _), (5, _), (11, _), (12, _)]) (M' := [_, _]) rfl rfl ?_
  by_cases hc : i < n
  · have hq := qOf_ok (f i) d hd (hf i hc) hds
    refine J_seq ?_
    refine J_reg ?_
    refine st (sT (by omega) (s_lt rfl rfl)) rfl ?_
    refine Run.nil ?_
    refine pj_then ?_
    refine J_seq ?_
    refine J_cond1 rfl ?_
    refine J_skip ?_
    refine pj_then ?_
    refine J_seq ?_
    refine J_block ?_
    refine J_seq ?_
    refine J_reg ?_
    refine st (s_move rfl) rfl ?_
    refine st (s_indexIN rfl rfl (by omega)) rfl ?_
    refine st (s_load rfl) rfl ?_
    refine a_alloc (T := 34) rfl (ltN rfl) (fun b7 => ?_)
    refine st (s_assign rfl) rfl ?_
    refine a_storeB 0 rfl rfl rfl rfl rfl (leN rfl) rfl ?_
    refine Run.nil ?_
    refine pj_then ?_
    refine J_reg ?_
    refine st (s_move rfl) rfl ?_
    refine st (s_move rfl) rfl ?_
    refine st (s_loadB 0 rfl rfl rfl) rfl ?_
    refine st (s_loadB 2 rfl rfl rfl) rfl ?_
    refine st (s_callk (hq ) rfl ⟨VT.le_refl _, VT.le_refl _, trivial⟩) rfl ?_
    refine st (s_move rfl) rfl ?_
    refine st (s_extract rfl rfl) rfl ?_
    refine st (s_extract rfl rfl) rfl ?_
    refine st (s_indexON rfl rfl (by omega)) rfl ?_
    (refine a_storeE 1 rfl rfl rfl ?_ rfl ?_; omega)
    refine Run.nil ?_
    refine pn_block ?_
    refine pj_then ?_
    refine J_reg ?_
    refine st (s_addN _ 1 rfl rfl (by omega)) rfl ?_
    refine st (s_move rfl) rfl ?_
    refine Run.nil ?_
    refine pj_roundM (i + 1) (hc) (by omega) (by repeat (first | exact SubG.refl _ | exact SubG.nil | refine SubG.cons rfl (VT.le_refl _) ?_ | (refine SubG.cons rfl (one_le ?_) ?_; (congr 1; first | omega | (simp; omega) | simp)))) (.drop (.keep (fill_rat (h := fun q => Rat.divInt (f q) d) rfl) (.keep (Own.le_refl _) (.nil))))
  · have he : i = n := by omega
    subst he
    refine J_seq ?_
    refine J_reg ?_
    refine st (sF (by omega) (s_lt rfl rfl)) rfl ?_
    refine Run.nil ?_
    refine pj_then ?_
    refine J_seq ?_
    refine J_cond0 rfl ?_
    refine J_exit ?_
    refine px_then ?_
    refine px_then ?_
    refine px_block ?_
    refine pj_then ?_
    refine J_seq ?_
    refine J_reg ?_
    refine st (s_move rfl) rfl ?_
    refine st (s_assign rfl) rfl ?_
    refine Run.nil ?_
    refine pj_then ?_
    refine J_ret ?_
    exact retM1 (σ := Nat) (ψ := fun s => one (slV (some s) i i)) (Ms := fun s => [sliO (some s) 63 (.agg 4) i i (fun i => ratT (Rat.divInt (f i) d))]) bz Try.results51 (.tmp rfl (VT.le_refl _)) (.keep (sliO_eq fun q hq => by rw [if_pos hq]) (.drop .nil))
theorem over_ok (n : Nat) (f : Nat → Int) (d : Int) (hn : n ≤ 1048576) (hd : d ≠ 0) (hds : small d) (hf : ∀ i, i < n → small (f i)) : Ok Try.prog 51 [rowF n f, bigT d] (slT (.agg 4) n (fun i => ratT (Rat.divInt (f i) d))) :=
  (overM_ok n f d hn hd hds hf).ok fun s => Ent.sl List.mem_cons_self
theorem eqS_row {r j : Nat} {F : Nat → Nat → Int} {b : Nat → Int} (q : Nat) : upd (upd (fun q => bigT (if q < r then F q j else 0)) r (bigT (b j))) (r + 1 + j) (bigT 1) q = bigT (eqS r F b j q) := by
  show (if q = r + 1 + j then bigT 1 else (if q = r then bigT (b j) else bigT (if q < r then F q j else 0))) = _
  unfold eqS
  by_cases h1 : q = r + 1 + j
  · rw [if_pos h1, if_neg (by omega), if_neg (by omega), if_pos h1]
  · rw [if_neg h1]
    by_cases h2 : q = r
    · rw [if_pos h2, if_neg (by omega), if_pos h2]
    · rw [if_neg h2]
      by_cases h3 : q < r
      · rw [if_pos h3, if_pos h3]
      · rw [if_neg h3, if_neg h3, if_neg h2, if_neg h1]
theorem eqS_open {Ms : Mem} {sv bl : Option Nat} {T T' : TypeId} {c j r n capl : Nat} {F : Nat → Nat → Int} {b : Nat → Int} (hm : sliO bl T' (.agg 2) capl n (upd (upd (fun q => bigT (if q < r then F q j else 0)) r (bigT (b j))) (r + 1 + j) (bigT 1)) ∈ Ms) :
    EntO Ms (sliO sv T .one c c (upd (fun q => if q < j then rowF n (eqS r F b q) else one (.slice none 0 0)) j (one (slV bl n capl)))) (sliO sv T .one c c (fun q => if q < j + 1 then rowF n (eqS r F b q) else one (.slice none 0 0))) := EntO.sl fun q _ => by
  show Ent Ms (if q = j then one (slV bl n capl) else (if q < j then rowF n (eqS r F b q) else one (.slice none 0 0))) (if q < j + 1 then rowF n (eqS r F b q) else one (.slice none 0 0))
  by_cases h1 : q = j
  · rw [if_pos h1, if_pos (by omega), h1]
    exact Ent.slE hm fun k _ => Ent.le (le_eq (eqS_row k))
  · rw [if_neg h1]
    by_cases h2 : q < j
    · rw [if_pos h2, if_pos (by omega)]; exact Ent.refl _
    · rw [if_neg h2, if_neg (by omega)]; exact Ent.refl _
theorem lz_eqS {n r : Nat} {F : Nat → Nat → Int} {b : Nat → Int} (hn : 1 ≤ n) (hF : ∀ i j, lz n (F i j)) (hb : ∀ j, lz n (b j)) : ∀ i j, lz n (eqS r F b i j) := fun i j => by
  unfold eqS; split
  · exact hF _ _
  · split
    · exact hb _
    · split
      · exact lz_one hn
      · exact lz_zero _
theorem small_of_elim {n r : Nat} (he : elim0 n r) : n ≤ 1099511627700 := by
  have h1 := he.2
  have h2 : 1 ≤ 2 ^ r := Nat.one_le_two_pow
  have h3 := Nat.mul_le_mul_left (n + 1) h2
  omega
theorem fill_xs {sv : Option Nat} {T : TypeId} {cap n k r : Nat} {e : ElS} : Own.le (sliO sv T (.agg 4) cap n (upd (fun i => ratT (xsN e r k i)) (e.piv.getD k 0) (ratT (Rat.divInt (e.R k r) (e.R k (e.piv.getD k 0)))))) (sliO sv T (.agg 4) cap n (fun i => ratT (xsN e r (k + 1) i))) := sliO_eq fun q _ => by
  show (if q = e.piv.getD k 0 then ratT _ else ratT (xsN e r k q)) = ratT (if q = e.piv.getD k 0 then Rat.divInt (e.R k r) (e.R k q) else xsN e r k q)
  by_cases h : q = e.piv.getD k 0
  · rw [if_pos h, if_pos h, h]
  · rw [if_neg h, if_neg h]
set_option maxHeartbeats 4000000 in
theorem Solve_ok (r c : Nat) (F : Nat → Nat → Int) (b : Nat → Int) (n : Nat) (hr : r ≤ 1024) (hc : c ≤ 1024) (he : elim0 n c) (hF : ∀ i j, lz n (F i j)) (hb : ∀ j, lz n (b j)) : Ok Try.prog 24 [matF r c F, rowF c b]
    (match firstP (elN c true (eqS r F b) r).R r (elN c true (eqS r F b) r).piv.length c with
      | some q => tupT [slT (.agg 4) 0 (fun _ => ratT 0), slT (.agg 4) c (fun k => ratT (Rat.divInt ((elN c true (eqS r F b) r).R q (r + 1 + k)) ((elN c true (eqS r F b) r).R q r))), one (.bool false)]
      | none => tupT [slT (.agg 4) r (fun i => ratT (xsN (elN c true (eqS r F b) r) r (elN c true (eqS r F b) r).piv.length i)), slT (.agg 4) 0 (fun _ => ratT 0), one (.bool true)]) := by
  have hv := matValidF_ok r c F
  have h1 := Of_ok 1 (by decide) (by decide)
  unfold matF rowF at *
  refine Ok.enter Try.func24 rfl Try.ntmps24 rfl (fun w0 O => ?_)
  refine J_seq ?_
  refine J_reg ?_
  refine a_boxS rfl rfl (ltN rfl) (fun b2 => ?_)
  refine st (s_assign rfl) rfl ?_
  refine st (s_assign rfl) rfl ?_
  refine st (s_assign rfl) rfl ?_
  refine Run.nil ?_
  refine pj_then ?_
  refine J_seq ?_
  refine J_seq ?_
  refine J_reg ?_
  refine st (s_loadW 0 rfl rfl) rfl ?_
  refine st (s_callk (hv ) rfl ⟨VT.le_refl _, trivial⟩) rfl ?_
  refine st (s_not rfl) rfl ?_
  refine st (s_move rfl) rfl ?_
  refine sg1 rfl rfl (s_move rfl) rfl ?_
  refine sg1 rfl rfl (s_len rfl) rfl ?_
  refine sg1 rfl rfl (s_fieldAddr rfl) rfl ?_
  refine sg1 rfl rfl (s_loadB 0 rfl rfl rfl) rfl ?_
  refine sg1 rfl rfl (sF (by omega) (s_ne rfl rfl)) rfl ?_
  refine st (s_pickF rfl rfl) rfl ?_
  refine Run.nil ?_
  refine pj_then ?_
  refine J_cond0 rfl ?_
  refine J_skip ?_
  refine pj_then ?_
  refine J_seq ?_
  refine J_reg ?_
  refine st (s_fieldAddr rfl) rfl ?_
  refine st (s_loadB 0 rfl rfl rfl) rfl ?_
  refine a_makeSlice c c rfl rfl rfl rfl (Nat.le_refl _) rfl rfl (by omega) rfl rfl (fun bo => ?_)
  refine st (s_assign rfl) rfl ?_
  refine Run.nil ?_
  refine pj_then ?_
  refine J_seq ?_
  refine J_seq ?_
  refine J_reg ?_
  refine st (s_move rfl) rfl ?_
  refine st (s_lenO rfl) rfl ?_
  refine st (s_move rfl) rfl ?_
  refine Run.nil ?_
  refine pj_then ?_
  refine J_block ?_
  refine J_sub (Γ' := [(1, _), (2, _), (4, _), (5, _), (6, _), (7, _), (32, _), (33, _)]) (SubG.cons rfl (VT.le_refl _) (SubG.cons rfl (VT.le_refl _) (SubG.cons rfl (VT.le_refl _) (SubG.cons rfl (VT.le_refl _) (SubG.cons rfl (VT.le_refl _) (SubG.cons rfl (VT.le_refl _) (SubG.cons rfl (VT.le_refl _) (SubG.cons rfl (VT.le_refl _) (SubG.nil))))))))) (SubM.refl _) ?_
  refine J_loopA (σ := Nat) (Γk := [(1, _), (2, _), (4, _), (5, _), (6, _), (7, _), (32, _)]) (SubG.cons rfl (VT.le_refl _) (SubG.cons rfl (VT.le_refl _) (SubG.cons rfl (VT.le_refl _) (SubG.cons rfl (VT.le_refl _) (SubG.cons rfl (VT.le_refl _) (SubG.cons rfl (VT.le_refl _) (SubG.cons rfl (VT.le_refl _) (SubG.nil)))))))) (fun j => [(33, one (.int .i64 (j : Nat)))]) (fun j M0 => (M0.set 0 (sliO (some bo) 44 .one c c (fun q => if q < j then rowF (r + 1 + c) (eqS r F b q) else one (.slice none 0 0))))) (fun j => j ≤ c) (fun j => c - j) (0) (Nat.zero_le _) (by repeat (first | exact SubG.refl _ | exact SubG.nil | refine SubG.cons rfl (VT.le_refl _) ?_ | (refine SubG.cons rfl (one_le ?_) ?_; (congr 1; first | omega | (simp; omega) | simp)))) (.keep (Own.le_refl _) (.keep (Own.le_refl _) (.nil))) (fun j hj => ?_)
  refine J_norm (Γ' := [(33, _), (1, _), (2, _), (4, _), (5, _), (6, _), (7, _), (32, _)]) (M' := [_, _]) rfl rfl ?_
  by_cases hj : j < c
  · refine J_seq ?_
    refine J_reg ?_
    refine st (sT (by omega) (s_lt rfl rfl)) rfl ?_
    refine Run.nil ?_
    refine pj_then ?_
    refine J_seq ?_
    refine J_cond1 rfl ?_
    refine J_skip ?_
    refine pj_then ?_
    refine J_seq ?_
    refine J_block ?_
    refine J_seq ?_
    refine J_reg ?_
    refine st (s_move rfl) rfl ?_
    refine st (s_assign rfl) rfl ?_
    refine Run.nil ?_
    refine pj_then ?_
    refine J_seq ?_
    refine J_reg ?_
    refine st (s_fieldAddr rfl) rfl ?_
    refine st (s_loadB 1 rfl rfl rfl) rfl ?_
    refine st (s_addN _ 1 rfl rfl (by omega)) rfl ?_
    refine st (s_fieldAddr rfl) rfl ?_
    refine st (s_loadB 1 rfl rfl rfl) rfl ?_
    refine st (s_addN _ _ rfl rfl (by omega)) rfl ?_
    refine a_makeSlice (r + 1 + c) (r + 1 + c) rfl rfl (by simp) (by simp) (Nat.le_refl _) rfl rfl (by omega) rfl rfl (fun bl => ?_)
    refine st (s_assign rfl) rfl ?_
    refine Run.nil ?_
    refine pj_then ?_
    refine J_seq ?_
    refine J_seq ?_
    refine J_reg ?_
    refine st (s_fieldAddr rfl) rfl ?_
    refine st (s_loadB 2 rfl rfl rfl) rfl ?_
    refine st (s_len rfl) rfl ?_
    refine st (s_move rfl) rfl ?_
    refine Run.nil ?_
    refine pj_then ?_
    refine J_block ?_
    refine J_sub (Γ' := [(1, _), (2, _), (4, _), (5, _), (6, _), (7, _), (8, _), (9, _), (32, _), (33, _), (44, _), (45, _), (46, _)]) (SubG.cons rfl (VT.le_refl _) (SubG.cons rfl (VT.le_refl _) (SubG.cons rfl (VT.le_refl _) (SubG.cons rfl (VT.le_refl _) (SubG.cons rfl (VT.le_refl _) (SubG.cons rfl (VT.le_refl _) (SubG.cons rfl (VT.le_refl _) (SubG.cons rfl (VT.le_refl _) (SubG.cons rfl (VT.le_refl _) (SubG.cons rfl (VT.le_refl _) (SubG.cons rfl (VT.le_refl _) (SubG.cons rfl (VT.le_refl _) (SubG.cons rfl (VT.le_refl _) (SubG.nil)))))))))))))) (SubM.refl _) ?_
    refine J_loopA (σ := Nat) (Γk := [(1, _), (2, _), (4, _), (5, _), (6, _), (7, _), (8, _), (9, _), (32, _), (33, _), (44, _), (45, _)]) (SubG.cons rfl (VT.le_refl _) (SubG.cons rfl (VT.le_refl _) (SubG.cons rfl (VT.le_refl _) (SubG.cons rfl (VT.le_refl _) (SubG.cons rfl (VT.le_refl _) (SubG.cons rfl (VT.le_refl _) (SubG.cons rfl (VT.le_refl _) (SubG.cons rfl (VT.le_refl _) (SubG.cons rfl (VT.le_refl _) (SubG.cons rfl (VT.le_refl _) (SubG.cons rfl (VT.le_refl _) (SubG.cons rfl (VT.le_refl _) (SubG.nil))))))))))))) (fun i => [(46, one (.int .i64 (i : Nat)))]) (fun i M0 => (M0.set 0 (sliO (some bl) 34 (.agg 2) (r + 1 + c) (r + 1 + c) (fun q => bigT (if q < i then F q j else 0))))) (fun i => i ≤ r) (fun i => r - i) (0) (Nat.zero_le _) (by repeat (first | exact SubG.refl _ | exact SubG.nil | refine SubG.cons rfl (VT.le_refl _) ?_ | (refine SubG.cons rfl (one_le ?_) ?_; (congr 1; first | omega | (simp; omega) | simp)))) (.keep (sliO_le fun q hq => zero_big) (.keep (Own.le_refl _) (.keep (Own.le_refl _) (.nil)))) (fun i hi => ?_)
    refine J_norm (Γ' := [(46, _), (1, _), (2, _), (4, _), (5, _), (6, _), (7, _), (8, _), (9, _), (32, _), (33, _), (44, _), (45, _)]) (M' := [_, _, _]) rfl rfl ?_
    by_cases hi : i < r
    · refine J_seq ?_
      refine J_reg ?_
      refine st (sT (by omega) (s_lt rfl rfl)) rfl ?_
      refine Run.nil ?_
      refine pj_then ?_
      refine J_seq ?_
      refine J_cond1 rfl ?_
      refine J_skip ?_
      refine pj_then ?_
      refine J_seq ?_
      refine J_block ?_
      refine J_seq ?_
      refine J_reg ?_
      refine st (s_move rfl) rfl ?_
      refine st (s_indexIN rfl rfl (by omega)) rfl ?_
      refine st (s_load rfl) rfl ?_
      refine st (s_assign rfl) rfl ?_
      refine st (s_assign rfl) rfl ?_
      refine Run.nil ?_
      refine pj_then ?_
      refine J_reg ?_
      refine st (s_move rfl) rfl ?_
      refine st (s_move rfl) rfl ?_
      refine st (s_move rfl) rfl ?_
      refine st (s_move rfl) rfl ?_
      refine st (s_indexIN rfl rfl (by omega)) rfl ?_
      refine st (s_load rfl) rfl ?_
      refine st (s_indexON rfl rfl (by omega)) rfl ?_
      (refine a_storeE 0 rfl rfl rfl ?_ rfl ?_; omega)
      refine Run.nil ?_
      refine pn_block ?_
      refine pj_then ?_
      refine J_reg ?_
      refine st (s_addN _ 1 rfl rfl (by omega)) rfl ?_
      refine st (s_move rfl) rfl ?_
      refine Run.nil ?_
      refine pj_roundM (i + 1) (hi) (by omega) (by repeat (first | exact SubG.refl _ | exact SubG.nil | refine SubG.cons rfl (VT.le_refl _) ?_ | (refine SubG.cons rfl (one_le ?_) ?_; (congr 1; first | omega | (simp; omega) | simp)))) (.keep (fill_row (h := fun q => F q j) rfl) (.keep (Own.le_refl _) (.keep (Own.le_refl _) (.nil))))
    · have hir : i = r := by omega
      subst hir
      refine J_seq ?_
      refine J_reg ?_
      refine st (sF (by omega) (s_lt rfl rfl)) rfl ?_
      refine Run.nil ?_
      refine pj_then ?_
      refine J_seq ?_
      refine J_cond0 rfl ?_
      refine J_exit ?_
      refine px_then ?_
      refine px_then ?_
      refine px_block ?_
      refine pj_then ?_
      refine J_seq ?_
      refine J_regd 7 mixed (by kernel_rfl) (by decide) ?_
      refine st (s_move rfl) rfl ?_
      refine st (s_fieldAddr rfl) rfl ?_
      refine st (s_loadB 2 rfl rfl rfl) rfl ?_
      refine st (s_move rfl) rfl ?_
      refine st (s_move rfl) rfl ?_
      refine st (s_indexIN rfl rfl (by omega)) rfl ?_
      refine st (s_load rfl) rfl ?_
      refine Run.nil ?_
      refine st (s_indexON rfl rfl (by omega)) rfl ?_
      (refine a_storeE 0 rfl rfl rfl ?_ rfl ?_; omega)
      refine Run.nil ?_
      refine pj_then ?_
      refine J_seq ?_
      refine J_regd 7 mixed (by kernel_rfl) (by decide) ?_
      refine st (s_move rfl) rfl ?_
      refine st (s_fieldAddr rfl) rfl ?_
      refine st (s_loadB 2 rfl rfl rfl) rfl ?_
      refine st (s_addN _ 1 rfl rfl (by omega)) rfl ?_
      refine st (s_move rfl) rfl ?_
      refine st (s_addN _ _ rfl rfl (by omega)) rfl ?_
      refine st (s_callk (h1 ) rfl ⟨VT.le_refl _, trivial⟩) rfl ?_
      refine Run.nil ?_
      refine st (s_indexON rfl rfl (by omega)) rfl ?_
      (refine a_storeE 0 rfl rfl rfl ?_ rfl ?_; omega)
      refine Run.nil ?_
      refine pj_then ?_
      refine J_reg ?_
      refine st (s_move rfl) rfl ?_
      refine st (s_move rfl) rfl ?_
      refine st (s_move rfl) rfl ?_
      refine st (s_indexON rfl rfl (by omega)) rfl ?_
      (refine a_storeE 1 rfl rfl rfl ?_ rfl ?_; omega)
      refine Run.nil ?_
      refine pn_block ?_
      refine pj_then ?_
      refine J_reg ?_
      refine st (s_addN _ 1 rfl rfl (by omega)) rfl ?_
      refine st (s_move rfl) rfl ?_
      refine Run.nil ?_
      refine PJ_open [_] (List.Perm.refl _) (.keep (eqS_open List.mem_cons_self) (EntM.refl _)) (EntG.refl _) ?_
      refine pj_roundM (j + 1) (hj) (by omega) (by repeat (first | exact SubG.refl _ | exact SubG.nil | refine SubG.cons rfl (VT.le_refl _) ?_ | (refine SubG.cons rfl (one_le ?_) ?_; (congr 1; first | omega | (simp; omega) | simp)))) (.keep (Own.le_refl _) (.keep (Own.le_refl _) (.nil)))
  · have hjc : j = c := by omega
    subst hjc
    have hS := lz_eqS (r := r) he.1 hF hb
    have hru := runR_ok j (r + 1 + j) r (eqS r F b) true n (by omega) (by omega) (by omega) he.1 he.b hS
    obtain ⟨A, V, hE⟩ := Lin.elN_EL j (r + 1 + j) true (eqS r F b) r (by omega)
    have hok := elN_ok (r := j) true he.1 hS r
    have hpr := hE.gj.pr
    have hpc := hE.gj.pc
    generalize elN j true (eqS r F b) r = e at *
    unfold elimT at hru
    refine J_open [_] (List.Perm.refl _) (EntM.refl _) (EntG.set (t := 7) (ψ := slT .one j (fun q => if q < j then rowF (r + 1 + j) (eqS r F b q) else one (.slice none 0 0))) rfl (Ent.sl List.mem_cons_self)) ?_
    refine J_seq ?_
    refine J_reg ?_
    refine st (sF (by omega) (s_lt rfl rfl)) rfl ?_
    refine Run.nil ?_
    refine pj_then ?_
    refine J_seq ?_
    refine J_cond0 rfl ?_
    refine J_exit ?_
    refine px_then ?_
    refine px_then ?_
    refine px_block ?_
    refine pj_then ?_
    refine J_seq ?_
    refine J_reg ?_
    refine st (s_move rfl) rfl ?_
    refine st (s_fieldAddr rfl) rfl ?_
    refine st (s_loadB 0 rfl rfl rfl) rfl ?_
    refine st (s_callk (hru ) rfl ⟨((slT_le fun q hq => le_eq (by rw [if_pos hq]))), VT.le_refl _, VT.le_refl _, trivial⟩) rfl ?_
    refine st (s_assign rfl) rfl ?_
    refine Run.nil ?_
    refine pj_then ?_
    refine J_seq ?_
    refine J_seq ?_
    refine J_regd 13 mixed (by kernel_rfl) (by decide) ?_
    refine st (s_move rfl) rfl ?_
    refine st (s_nilCheckI rfl) rfl ?_
    refine st (s_fieldI rfl rfl) rfl ?_
    refine st (s_fieldI rfl rfl) rfl ?_
    refine st (s_load rfl) rfl ?_
    refine st (s_move rfl) rfl ?_
    refine st (s_nilCheckI rfl) rfl ?_
    refine st (s_fieldI rfl rfl) rfl ?_
    refine st (s_load rfl) rfl ?_
    refine st (s_len rfl) rfl ?_
    refine st (s_slice rfl rfl rfl rfl (fun h => nomatch h) (by omega) (by omega) (by omega) (by omega)) rfl ?_
    refine st (s_len rfl) rfl ?_
    refine st (s_move rfl) rfl ?_
    refine Run.nil ?_
    refine Run.nil ?_
    refine pj_then ?_
    refine J_block ?_
    refine J_retype (t := 95) (ψ := one (.int .i64 ((j - e.piv.length : Nat) : Int))) rfl (one_le (by congr 1; omega)) ?_
    refine J_retype (t := 94) (ψ := slT .one (j - e.piv.length) (fun t => slT (.agg 2) (r + 1 + j) (fun k => bigT (e.R (e.piv.length + t) k)))) rfl (slT_le' (by omega) (fun q hq => by rw [Int.toNat_natCast]; rfl)) ?_
    refine J_sub (Γ' := [(2, _), (4, _), (5, _), (6, _), (12, _), (94, _), (95, _), (96, _)]) (SubG.cons rfl (VT.le_refl _) (SubG.cons rfl (VT.le_refl _) (SubG.cons rfl (VT.le_refl _) (SubG.cons rfl (VT.le_refl _) (SubG.cons rfl (VT.le_refl _) (SubG.cons rfl (VT.le_refl _) (SubG.cons rfl (VT.le_refl _) (SubG.cons rfl (VT.le_refl _) (SubG.nil))))))))) (SubM.refl _) ?_
    refine J_loopA (σ := Nat) (Γk := [(2, _), (12, _), (94, _), (95, _)]) (SubG.cons rfl (VT.le_refl _) (SubG.cons rfl (VT.le_refl _) (SubG.cons rfl (VT.le_refl _) (SubG.cons rfl (VT.le_refl _) (SubG.nil))))) (fun t => [(96, one (.int .i64 (t : Nat)))]) (fun t M0 => M0) (fun t => t ≤ j - e.piv.length ∧ ∀ q, e.piv.length ≤ q → q < e.piv.length + t → e.R q r = 0) (fun t => j - e.piv.length - t) (0) (⟨Nat.zero_le _, fun q h1 h2 => absurd h2 (by omega)⟩) (by repeat (first | exact SubG.refl _ | exact SubG.nil | refine SubG.cons rfl (VT.le_refl _) ?_ | (refine SubG.cons rfl (one_le ?_) ?_; (congr 1; first | omega | (simp; omega) | simp)))) (.keep (Own.le_refl _) (.nil)) (fun t ht => ?_)
    refine J_norm (Γ' := [(96, _), (2, _), (12, _), (94, _), (95, _)]) (M' := [_]) rfl rfl ?_
    obtain ⟨ht, hz⟩ := ht
    by_cases htj : t < j - e.piv.length
    · have hsg := sgnI_zero (e.R (e.piv.length + t) r)
      by_cases h0 : e.R (e.piv.length + t) r = 0
      · have hs0 := hsg.2 h0
        refine J_seq ?_
        refine J_reg ?_
        refine st (sT (by omega) (s_lt rfl rfl)) rfl ?_
        refine Run.nil ?_
        refine pj_then ?_
        refine J_seq ?_
        refine J_cond1 rfl ?_
        refine J_skip ?_
        refine pj_then ?_
        refine J_seq ?_
        refine J_block ?_
        refine J_seq ?_
        refine J_reg ?_
        refine st (s_indexIN rfl rfl (by omega)) rfl ?_
        refine st (s_load rfl) rfl ?_
        refine st (s_assign rfl) rfl ?_
        refine Run.nil ?_
        refine pj_then ?_
        refine J_seq ?_
        refine J_reg ?_
        refine st (s_move rfl) rfl ?_
        refine st (s_fieldAddr rfl) rfl ?_
        refine st (s_loadB 0 rfl rfl rfl) rfl ?_
        refine st (s_indexIN rfl rfl (by omega)) rfl ?_
        refine st (s_load rfl) rfl ?_
        refine st (s_callk (SignI_ok _) rfl ⟨VT.le_refl _, trivial⟩) rfl ?_
        refine st (sF (by omega) (s_ne rfl rfl)) rfl ?_
        refine Run.nil ?_
        refine pj_then ?_
        refine J_cond0 rfl ?_
        refine J_skip ?_
        refine pn_block ?_
        refine pj_then ?_
        refine J_reg ?_
        refine st (s_addN _ 1 rfl rfl (by omega)) rfl ?_
        refine st (s_move rfl) rfl ?_
        refine Run.nil ?_
        refine pj_roundM (t + 1) (⟨htj, fun q h1 h2 => by by_cases h3 : q = e.piv.length + t; exact h3 ▸ h0; exact hz q h1 (by omega)⟩) (by omega) (by repeat (first | exact SubG.refl _ | exact SubG.nil | refine SubG.cons rfl (VT.le_refl _) ?_ | (refine SubG.cons rfl (one_le ?_) ?_; (congr 1; first | omega | (simp; omega) | simp)))) (.keep (Own.le_refl _) (.nil))
      · have hs0 : sgnI (e.R (e.piv.length + t) r) ≠ 0 := fun h => h0 (hsg.1 h)
        have hov := over_ok j (fun k => e.R (e.piv.length + t) (r + 1 + k)) (e.R (e.piv.length + t) r) (by omega) h0 ((he.lz hok (hok.R _ _)).small (by decide)) (fun i _ => (he.lz hok (hok.R _ _)).small (by decide))
        unfold rowF at hov
        rw [firstP_some (by omega) (by omega) hz h0]
        dsimp only
        refine J_seq ?_
        refine J_reg ?_
        refine st (sT (by omega) (s_lt rfl rfl)) rfl ?_
        refine Run.nil ?_
        refine pj_then ?_
        refine J_seq ?_
        refine J_cond1 rfl ?_
        refine J_skip ?_
        refine pj_then ?_
        refine J_seq ?_
        refine J_block ?_
        refine J_seq ?_
        refine J_reg ?_
        refine st (s_indexIN rfl rfl (by omega)) rfl ?_
        refine st (s_load rfl) rfl ?_
        refine st (s_assign rfl) rfl ?_
        refine Run.nil ?_
        refine pj_then ?_
        refine J_seq ?_
        refine J_reg ?_
        refine st (s_move rfl) rfl ?_
        refine st (s_fieldAddr rfl) rfl ?_
        refine st (s_loadB 0 rfl rfl rfl) rfl ?_
        refine st (s_indexIN rfl rfl (by omega)) rfl ?_
        refine st (s_load rfl) rfl ?_
        refine st (s_callk (SignI_ok _) rfl ⟨VT.le_refl _, trivial⟩) rfl ?_
        refine st (sT (by assumption) (s_ne rfl rfl)) rfl ?_
        refine Run.nil ?_
        refine pj_then ?_
        refine J_cond1 rfl ?_
        refine J_seq ?_
        refine J_regd 12 mixed (by kernel_rfl) (by decide) ?_
        refine st (s_move rfl) rfl ?_
        refine st (s_fieldAddr rfl) rfl ?_
        refine st (s_loadB 0 rfl rfl rfl) rfl ?_
        refine st (s_addN _ 1 rfl rfl (by omega)) rfl ?_
        refine st (s_slice rfl rfl rfl rfl (fun h => nomatch h) (by omega) (by omega) (by omega) (by omega)) rfl ?_
        refine st (s_move rfl) rfl ?_
        refine st (s_fieldAddr rfl) rfl ?_
        refine st (s_loadB 0 rfl rfl rfl) rfl ?_
        refine st (s_indexIN rfl rfl (by omega)) rfl ?_
        refine st (s_load rfl) rfl ?_
        refine st (s_callk (hov ) rfl ⟨((slT_le' (by omega) (fun q hq => by rw [Int.toNat_natCast]))), VT.le_refl _, trivial⟩) rfl ?_
        refine st (s_assign rfl) rfl ?_
        refine Run.nil ?_
        refine st (s_assign rfl) rfl ?_
        refine st (s_assign rfl) rfl ?_
        refine Run.nil ?_
        refine pj_then ?_
        refine J_ret ?_
        refine pr_block ?_
        refine pr_then ?_
        refine pr_then ?_
        refine pr_block ?_
        refine pr_then ?_
        refine retc3 Try.results24 (.tmp rfl (nil_slT)) (.tmp rfl (VT.le_refl _)) (.tmp rfl (VT.le_refl _))
    · rw [firstP_none (fun q h1 h2 => hz q h1 (by omega))]
      dsimp only
      have hz1 := overM_ok r (fun _ => 0) 1 (by omega) (by decide) small_one (fun _ _ => small_zero)
      unfold rowF at hz1
      refine J_seq ?_
      refine J_reg ?_
      refine st (sF (by omega) (s_lt rfl rfl)) rfl ?_
      refine Run.nil ?_
      refine pj_then ?_
      refine J_seq ?_
      refine J_cond0 rfl ?_
      refine J_exit ?_
      refine px_then ?_
      refine px_then ?_
      refine px_block ?_
      refine pj_then ?_
      refine J_seq ?_
      refine J_regdT 4 mixed (by kernel_rfl) (by decide) ?_
      refine st (s_fieldAddr rfl) rfl ?_
      refine st (s_loadB 0 rfl rfl rfl) rfl ?_
      refine st (s_makeZ r rfl rfl rfl rfl rfl rfl (by omega)) rfl ?_
      skip
      refine st (s_callk h1 rfl ⟨VT.le_refl _, trivial⟩) rfl ?_
      refine Run.nil ?_
      refine a_callM hz1 rfl (And.intro (slT_le fun q hq => zeroB_le) (And.intro (VT.le_refl _) trivial)) rfl rfl (fun bx => ?_)
      refine st (s_assign rfl) rfl ?_
      refine Run.nil ?_
      refine pj_then ?_
      refine J_seq ?_
      refine J_seq ?_
      refine J_reg ?_
      refine st (s_move rfl) rfl ?_
      refine st (s_nilCheckI rfl) rfl ?_
      refine st (s_fieldI rfl rfl) rfl ?_
      refine st (s_load rfl) rfl ?_
      refine st (s_len rfl) rfl ?_
      refine st (s_move rfl) rfl ?_
      refine Run.nil ?_
      refine pj_then ?_
      refine J_block ?_
      refine J_sub (Γ' := [(2, _), (12, _), (15, _), (127, _), (128, _), (129, _)]) (SubG.cons rfl (VT.le_refl _) (SubG.cons rfl (VT.le_refl _) (SubG.cons rfl (VT.le_refl _) (SubG.cons rfl (VT.le_refl _) (SubG.cons rfl (VT.le_refl _) (SubG.cons rfl (VT.le_refl _) (SubG.nil))))))) (SubM.refl _) ?_
      refine J_loopA (σ := Nat) (Γk := [(2, _), (12, _), (15, _), (127, _), (128, _)]) (SubG.cons rfl (VT.le_refl _) (SubG.cons rfl (VT.le_refl _) (SubG.cons rfl (VT.le_refl _) (SubG.cons rfl (VT.le_refl _) (SubG.cons rfl (VT.le_refl _) (SubG.nil)))))) (fun k => [(129, one (.int .i64 (k : Nat)))]) (fun k M0 => (M0.set 0 (sliO (some bx) 63 (.agg 4) r r (fun i => ratT (xsN e r k i))))) (fun k => k ≤ e.piv.length) (fun k => e.piv.length - k) (0) (Nat.zero_le _) (by repeat (first | exact SubG.refl _ | exact SubG.nil | refine SubG.cons rfl (VT.le_refl _) ?_ | (refine SubG.cons rfl (one_le ?_) ?_; (congr 1; first | omega | (simp; omega) | simp)))) (.keep (Own.le_refl _) (.keep (Own.le_refl _) (.nil))) (fun k hk => ?_)
      refine J_norm (Γ' := [(129, _), (2, _), (12, _), (15, _), (127, _), (128, _)]) (M' := [_, _]) rfl rfl ?_
      by_cases hk : k < e.piv.length
      · have hkr : e.piv.getD k 0 < r := hpc k hk
        have hne := el_pivne hE.gj rfl (by omega) hk
        have hq := qOf_ok (e.R k r) (e.R k (e.piv.getD k 0)) hne ((he.lz hok (hok.R _ _)).small (by decide)) ((he.lz hok (hok.R _ _)).small (by decide))
        unfold rowF pivF
        refine J_seq ?_
        refine J_reg ?_
        refine st (sT (by omega) (s_lt rfl rfl)) rfl ?_
        refine Run.nil ?_
        refine pj_then ?_
        refine J_seq ?_
        refine J_cond1 rfl ?_
        refine J_skip ?_
        refine pj_then ?_
        refine J_seq ?_
        refine J_block ?_
        refine J_seq ?_
        refine J_reg ?_
        refine st (s_move rfl) rfl ?_
        refine st (s_indexIN rfl rfl (by omega)) rfl ?_
        refine st (s_load rfl) rfl ?_
        refine st (s_assign rfl) rfl ?_
        refine st (s_assign rfl) rfl ?_
        refine Run.nil ?_
        refine pj_then ?_
        apply J_regG (Γ1 := [(2, _), (12, _), (15, _), (127, _), (128, _), (129, _)]) (M1 := [_, _]) 29 3 [] [28] mixed (by kernel_rfl) (by decide)
        · refine st (s_move rfl) rfl ?_
          refine st (s_move rfl) rfl ?_
          refine st (s_move rfl) rfl ?_
          refine st (s_nilCheckI rfl) rfl ?_
          refine st (s_fieldI rfl rfl) rfl ?_
          refine st (s_fieldI rfl rfl) rfl ?_
          refine st (s_load rfl) rfl ?_
          refine st (s_move rfl) rfl ?_
          refine st (s_indexIN rfl rfl (by omega)) rfl ?_
          refine st (s_load rfl) rfl ?_
          refine st (s_fieldAddr rfl) rfl ?_
          refine st (s_loadB 1 rfl rfl rfl) rfl ?_
          refine st (s_indexIN rfl rfl (by omega)) rfl ?_
          refine st (s_load rfl) rfl ?_
          refine st (s_move rfl) rfl ?_
          refine st (s_nilCheckI rfl) rfl ?_
          refine st (s_fieldI rfl rfl) rfl ?_
          refine st (s_fieldI rfl rfl) rfl ?_
          refine st (s_load rfl) rfl ?_
          refine st (s_move rfl) rfl ?_
          refine st (s_indexIN rfl rfl (by omega)) rfl ?_
          refine st (s_load rfl) rfl ?_
          refine st (s_move rfl) rfl ?_
          refine st (s_indexIN rfl rfl (by omega)) rfl ?_
          refine st (s_load rfl) rfl ?_
          refine st (s_callk (hq ) rfl ⟨VT.le_refl _, VT.le_refl _, trivial⟩) rfl ?_
          refine st (s_move rfl) rfl ?_
          refine st (s_extract rfl rfl) rfl ?_
          refine st (s_extract rfl rfl) rfl ?_
          refine Run.nil ?_
          refine entry0 (Γe := [(2, _), (12, _), (15, _), (127, _), (128, _), (129, _), (134, _), (135, _), (136, _), (161, _)]) (rem := [29, 30]) rfl (by repeat (first | exact SubG.nil | refine SubG.cons rfl (VT.le_refl _) ?_)) rfl ?_
          refine game_one (rem' := [30]) (i := 29) (by kernel_rfl) rfl rfl ?_ (DeadOk.cons rfl (StepG.plain (s_extract rfl rfl) rfl rfl (ltN rfl)) rfl DeadOk.nil)
          refine st (s_indexON rfl rfl (by omega)) rfl ?_
          refine Run.nil ?_
          refine ⟨rfl, ?_⟩
          refine game_one (rem' := []) (i := 30) (by kernel_rfl) rfl rfl ?_ (DeadOk.cons rfl (StepG.plain (s_extract rfl rfl) rfl rfl (ltN rfl)) rfl DeadOk.nil)
          (refine a_storeE 0 rfl rfl rfl ?_ rfl ?_; omega)
          refine Run.nil ?_
          refine ⟨rfl, ?_⟩
          refine game_end (by repeat (first | exact SubG.nil | refine SubG.cons rfl (VT.le_refl _) ?_)) (SubM.refl _) (DeadOk.cons rfl (StepG.plain (s_extract rfl rfl) rfl rfl (ltN rfl)) rfl DeadOk.nil)
        · refine pn_block ?_
          refine pj_then ?_
          refine J_reg ?_
          refine st (s_addN _ 1 rfl rfl (by omega)) rfl ?_
          refine st (s_move rfl) rfl ?_
          refine Run.nil ?_
          refine pj_roundM (k + 1) (hk) (by omega) (by repeat (first | exact SubG.refl _ | exact SubG.nil | refine SubG.cons rfl (VT.le_refl _) ?_ | (refine SubG.cons rfl (one_le ?_) ?_; (congr 1; first | omega | (simp; omega) | simp)))) (.keep (fill_xs) (.keep (Own.le_refl _) (.nil)))
      · have hkp : k = e.piv.length := by omega
        subst hkp
        refine J_seq ?_
        refine J_reg ?_
        refine st (sF (by omega) (s_lt rfl rfl)) rfl ?_
        refine Run.nil ?_
        refine pj_then ?_
        refine J_seq ?_
        refine J_cond0 rfl ?_
        refine J_exit ?_
        refine px_then ?_
        refine px_then ?_
        refine px_block ?_
        refine pj_then ?_
        refine J_seq ?_
        refine J_reg ?_
        refine st (s_move rfl) rfl ?_
        refine st (s_assign rfl) rfl ?_
        refine st (s_assign rfl) rfl ?_
        refine st (s_assign rfl) rfl ?_
        refine Run.nil ?_
        refine pj_then ?_
        refine J_ret ?_
        refine PJ_freeze (t := 4) (i := 0) rfl rfl ?_
        refine retc3 Try.results24 (.tmp rfl (VT.le_refl _)) (.tmp rfl (nil_slT)) (.tmp rfl (VT.le_refl _))
end Tor
end

section
set_option linter.unusedVariables false
set_option linter.unusedSimpArgs false
namespace Tor
open Go Go.RowKit Go.Proofs
def skl (i k : Nat) : List Int := (List.range (if i < k then k - 1 else k)).map fun a => ((Lin.skip i a : Nat) : Int)
theorem skl_len (i k : Nat) : (skl i k).length = if i < k then k - 1 else k := by unfold skl; simp
theorem skl_get {i k a : Nat} (h : a < (skl i k).length) : (skl i k).getD a 0 = ((Lin.skip i a : Nat) : Int) := by
  rw [skl_len] at h
  unfold skl; simp [List.getD, h]
theorem skl_skip (i : Nat) : skl i (i + 1) = skl i i := by unfold skl; rw [if_pos (by omega), if_neg (by omega)]; rfl
theorem skl_next {i k : Nat} (h : k ≠ i) : skl i (k + 1) = skl i k ++ [((k : Nat) : Int)] := by
  unfold skl
  by_cases c : i < k
  · rw [if_pos (by omega), if_pos c, show k + 1 - 1 = (k - 1) + 1 by omega, List.range_succ, List.map_append]
    congr 2
    show [((Lin.skip i (k - 1) : Nat) : Int)] = _
    unfold Lin.skip
    rw [if_neg (by omega)]
    congr 2; omega
  · rw [if_neg (by omega), if_neg c, List.range_succ, List.map_append]
    congr 2
    show [((Lin.skip i k : Nat) : Int)] = _
    unfold Lin.skip
    rw [if_pos (by omega)]
theorem skl_outs {i n : Nat} : outs n (skl i n) = false := by
  unfold outs skl
  rw [List.any_eq_false]
  intro x hx
  obtain ⟨a, ha, rfl⟩ := List.mem_map.1 hx
  rw [List.mem_range] at ha
  have : Lin.skip i a < n := by unfold Lin.skip; split at ha <;> split <;> omega
  simp; omega
abbrev numF (l : List Int) : Nat → VT := fun q => one (.int .i64 (l.getD q 0))
theorem num_snoc {sv : Option Nat} {T : TypeId} {cap : Nat} {l m : List Int} {x : Int} (h : m = l ++ [x]) : Own.le (sliO sv T .one cap (l.length + 1) (fun q => if q < l.length then numF l q else one (.int .i64 x))) (sliO sv T .one cap m.length (numF m)) := by
  subst h
  refine sliO_len (by simp) (fun q hq => ?_)
  show _ = one (Value.int .i64 ((l ++ [x]).getD q 0))
  by_cases h : q < l.length
  · rw [if_pos h]; show one (Value.int .i64 (l.getD q 0)) = _; simp [List.getD, List.getElem?_append_left h]
  · have : q = l.length := by omega
    subst this; rw [if_neg h]; simp [List.getD]
theorem num_same {sv : Option Nat} {T : TypeId} {cap : Nat} {l m : List Int} (h : m = l) : Own.le (sliO sv T .one cap l.length (numF l)) (sliO sv T .one cap m.length (numF m)) := h ▸ Own.le_refl _
def cof (n : Nat) (F : Nat → Nat → Int) (i j : Nat) : Int := Lin.sgnZ (i + j) * Lin.detZ (n - 1) (fun a b => F (Lin.skip i a) (Lin.skip j b))
attribute [local irreducible] Tor.J Tor.PJ Tor.StepO Tor.one Tor.slT Tor.ptrT Tor.aggT Tor.tupT Tor.exT Tor.andT Tor.gT Tor.eP Tor.boxO Tor.sliO Tor.slV Tor.VT.le Tor.Ret Tor.anyT Tor.mapO Tor.metT Tor.xO
attribute [local irreducible] bigT rowF
set_option maxHeartbeats 4000000 in
theorem cofactor_ok (r : Nat) (F : Nat → Nat → Int) (i j n : Nat) (hi : i < r) (hj : j < r) (hr : r ≤ 1024) (he : elim0 n r) (hF : ∀ i j, lz n (F i j)) : Ok Try.prog 46 [matF r r F, one (.int .i64 (i : Nat)), one (.int .i64 (j : Nat))] (bigT (cof r F i j)) := by
  have hl : (skl i r).length = r - 1 := by rw [skl_len, if_pos hi]
  have hm : (skl j r).length = r - 1 := by rw [skl_len, if_pos hj]
  have hpk := Pick_ok r r F (skl i r) (skl j r) (by omega) (by omega) (fun i j => (hF i j).small (Nat.le_trans (small_of_elim he) (by decide)))
  rw [skl_outs, skl_outs, hl, hm] at hpk
  refine Ok.enter Try.func46 rfl Try.ntmps46 rfl (fun w0 O => ?_)
  unfold matF
  refine J_seq ?_
  refine J_reg ?_
  refine a_boxS rfl rfl (ltN rfl) (fun b3 => ?_)
  refine a_alloc (T := 34) rfl (ltN rfl) (fun b6 => ?_)
  refine Run.nil ?_
  refine pj_then ?_
  refine J_seq ?_
  refine J_reg ?_
  refine st (s_assign rfl) rfl ?_
  refine st (s_assign rfl) rfl ?_
  refine Run.nil ?_
  refine pj_then ?_
  refine J_seq ?_
  refine J_seq ?_
  refine J_reg ?_
  refine st (s_fieldAddr rfl) rfl ?_
  refine st (s_loadB 1 rfl rfl rfl) rfl ?_
  refine st (s_move rfl) rfl ?_
  refine Run.nil ?_
  refine pj_then ?_
  refine J_block ?_
  refine J_retype (t := 7) (ψ := one (slV none 0 0)) rfl nil_slV ?_
  refine J_retype (t := 8) (ψ := one (slV none 0 0)) rfl nil_slV ?_
  refine J_addM (sliO_none0 3 .one (numF [])) ?_
  refine J_addM (sliO_none0 3 .one (numF [])) ?_
  refine J_sub (Γ' := [(1, _), (2, _), (3, _), (6, _), (7, _), (8, _), (15, _), (16, _)]) (SubG.cons rfl (VT.le_refl _) (SubG.cons rfl (VT.le_refl _) (SubG.cons rfl (VT.le_refl _) (SubG.cons rfl (VT.le_refl _) (SubG.cons rfl (VT.le_refl _) (SubG.cons rfl (VT.le_refl _) (SubG.cons rfl (VT.le_refl _) (SubG.cons rfl (VT.le_refl _) (SubG.nil))))))))) (SubM.refl _) ?_
  refine J_loopA (σ := Nat × Option Nat × Nat × Option Nat × Nat) (Γk := [(1, _), (2, _), (3, _), (6, _), (15, _)]) (SubG.cons rfl (VT.le_refl _) (SubG.cons rfl (VT.le_refl _) (SubG.cons rfl (VT.le_refl _) (SubG.cons rfl (VT.le_refl _) (SubG.cons rfl (VT.le_refl _) (SubG.nil)))))) (fun s => [(16, one (.int .i64 (s.1 : Nat))), (7, one (slV s.2.1 (skl i s.1).length s.2.2.1)), (8, one (slV s.2.2.2.1 (skl j s.1).length s.2.2.2.2))]) (fun s M0 => ((M0.set 0 (sliO s.2.1 3 .one s.2.2.1 (skl i s.1).length (numF (skl i s.1)))).set 1 (sliO s.2.2.2.1 3 .one s.2.2.2.2 (skl j s.1).length (numF (skl j s.1))))) (fun s => s.1 ≤ r) (fun s => r - s.1) ((0, none, 0, none, 0)) (Nat.zero_le _) (by repeat (first | exact SubG.refl _ | exact SubG.nil | refine SubG.cons rfl (VT.le_refl _) ?_ | (refine SubG.cons rfl (one_le ?_) ?_; (congr 1; first | omega | (simp; omega) | simp)))) (.keep (Own.le_refl _) (.keep (Own.le_refl _) (.keep (Own.le_refl _) (.keep (Own.le_refl _) (.nil))))) (fun s hs => ?_)
  refine J_norm (Γ' := [(16, _), (7, _), (8, _), (1, _), (2, _), (3, _), (6, _), (15, _)]) (M' := [_, _, _, _]) rfl rfl ?_
  obtain ⟨k, svr, capr, svc, capc⟩ := s
  dsimp only at hs ⊢
  have hki := skl_len i k
  have hkj := skl_len j k
  have hkl : (skl i k).length ≤ k := by rw [hki]; split <;> omega
  have hkl' : (skl j k).length ≤ k := by rw [hkj]; split <;> omega
  by_cases hk : k < r
  · by_cases h1 : k = i
    · have e1 : skl i (k + 1) = skl i k := by rw [h1]; exact skl_skip i
      have l1 := congrArg List.length e1
      by_cases h2 : k = j
      · have e2 : skl j (k + 1) = skl j k := by rw [h2]; exact skl_skip j
        have l2 := congrArg List.length e2
        refine J_seq ?_
        refine J_reg ?_
        refine st (sT (by omega) (s_lt rfl rfl)) rfl ?_
        refine Run.nil ?_
        refine pj_then ?_
        refine J_seq ?_
        refine J_cond1 rfl ?_
        refine J_skip ?_
        refine pj_then ?_
        refine J_seq ?_
        refine J_block ?_
        refine J_seq ?_
        refine J_reg ?_
        refine st (s_move rfl) rfl ?_
        refine st (s_assign rfl) rfl ?_
        refine Run.nil ?_
        refine pj_then ?_
        refine J_seq ?_
        refine J_seq ?_
        refine J_reg ?_
        refine st (s_move rfl) rfl ?_
        refine st (s_move rfl) rfl ?_
        refine st (sF (by omega) (s_ne rfl rfl)) rfl ?_
        refine Run.nil ?_
        refine pj_then ?_
        refine J_cond0 rfl ?_
        refine J_skip ?_
        refine pj_then ?_
        refine J_seq ?_
        refine J_reg ?_
        refine st (s_move rfl) rfl ?_
        refine st (s_move rfl) rfl ?_
        refine st (sF (by omega) (s_ne rfl rfl)) rfl ?_
        refine Run.nil ?_
        refine pj_then ?_
        refine J_cond0 rfl ?_
        refine J_skip ?_
        refine pn_block ?_
        refine pj_then ?_
        refine J_reg ?_
        refine st (s_addN _ 1 rfl rfl (by omega)) rfl ?_
        refine st (s_move rfl) rfl ?_
        refine Run.nil ?_
        refine pj_roundM ((k + 1, svr, capr, svc, capc)) (hk) (by omega) (by (repeat (first | exact SubG.nil | refine SubG.cons rfl (VT.le_refl _) ?_ | refine SubG.cons rfl (slV_len (by dsimp only; omega)) ?_))) (.keep (num_same e1) (.keep (num_same e2) (.keep (Own.le_refl _) (.keep (Own.le_refl _) (.nil)))))
      · have e2 := skl_next h2
        have l2 : (skl j (k + 1)).length = (skl j k).length + 1 := by rw [e2, List.length_append]; rfl
        refine J_seq ?_
        refine J_reg ?_
        refine st (sT (by omega) (s_lt rfl rfl)) rfl ?_
        refine Run.nil ?_
        refine pj_then ?_
        refine J_seq ?_
        refine J_cond1 rfl ?_
        refine J_skip ?_
        refine pj_then ?_
        refine J_seq ?_
        refine J_block ?_
        refine J_seq ?_
        refine J_reg ?_
        refine st (s_move rfl) rfl ?_
        refine st (s_assign rfl) rfl ?_
        refine Run.nil ?_
        refine pj_then ?_
        refine J_seq ?_
        refine J_seq ?_
        refine J_reg ?_
        refine st (s_move rfl) rfl ?_
        refine st (s_move rfl) rfl ?_
        refine st (sF (by omega) (s_ne rfl rfl)) rfl ?_
        refine Run.nil ?_
        refine pj_then ?_
        refine J_cond0 rfl ?_
        refine J_skip ?_
        refine pj_then ?_
        refine J_seq ?_
        refine J_reg ?_
        refine st (s_move rfl) rfl ?_
        refine st (s_move rfl) rfl ?_
        refine st (sT (by omega) (s_ne rfl rfl)) rfl ?_
        refine Run.nil ?_
        refine pj_then ?_
        refine J_cond1 rfl ?_
        refine J_reg ?_
        refine st (s_move rfl) rfl ?_
        refine st (s_move rfl) rfl ?_
        refine stS1 rfl rfl rfl rfl ?_
        (refine a_append 1 rfl rfl rfl (leN rfl) ?_ ?_ rfl (ltN rfl) (fun sv32 cap32 => ?_); omega; omega)
        refine st (s_assign rfl) rfl ?_
        refine Run.nil ?_
        refine pn_block ?_
        refine pj_then ?_
        refine J_reg ?_
        refine st (s_addN _ 1 rfl rfl (by omega)) rfl ?_
        refine st (s_move rfl) rfl ?_
        refine Run.nil ?_
        refine pj_roundM ((k + 1, svr, capr, sv32, cap32)) (hk) (by omega) (by (repeat (first | exact SubG.nil | refine SubG.cons rfl (VT.le_refl _) ?_ | refine SubG.cons rfl (slV_len (by dsimp only; omega)) ?_))) (.keep (num_same e1) (.keep (num_snoc e2) (.keep (Own.le_refl _) (.keep (Own.le_refl _) (.nil)))))
    · have e1 := skl_next h1
      have l1 : (skl i (k + 1)).length = (skl i k).length + 1 := by rw [e1, List.length_append]; rfl
      by_cases h2 : k = j
      · have e2 : skl j (k + 1) = skl j k := by rw [h2]; exact skl_skip j
        have l2 := congrArg List.length e2
        refine J_seq ?_
        refine J_reg ?_
        refine st (sT (by omega) (s_lt rfl rfl)) rfl ?_
        refine Run.nil ?_
        refine pj_then ?_
        refine J_seq ?_
        refine J_cond1 rfl ?_
        refine J_skip ?_
        refine pj_then ?_
        refine J_seq ?_
        refine J_block ?_
        refine J_seq ?_
        refine J_reg ?_
        refine st (s_move rfl) rfl ?_
        refine st (s_assign rfl) rfl ?_
        refine Run.nil ?_
        refine pj_then ?_
        refine J_seq ?_
        refine J_seq ?_
        refine J_reg ?_
        refine st (s_move rfl) rfl ?_
        refine st (s_move rfl) rfl ?_
        refine st (sT (by omega) (s_ne rfl rfl)) rfl ?_
        refine Run.nil ?_
        refine pj_then ?_
        refine J_cond1 rfl ?_
        refine J_reg ?_
        refine st (s_move rfl) rfl ?_
        refine st (s_move rfl) rfl ?_
        refine stS1 rfl rfl rfl rfl ?_
        (refine a_append 0 rfl rfl rfl (leN rfl) ?_ ?_ rfl (ltN rfl) (fun sv25 cap25 => ?_); omega; omega)
        refine st (s_assign rfl) rfl ?_
        refine Run.nil ?_
        refine pj_then ?_
        refine J_seq ?_
        refine J_reg ?_
        refine st (s_move rfl) rfl ?_
        refine st (s_move rfl) rfl ?_
        refine st (sF (by omega) (s_ne rfl rfl)) rfl ?_
        refine Run.nil ?_
        refine pj_then ?_
        refine J_cond0 rfl ?_
        refine J_skip ?_
        refine pn_block ?_
        refine pj_then ?_
        refine J_reg ?_
        refine st (s_addN _ 1 rfl rfl (by omega)) rfl ?_
        refine st (s_move rfl) rfl ?_
        refine Run.nil ?_
        refine pj_roundM ((k + 1, sv25, cap25, svc, capc)) (hk) (by omega) (by (repeat (first | exact SubG.nil | refine SubG.cons rfl (VT.le_refl _) ?_ | refine SubG.cons rfl (slV_len (by dsimp only; omega)) ?_))) (.keep (num_snoc e1) (.keep (num_same e2) (.keep (Own.le_refl _) (.keep (Own.le_refl _) (.nil)))))
      · have e2 := skl_next h2
        have l2 : (skl j (k + 1)).length = (skl j k).length + 1 := by rw [e2, List.length_append]; rfl
        refine J_seq ?_
        refine J_reg ?_
        refine st (sT (by omega) (s_lt rfl rfl)) rfl ?_
        refine Run.nil ?_
        refine pj_then ?_
        refine J_seq ?_
        refine J_cond1 rfl ?_
        refine J_skip ?_
        refine pj_then ?_
        refine J_seq ?_
        refine J_block ?_
        refine J_seq ?_
        refine J_reg ?_
        refine st (s_move rfl) rfl ?_
        refine st (s_assign rfl) rfl ?_
        refine Run.nil ?_
        refine pj_then ?_
        refine J_seq ?_
        refine J_seq ?_
        refine J_reg ?_
        refine st (s_move rfl) rfl ?_
        refine st (s_move rfl) rfl ?_
        refine st (sT (by omega) (s_ne rfl rfl)) rfl ?_
        refine Run.nil ?_
        refine pj_then ?_
        refine J_cond1 rfl ?_
        refine J_reg ?_
        refine st (s_move rfl) rfl ?_
        refine st (s_move rfl) rfl ?_
        refine stS1 rfl rfl rfl rfl ?_
        (refine a_append 0 rfl rfl rfl (leN rfl) ?_ ?_ rfl (ltN rfl) (fun sv25 cap25 => ?_); omega; omega)
        refine st (s_assign rfl) rfl ?_
        refine Run.nil ?_
        refine pj_then ?_
        refine J_seq ?_
        refine J_reg ?_
        refine st (s_move rfl) rfl ?_
        refine st (s_move rfl) rfl ?_
        refine st (sT (by omega) (s_ne rfl rfl)) rfl ?_
        refine Run.nil ?_
        refine pj_then ?_
        refine J_cond1 rfl ?_
        refine J_reg ?_
        refine st (s_move rfl) rfl ?_
        refine st (s_move rfl) rfl ?_
        refine stS1 rfl rfl rfl rfl ?_
        (refine a_append 1 rfl rfl rfl (leN rfl) ?_ ?_ rfl (ltN rfl) (fun sv32 cap32 => ?_); omega; omega)
        refine st (s_assign rfl) rfl ?_
        refine Run.nil ?_
        refine pn_block ?_
        refine pj_then ?_
        refine J_reg ?_
        refine st (s_addN _ 1 rfl rfl (by omega)) rfl ?_
        refine st (s_move rfl) rfl ?_
        refine Run.nil ?_
        refine pj_roundM ((k + 1, sv25, cap25, sv32, cap32)) (hk) (by omega) (by (repeat (first | exact SubG.nil | refine SubG.cons rfl (VT.le_refl _) ?_ | refine SubG.cons rfl (slV_len (by dsimp only; omega)) ?_))) (.keep (num_snoc e1) (.keep (num_snoc e2) (.keep (Own.le_refl _) (.keep (Own.le_refl _) (.nil)))))
  · have hkr : k = r := by omega
    subst hkr
    have hd := Det_ok (k - 1) (pickF (skl i k) (skl j k) F) n (by omega) (he.le (Nat.sub_le _ _)) (fun a b => hF _ _)
    have hds := det_lz (he.le (Nat.sub_le k 1)) (F := pickF (skl i k) (skl j k) F) (fun a b => hF _ _)
    have hdet : Lin.detZ (k - 1) (pickF (skl i k) (skl j k) F) = Lin.detZ (k - 1) (fun a b => F (Lin.skip i a) (Lin.skip j b)) := Lin.detZ_congr fun a b ha hb => by
      show F ((skl i k).getD a 0).toNat ((skl j k).getD b 0).toNat = _
      rw [skl_get (by omega), skl_get (by omega), Int.toNat_natCast, Int.toNat_natCast]
    unfold cof Lin.sgnZ
    rw [hdet] at hd hds
    have hneg := fun d (h : lz 1099511627700 d) => NegI_ok d (h.small (by decide))
    have hpk' : Ok Try.prog 73 [matF k k F, numT .i64 (skl i k), numT .i64 (skl j k)] (tupT [matF (k - 1) (k - 1) (pickF (skl i k) (skl j k) F), one (.int .i64 0)]) := by simpa [resMT] using hpk
    clear hpk
    unfold matF numT at *
    generalize Lin.detZ (k - 1) (fun a b => F (Lin.skip i a) (Lin.skip j b)) = d at *
    have hneg' := hneg d hds
    refine J_open [_] (List.Perm.refl _) (EntM.refl _) (EntG.set (t := 7) rfl (Ent.sl List.mem_cons_self)) ?_
    refine J_open [_] (List.Perm.refl _) (EntM.refl _) (EntG.set (t := 8) rfl (Ent.sl List.mem_cons_self)) ?_
    by_cases hp : (i + j) % 2 = 0
    · rw [if_pos hp, Int.one_mul]
      refine J_seq ?_
      refine J_reg ?_
      refine st (sF (by omega) (s_lt rfl rfl)) rfl ?_
      refine Run.nil ?_
      refine pj_then ?_
      refine J_seq ?_
      refine J_cond0 rfl ?_
      refine J_exit ?_
      refine px_then ?_
      refine px_then ?_
      refine px_block ?_
      refine pj_then ?_
      refine J_seq ?_
      refine J_reg ?_
      refine st (s_loadW 1 rfl rfl) rfl ?_
      refine st (s_move rfl) rfl ?_
      refine st (s_move rfl) rfl ?_
      refine st (s_callk (hpk' ) rfl ⟨VT.le_refl _, VT.le_refl _, VT.le_refl _, trivial⟩) rfl ?_
      refine st (s_move rfl) rfl ?_
      refine st (s_extract rfl rfl) rfl ?_
      refine st (s_extract rfl rfl) rfl ?_
      refine a_allocS (T := 29) rfl rfl rfl (fun b10 => ?_)
      refine a_storeW 0 rfl rfl rfl rfl ?_
      refine st (s_assign rfl) rfl ?_
      refine Run.nil ?_
      refine pj_then ?_
      refine J_seq ?_
      refine J_reg ?_
      refine st (s_loadW 0 rfl rfl) rfl ?_
      refine st (s_callk (hd ) rfl ⟨VT.le_refl _, trivial⟩) rfl ?_
      refine st (s_move rfl) rfl ?_
      refine st (s_extract rfl rfl) rfl ?_
      refine st (s_extract rfl rfl) rfl ?_
      refine a_alloc (T := 34) rfl (ltN rfl) (fun b12 => ?_)
      refine a_storeB 0 rfl rfl rfl rfl rfl (leN rfl) rfl ?_
      refine st (s_assign rfl) rfl ?_
      refine Run.nil ?_
      refine pj_then ?_
      refine J_seq ?_
      refine J_seq ?_
      refine J_reg ?_
      refine st (s_move rfl) rfl ?_
      refine st (s_move rfl) rfl ?_
      refine st (s_addN _ _ rfl rfl (by omega)) rfl ?_
      refine st (s_remN 2 rfl rfl rfl (by decide)) rfl ?_
      refine st (sF (by omega) (s_eq rfl rfl)) rfl ?_
      refine Run.nil ?_
      refine pj_then ?_
      refine J_cond0 rfl ?_
      refine J_skip ?_
      refine pj_then ?_
      refine J_seq ?_
      refine J_reg ?_
      refine st (s_loadB 0 rfl rfl rfl) rfl ?_
      refine a_storeB 2 rfl rfl rfl rfl rfl (leN rfl) rfl ?_
      refine Run.nil ?_
      refine pj_then ?_
      refine J_ret ?_
      refine retc1 Try.results46 (.cellB 2 rfl rfl rfl (VT.le_refl _))
    · rw [if_neg hp, show (-1 : Int) * d = -d by omega]
      refine J_seq ?_
      refine J_reg ?_
      refine st (sF (by omega) (s_lt rfl rfl)) rfl ?_
      refine Run.nil ?_
      refine pj_then ?_
      refine J_seq ?_
      refine J_cond0 rfl ?_
      refine J_exit ?_
      refine px_then ?_
      refine px_then ?_
      refine px_block ?_
      refine pj_then ?_
      refine J_seq ?_
      refine J_reg ?_
      refine st (s_loadW 1 rfl rfl) rfl ?_
      refine st (s_move rfl) rfl ?_
      refine st (s_move rfl) rfl ?_
      refine st (s_callk (hpk' ) rfl ⟨VT.le_refl _, VT.le_refl _, VT.le_refl _, trivial⟩) rfl ?_
      refine st (s_move rfl) rfl ?_
      refine st (s_extract rfl rfl) rfl ?_
      refine st (s_extract rfl rfl) rfl ?_
      refine a_allocS (T := 29) rfl rfl rfl (fun b10 => ?_)
      refine a_storeW 0 rfl rfl rfl rfl ?_
      refine st (s_assign rfl) rfl ?_
      refine Run.nil ?_
      refine pj_then ?_
      refine J_seq ?_
      refine J_reg ?_
      refine st (s_loadW 0 rfl rfl) rfl ?_
      refine st (s_callk (hd ) rfl ⟨VT.le_refl _, trivial⟩) rfl ?_
      refine st (s_move rfl) rfl ?_
      refine st (s_extract rfl rfl) rfl ?_
      refine st (s_extract rfl rfl) rfl ?_
      refine a_alloc (T := 34) rfl (ltN rfl) (fun b12 => ?_)
      refine a_storeB 0 rfl rfl rfl rfl rfl (leN rfl) rfl ?_
      refine st (s_assign rfl) rfl ?_
      refine Run.nil ?_
      refine pj_then ?_
      refine J_seq ?_
      refine J_seq ?_
      refine J_reg ?_
      refine st (s_move rfl) rfl ?_
      refine st (s_move rfl) rfl ?_
      refine st (s_addN _ _ rfl rfl (by omega)) rfl ?_
      refine st (s_remN 2 rfl rfl rfl (by decide)) rfl ?_
      refine st (sT (by omega) (s_eq rfl rfl)) rfl ?_
      refine Run.nil ?_
      refine pj_then ?_
      refine J_cond1 rfl ?_
      refine J_seq ?_
      refine J_reg ?_
      refine st (s_loadB 0 rfl rfl rfl) rfl ?_
      refine st (s_callk (hneg _ (by assumption)) rfl ⟨VT.le_refl _, trivial⟩) rfl ?_
      refine a_storeB 2 rfl rfl rfl rfl rfl (leN rfl) rfl ?_
      refine Run.nil ?_
      refine pj_then ?_
      refine J_ret ?_
      refine pr_then ?_
      refine retc1 Try.results46 (.cellB 2 rfl rfl rfl (VT.le_refl _))
end Tor
end

section
set_option linter.unusedVariables false
set_option linter.unusedSimpArgs false
namespace Tor
open Go Go.RowKit Go.Proofs
attribute [local irreducible] Tor.J Tor.PJ Tor.StepO Tor.one Tor.slT Tor.ptrT Tor.aggT Tor.tupT Tor.exT Tor.andT Tor.gT Tor.eP Tor.boxO Tor.sliO Tor.slV Tor.VT.le Tor.Ret Tor.anyT Tor.mapO Tor.metT Tor.xO
attribute [local irreducible] bigT ratT
set_option maxHeartbeats 4000000 in
theorem r8Ints_ok (n m : Nat) (f g : Nat → Int) (hn : n ≤ 1048576) : Ok Try.prog 33 [slT .one n (fun q => one (.int .i64 (f q))), slT .one m (fun q => one (.int .i64 (g q)))] (one (.bool (decide (n = m ∧ ∀ i, i < n → f i = g i)))) := by
  refine Ok.enter Try.func33 rfl Try.ntmps33 rfl (fun w O => ?_)
  by_cases h : n = m
  · subst h
    refine J_seq ?_
    refine J_reg ?_
    refine st (s_assign rfl) rfl ?_
    refine Run.nil ?_
    refine pj_then ?_
    refine J_seq ?_
    refine J_seq ?_
    refine J_reg ?_
    refine st (s_move rfl) rfl ?_
    refine st (s_len rfl) rfl ?_
    refine st (s_move rfl) rfl ?_
    refine st (s_len rfl) rfl ?_
    refine st (sF (by omega) (s_ne rfl rfl)) rfl ?_
    refine Run.nil ?_
    refine pj_then ?_
    refine J_cond0 rfl ?_
    refine J_skip ?_
    refine pj_then ?_
    refine J_seq ?_
    refine J_seq ?_
    refine J_reg ?_
    refine st (s_assign rfl) rfl ?_
    refine Run.nil ?_
    refine pj_then ?_
    refine J_block ?_
    refine J_sub (Γ' := [(0, _), (1, _), (4, _), (5, _)]) (SubG.cons rfl (VT.le_refl _) (SubG.cons rfl (VT.le_refl _) (SubG.cons rfl (VT.le_refl _) (SubG.cons rfl (VT.le_refl _) (SubG.nil))))) (SubM.refl _) ?_
    refine J_loopA (σ := Nat) (Γk := [(0, _), (1, _)]) (SubG.cons rfl (VT.le_refl _) (SubG.cons rfl (VT.le_refl _) (SubG.nil))) (fun i => [(5, one (.int .i64 (i : Nat)))]) (fun i M0 => M0) (fun i => i ≤ n ∧ ∀ q, q < i → f q = g q) (fun i => n - i) (0) (⟨Nat.zero_le _, fun q h => absurd h (Nat.not_lt_zero _)⟩) (by repeat (first | exact SubG.refl _ | exact SubG.nil | refine SubG.cons rfl (VT.le_refl _) ?_ | (refine SubG.cons rfl (one_le ?_) ?_; (congr 1; first | omega | (simp; omega) | simp)))) (.nil) (fun i hi => ?_)
    refine J_norm (Γ' := [(5, _), (0, _), (1, _)]) (M' := []) rfl rfl ?_
    obtain ⟨hi, hq⟩ := hi
    by_cases hin : i < n
    · by_cases he : f i = g i
      · refine J_seq ?_
        refine J_seq ?_
        refine J_reg ?_
        refine st (s_move rfl) rfl ?_
        refine st (s_move rfl) rfl ?_
        refine st (s_len rfl) rfl ?_
        refine st (sT (by omega) (s_lt rfl rfl)) rfl ?_
        refine Run.nil ?_
        refine pj_then ?_
        refine J_cond1 rfl ?_
        refine J_skip ?_
        refine pj_then ?_
        refine J_seq ?_
        refine J_block ?_
        refine J_seq ?_
        refine J_regd 9 mixed (by kernel_rfl) (by decide) ?_
        refine st (s_move rfl) rfl ?_
        refine st (s_move rfl) rfl ?_
        refine st (s_indexIN rfl rfl (by omega)) rfl ?_
        refine st (s_load rfl) rfl ?_
        refine st (s_move rfl) rfl ?_
        refine st (s_move rfl) rfl ?_
        refine st (s_indexIN rfl rfl (by omega)) rfl ?_
        refine st (s_load rfl) rfl ?_
        refine st (sF (by omega) (s_ne rfl rfl)) rfl ?_
        refine Run.nil ?_
        refine Run.nil ?_
        refine pj_then ?_
        refine J_cond0 rfl ?_
        refine J_skip ?_
        refine pn_block ?_
        refine pj_then ?_
        refine J_reg ?_
        refine st (s_move rfl) rfl ?_
        refine st (s_addN _ 1 rfl rfl (by omega)) rfl ?_
        refine st (s_assign rfl) rfl ?_
        refine Run.nil ?_
        refine pj_roundM (i + 1) (⟨hin, fun q h => by by_cases h3 : q = i; exact h3 ▸ he; exact hq q (by omega)⟩) (by omega) (by repeat (first | exact SubG.refl _ | exact SubG.nil | refine SubG.cons rfl (VT.le_refl _) ?_ | (refine SubG.cons rfl (one_le ?_) ?_; (congr 1; first | omega | (simp; omega) | simp)))) (.nil)
      · rw [decide_eq_false (fun h => he (h.2 i hin))]
        refine J_seq ?_
        refine J_seq ?_
        refine J_reg ?_
        refine st (s_move rfl) rfl ?_
        refine st (s_move rfl) rfl ?_
        refine st (s_len rfl) rfl ?_
        refine st (sT (by omega) (s_lt rfl rfl)) rfl ?_
        refine Run.nil ?_
        refine pj_then ?_
        refine J_cond1 rfl ?_
        refine J_skip ?_
        refine pj_then ?_
        refine J_seq ?_
        refine J_block ?_
        refine J_seq ?_
        refine J_regd 9 mixed (by kernel_rfl) (by decide) ?_
        refine st (s_move rfl) rfl ?_
        refine st (s_move rfl) rfl ?_
        refine st (s_indexIN rfl rfl (by omega)) rfl ?_
        refine st (s_load rfl) rfl ?_
        refine st (s_move rfl) rfl ?_
        refine st (s_move rfl) rfl ?_
        refine st (s_indexIN rfl rfl (by omega)) rfl ?_
        refine st (s_load rfl) rfl ?_
        refine st (sT (by assumption) (s_ne rfl rfl)) rfl ?_
        refine Run.nil ?_
        refine Run.nil ?_
        refine pj_then ?_
        refine J_cond1 rfl ?_
        refine J_seq ?_
        refine J_reg ?_
        refine st (s_assign rfl) rfl ?_
        refine Run.nil ?_
        refine pj_then ?_
        refine J_ret ?_
        refine pr_block ?_
        refine pr_then ?_
        refine pr_then ?_
        refine pr_block ?_
        refine pr_then ?_
        refine retc1 Try.results33 (.tmp rfl (VT.le_refl _))
    · rw [decide_eq_true ⟨rfl, fun q h => hq q (by omega)⟩]
      refine J_seq ?_
      refine J_seq ?_
      refine J_reg ?_
      refine st (s_move rfl) rfl ?_
      refine st (s_move rfl) rfl ?_
      refine st (s_len rfl) rfl ?_
      refine st (sF (by omega) (s_lt rfl rfl)) rfl ?_
      refine Run.nil ?_
      refine pj_then ?_
      refine J_cond0 rfl ?_
      refine J_exit ?_
      refine px_then ?_
      refine px_then ?_
      refine px_block ?_
      refine pj_then ?_
      refine J_seq ?_
      refine J_reg ?_
      refine st (s_assign rfl) rfl ?_
      refine Run.nil ?_
      refine pj_then ?_
      refine J_ret ?_
      refine retc1 Try.results33 (.tmp rfl (VT.le_refl _))
  · rw [decide_eq_false (fun k => h k.1)]
    refine J_seq ?_
    refine J_reg ?_
    refine st (s_assign rfl) rfl ?_
    refine Run.nil ?_
    refine pj_then ?_
    refine J_seq ?_
    refine J_seq ?_
    refine J_reg ?_
    refine st (s_move rfl) rfl ?_
    refine st (s_len rfl) rfl ?_
    refine st (s_move rfl) rfl ?_
    refine st (s_len rfl) rfl ?_
    refine st (sT (by omega) (s_ne rfl rfl)) rfl ?_
    refine Run.nil ?_
    refine pj_then ?_
    refine J_cond1 rfl ?_
    refine J_seq ?_
    refine J_reg ?_
    refine st (s_assign rfl) rfl ?_
    refine Run.nil ?_
    refine pj_then ?_
    refine J_ret ?_
    refine pr_then ?_
    refine retc1 Try.results33 (.tmp rfl (VT.le_refl _))
end Tor
end

section
set_option linter.unusedVariables false
set_option linter.unusedSimpArgs false
namespace Tor
open Go Go.RowKit Go.Proofs
attribute [local irreducible] Tor.J Tor.PJ Tor.StepO Tor.one Tor.slT Tor.ptrT Tor.aggT Tor.tupT Tor.exT Tor.andT Tor.gT Tor.eP Tor.boxO Tor.sliO Tor.slV Tor.VT.le Tor.Ret Tor.anyT Tor.mapO Tor.metT Tor.xO
attribute [local irreducible] bigT rowF Tor.rowsO
end Tor
end

section
set_option linter.unusedVariables false
set_option linter.unusedSimpArgs false
namespace Tor
open Go Go.RowKit Go.Proofs
def wideF (n : Nat) (F : Nat → Nat → Int) : Nat → Nat → Int := fun i k => if k < n then F i k else (if i = k - n then 1 else 0)
def adjE (n : Nat) (F : Nat → Nat → Int) (e : ElS) : Nat → Nat → Int := fun i j => if e.piv.length < n - 1 then 0 else if e.piv.length < n then cof n F j i else if e.odd then -(e.R i (n + j)) else e.R i (n + j)
theorem lz_wide {n r : Nat} {F : Nat → Nat → Int} (hn : 1 ≤ n) (hF : ∀ i j, lz n (F i j)) : ∀ i j, lz n (wideF r F i j) := fun i j => by
  unfold wideF; split
  · exact hF _ _
  · split
    · exact lz_one hn
    · exact lz_zero _
attribute [local irreducible] Tor.J Tor.PJ Tor.StepO Tor.one Tor.slT Tor.ptrT Tor.aggT Tor.tupT Tor.exT Tor.andT Tor.gT Tor.eP Tor.boxO Tor.sliO Tor.slV Tor.VT.le Tor.Ret Tor.anyT Tor.mapO Tor.metT Tor.xO
attribute [local irreducible] bigT rowF Tor.rowsO
set_option maxHeartbeats 4000000 in
theorem AdjugateS_ok (r c : Nat) (F : Nat → Nat → Int) (h : r ≠ c) : Ok Try.prog 18 [matF r c F] (tupT [matF 0 0 (fun _ _ => 0), one (.int .i64 50)]) := by
  have hs := square_ok r c F
  rw [decide_eq_false h] at hs
  refine Ok.enter Try.func18 rfl Try.ntmps18 rfl (fun w O => ?_)
  refine J_seq ?_
  refine J_reg ?_
  refine a_boxS rfl rfl (ltN rfl) (fun b1 => ?_)
  refine a_allocS (T := 29) rfl rfl rfl (fun b2 => ?_)
  refine st (s_assign rfl) rfl ?_
  refine Run.nil ?_
  refine pj_then ?_
  refine J_seq ?_
  refine J_seq ?_
  refine J_reg ?_
  refine st (s_loadW 1 rfl rfl) rfl ?_
  refine st (s_callk (hs ) rfl ⟨VT.le_refl _, trivial⟩) rfl ?_
  refine st (s_not rfl) rfl ?_
  refine Run.nil ?_
  refine pj_then ?_
  refine J_cond1 rfl ?_
  refine J_seq ?_
  refine J_reg ?_
  refine stB rfl rfl rfl ?_
  refine BuildK.nil ?_
  refine a_storeW 0 rfl rfl rfl rfl ?_
  refine st (s_assign rfl) rfl ?_
  refine Run.nil ?_
  refine pj_then ?_
  refine J_ret ?_
  refine pr_then ?_
  refine retc2 Try.results18 (.cellW 0 rfl rfl (zero_mat _)) (.tmp rfl (VT.le_refl _))
set_option maxHeartbeats 4000000 in
theorem Adjugate_ok (r : Nat) (F : Nat → Nat → Int) (n : Nat) (hr : r ≤ 1024) (he : elim0 n r) (hF : ∀ i j, lz n (F i j)) : Ok Try.prog 18 [matF r r F] (tupT [matF r r (adjE r F (elN r true (wideF r F) r)), one (.int .i64 0)]) := by
  have hs := square_ok r r F
  rw [decide_eq_true rfl] at hs
  have hid := Identity_ok r (by omega)
  have hsm : ∀ i j, small (F i j) := fun i j => (hF i j).small (Nat.le_trans (small_of_elim he) (by decide))
  have hbe := Beside_ok r r F r r (fun i j => if i = j then 1 else 0) (by omega) (by omega) (by omega) hsm (fun i j => by split; exact small_one; exact small_zero)
  rw [decide_eq_true rfl] at hbe
  have hbe' : Ok Try.prog 43 [matF r r F, matF r r (fun i j => if i = j then 1 else 0)] (tupT [matF r (r + r) (wideF r F), one (.int .i64 0)]) := by
    unfold resMT at hbe
    rw [if_pos rfl, if_pos rfl, if_pos rfl] at hbe
    exact hbe
  clear hbe
  have hW := lz_wide (r := r) he.1 hF
  have hru := runR_ok r (r + r) r (wideF r F) true n (by omega) (by omega) (by omega) he.1 he.b hW
  obtain ⟨A, V, hE⟩ := Lin.elN_EL r (r + r) true (wideF r F) r (by omega)
  have hok := elN_ok (r := r) true he.1 hW r
  have hpr := hE.gj.pr
  have hcof := fun i j hi hj => cofactor_ok r F i j n hi hj hr he hF
  have hneg := fun d (h : lz 1099511627700 d) => NegI_ok d (h.small (by decide))
  generalize elN r true (wideF r F) r = e at *
  unfold elimT at hru
  generalize hG : adjE r F e = G
  unfold matF at *
  refine Ok.enter Try.func18 rfl Try.ntmps18 rfl (fun w O => ?_)
  refine J_seq ?_
  refine J_reg ?_
  refine a_boxS rfl rfl (ltN rfl) (fun b1 => ?_)
  refine a_allocS (T := 29) rfl rfl rfl (fun b2 => ?_)
  refine st (s_assign rfl) rfl ?_
  refine Run.nil ?_
  refine pj_then ?_
  refine J_seq ?_
  refine J_seq ?_
  refine J_reg ?_
  refine st (s_loadW 1 rfl rfl) rfl ?_
  refine st (s_callk (hs ) rfl ⟨VT.le_refl _, trivial⟩) rfl ?_
  refine st (s_not rfl) rfl ?_
  refine Run.nil ?_
  refine pj_then ?_
  refine J_cond0 rfl ?_
  refine J_skip ?_
  refine pj_then ?_
  refine J_seq ?_
  refine J_reg ?_
  refine st (s_fieldAddr rfl) rfl ?_
  refine st (s_loadB 1 rfl rfl rfl) rfl ?_
  refine st (s_assign rfl) rfl ?_
  refine Run.nil ?_
  refine pj_then ?_
  refine J_seq ?_
  refine J_regU2 mixed (by kernel_rfl) (by kernel_rfl) ?_
  refine ux (fun B => s_loadW 1 rfl rfl) rfl rfl ?_
  refine ux (fun B => s_move rfl) rfl rfl ?_
  refine uxk (hid ) rfl ⟨VT.le_refl _, trivial⟩ rfl ?_
  refine uxk (hbe' ) rfl ⟨VT.le_refl _, VT.le_refl _, trivial⟩ rfl ?_
  refine ux (fun B => s_move rfl) rfl rfl ?_
  refine ux (fun B => s_extract rfl rfl) rfl rfl ?_
  refine ux (fun B => s_extract rfl rfl) rfl rfl ?_
  refine ua rfl ?_
  refine us rfl ?_
  refine ux (fun B => s_assign rfl) rfl rfl ?_
  refine RunU.nil (fun γ => ?_)
  refine PJ_normM (M' := [_, _, _]) rfl ?_
  refine PJ_sub (SubG.refl _) (.keep box_flat (SubM.refl _)) ?_
  refine pj_then ?_
  refine J_seq ?_
  refine J_reg ?_
  refine st (s_fieldAddr rfl) rfl ?_
  refine st (s_loadB 0 rfl rfl rfl) rfl ?_
  refine st (s_move rfl) rfl ?_
  refine st (s_callk (hru ) rfl ⟨VT.le_refl _, VT.le_refl _, VT.le_refl _, trivial⟩) rfl ?_
  refine st (s_assign rfl) rfl ?_
  refine Run.nil ?_
  refine pj_then ?_
  refine J_seq ?_
  refine J_reg ?_
  refine st (s_move rfl) rfl ?_
  refine st (s_move rfl) rfl ?_
  refine a_callM (New_ok _ _ (by omega) (by omega)) rfl ⟨VT.le_refl _, VT.le_refl _, trivial⟩ rfl rfl (fun s30 => ?_)
  refine a_allocS (T := 29) rfl rfl rfl (fun b8 => ?_)
  refine a_storeW 0 rfl rfl rfl rfl ?_
  refine Run.nil ?_
  refine pj_then ?_
  refine J_seq ?_
  refine J_seq ?_
  refine J_reg ?_
  refine st (s_move rfl) rfl ?_
  refine st (s_nilCheckI rfl) rfl ?_
  refine st (s_fieldI rfl rfl) rfl ?_
  refine st (s_load rfl) rfl ?_
  refine st (s_len rfl) rfl ?_
  refine st (s_move rfl) rfl ?_
  refine st (s_sub rfl rfl (wrap_i64 (by omega) (by omega))) rfl ?_
  refine st (s_lt rfl rfl) rfl ?_
  refine Run.nil ?_
  refine pj_then ?_
  obtain ⟨⟨bs, sv1, cap1⟩, hlen, hsv⟩ := s30
  simp only at hlen hsv
  unfold newT
  dsimp only
  by_cases hp1 : e.piv.length < r - 1
  · have hp1' : (e.piv.length : Int) < (r : Int) - 1 := by omega
    refine J_condT rfl (by assumption) ?_
    refine J_seq ?_
    refine J_reg ?_
    refine st (s_loadW 0 rfl rfl) rfl ?_
    refine a_storeW 4 rfl rfl rfl rfl ?_
    refine st (s_assign rfl) rfl ?_
    refine Run.nil ?_
    refine pj_then ?_
    refine J_ret ?_
    refine pr_then ?_
    refine PJ_open [outO sv1 cap1 r r bs, ownR r bs (fun _ _ => 0)] (perm6 _ _ _ _ _ _) (.keep (EntO.refl _) (.keep (EntO.refl _) (.keep (EntO.box (newT_open hlen ⟨by simp, by simp, by simp⟩)) (.keep (EntO.refl _) .nil)))) (EntG.refl _) ?_
    refine retc2 Try.results18 (.cellW 2 rfl rfl ((matF_le fun a b ha hb => by rw [← hG]; unfold adjE; rw [if_pos hp1]))) (.tmp rfl (VT.le_refl _))
  · have hp1' : ¬ (e.piv.length : Int) < (r : Int) - 1 := by omega
    refine J_condF rfl (by assumption) ?_
    refine J_skip ?_
    refine pj_then ?_
    refine J_seq ?_
    refine J_seq ?_
    refine J_reg ?_
    refine st (s_move rfl) rfl ?_
    refine st (s_move rfl) rfl ?_
    refine Run.nil ?_
    refine pj_then ?_
    refine J_block ?_
    refine J_sub (Γ' := [(1, _), (2, _), (3, _), (4, _), (7, _), (8, _), (40, _), (41, _)]) (SubG.cons rfl (VT.le_refl _) (SubG.cons rfl (VT.le_refl _) (SubG.cons rfl (VT.le_refl _) (SubG.cons rfl (VT.le_refl _) (SubG.cons rfl (VT.le_refl _) (SubG.cons rfl (VT.le_refl _) (SubG.cons rfl (VT.le_refl _) (SubG.cons rfl (VT.le_refl _) (SubG.nil))))))))) (SubM.refl _) ?_
    refine J_loopA (σ := Nat) (Γk := [(1, _), (2, _), (3, _), (4, _), (7, _), (8, _), (40, _)]) (SubG.cons rfl (VT.le_refl _) (SubG.cons rfl (VT.le_refl _) (SubG.cons rfl (VT.le_refl _) (SubG.cons rfl (VT.le_refl _) (SubG.cons rfl (VT.le_refl _) (SubG.cons rfl (VT.le_refl _) (SubG.cons rfl (VT.le_refl _) (SubG.nil)))))))) (fun i => [(41, one (.int .i64 (i : Nat)))]) (fun i M0 => (M0.set 2 (ownR r bs (fill2 G i 0)))) (fun i => i ≤ r) (fun i => r - i) (0) (Nat.zero_le _) (by repeat (first | exact SubG.refl _ | exact SubG.nil | refine SubG.cons rfl (VT.le_refl _) ?_ | (refine SubG.cons rfl (one_le ?_) ?_; (congr 1; first | omega | (simp; omega) | simp)))) (.keep (Own.le_refl _) (.keep (Own.le_refl _) (.keep (ownR_le fun i j hi hj => by simp [fill2]) (.keep (Own.le_refl _) (.keep (Own.le_refl _) (.keep (Own.le_refl _) (.nil))))))) (fun i hi => ?_)
    refine J_norm (Γ' := [(41, _), (1, _), (2, _), (3, _), (4, _), (7, _), (8, _), (40, _)]) (M' := [_, _, _, _, _, _]) rfl rfl ?_
    by_cases hi' : i < r
    · obtain ⟨bo, rfl⟩ := sv_some hsv (by omega)
      refine J_seq ?_
      refine J_reg ?_
      refine st (sT (by omega) (s_lt rfl rfl)) rfl ?_
      refine Run.nil ?_
      refine pj_then ?_
      refine J_seq ?_
      refine J_cond1 rfl ?_
      refine J_skip ?_
      refine pj_then ?_
      refine J_seq ?_
      refine J_block ?_
      refine J_seq ?_
      refine J_reg ?_
      refine st (s_move rfl) rfl ?_
      refine st (s_assign rfl) rfl ?_
      refine Run.nil ?_
      refine pj_then ?_
      refine J_seq ?_
      refine J_reg ?_
      refine st (s_move rfl) rfl ?_
      refine st (s_move rfl) rfl ?_
      refine Run.nil ?_
      refine pj_then ?_
      refine J_block ?_
      refine J_sub (Γ' := [(1, _), (2, _), (3, _), (4, _), (7, _), (8, _), (9, _), (40, _), (41, _), (44, _), (45, _)]) (SubG.cons rfl (VT.le_refl _) (SubG.cons rfl (VT.le_refl _) (SubG.cons rfl (VT.le_refl _) (SubG.cons rfl (VT.le_refl _) (SubG.cons rfl (VT.le_refl _) (SubG.cons rfl (VT.le_refl _) (SubG.cons rfl (VT.le_refl _) (SubG.cons rfl (VT.le_refl _) (SubG.cons rfl (VT.le_refl _) (SubG.cons rfl (VT.le_refl _) (SubG.cons rfl (VT.le_refl _) (SubG.nil)))))))))))) (SubM.refl _) ?_
      refine J_loopA (σ := Nat) (Γk := [(1, _), (2, _), (3, _), (4, _), (7, _), (8, _), (9, _), (40, _), (41, _), (44, _)]) (SubG.cons rfl (VT.le_refl _) (SubG.cons rfl (VT.le_refl _) (SubG.cons rfl (VT.le_refl _) (SubG.cons rfl (VT.le_refl _) (SubG.cons rfl (VT.le_refl _) (SubG.cons rfl (VT.le_refl _) (SubG.cons rfl (VT.le_refl _) (SubG.cons rfl (VT.le_refl _) (SubG.cons rfl (VT.le_refl _) (SubG.cons rfl (VT.le_refl _) (SubG.nil))))))))))) (fun j => [(45, one (.int .i64 (j : Nat)))]) (fun j M0 => (M0.set 2 (ownR r bs (fill2 G i j)))) (fun j => j ≤ r) (fun j => r - j) (0) (Nat.zero_le _) (by repeat (first | exact SubG.refl _ | exact SubG.nil | refine SubG.cons rfl (VT.le_refl _) ?_ | (refine SubG.cons rfl (one_le ?_) ?_; (congr 1; first | omega | (simp; omega) | simp)))) (.keep (Own.le_refl _) (.keep (Own.le_refl _) (.keep (Own.le_refl _) (.keep (Own.le_refl _) (.keep (Own.le_refl _) (.keep (Own.le_refl _) (.nil))))))) (fun j hj => ?_)
      refine J_norm (Γ' := [(45, _), (1, _), (2, _), (3, _), (4, _), (7, _), (8, _), (9, _), (40, _), (41, _), (44, _)]) (M' := [_, _, _, _, _, _]) rfl rfl ?_
      by_cases hj' : j < r
      · by_cases hp : e.piv.length < r
        · have hc := hcof j i hj' hi'
          have hv : cof r F j i = G i j := by rw [← hG]; unfold adjE; rw [if_neg hp1, if_pos hp]
          refine J_seq ?_
          refine J_reg ?_
          refine st (sT (by omega) (s_lt rfl rfl)) rfl ?_
          refine Run.nil ?_
          refine pj_then ?_
          refine J_seq ?_
          refine J_cond1 rfl ?_
          refine J_skip ?_
          refine pj_then ?_
          refine J_seq ?_
          refine J_block ?_
          refine J_seq ?_
          refine J_reg ?_
          refine st (s_move rfl) rfl ?_
          refine st (s_assign rfl) rfl ?_
          refine Run.nil ?_
          refine pj_then ?_
          refine J_block ?_
          refine J_seq ?_
          refine J_reg ?_
          refine st (s_move rfl) rfl ?_
          refine st (s_nilCheckI rfl) rfl ?_
          refine st (s_fieldI rfl rfl) rfl ?_
          refine st (s_load rfl) rfl ?_
          refine st (s_len rfl) rfl ?_
          refine st (s_move rfl) rfl ?_
          refine st (sT (by omega) (s_lt rfl rfl)) rfl ?_
          refine st (s_assign rfl) rfl ?_
          refine Run.nil ?_
          refine pj_then ?_
          refine J_cond1 rfl ?_
          refine J_regd 10 mixed (by kernel_rfl) (by decide) ?_
          refine st (s_fieldAddr rfl) rfl ?_
          refine st (s_loadB 0 rfl rfl rfl) rfl ?_
          refine st (s_move rfl) rfl ?_
          refine st (s_indexON rfl rfl (by omega)) rfl ?_
          refine st (s_loadE 1 rfl rfl (by omega)) rfl ?_
          refine st (s_move rfl) rfl ?_
          refine st (s_loadW 5 rfl rfl) rfl ?_
          refine st (s_move rfl) rfl ?_
          refine st (s_move rfl) rfl ?_
          refine st (s_callk (hcof _ _ (by assumption) (by assumption)) rfl ⟨VT.le_refl _, VT.le_refl _, VT.le_refl _, trivial⟩) rfl ?_
          refine Run.nil ?_
          refine st (s_indexON rfl rfl (by omega)) rfl ?_
          (refine a_storeR 2 rfl rfl rfl (getq ?_) ?_ rfl ?_; omega; omega)
          refine Run.nil ?_
          refine pn_block ?_
          refine pn_block ?_
          refine pj_then ?_
          refine J_reg ?_
          refine st (s_addN _ 1 rfl rfl (by omega)) rfl ?_
          refine st (s_move rfl) rfl ?_
          refine Run.nil ?_
          refine pj_roundM (j + 1) (by assumption) (by omega) (by repeat (first | exact SubG.refl _ | exact SubG.nil | refine SubG.cons rfl (VT.le_refl _) ?_ | (refine SubG.cons rfl (one_le ?_) ?_; (congr 1; first | omega | (simp; omega) | simp)))) (.keep (Own.le_refl _) (.keep (Own.le_refl _) (.keep (upd_fill2 _ hv) (.keep (Own.le_refl _) (.keep (Own.le_refl _) (.keep (Own.le_refl _) (.nil)))))))
        · have hp2 : ¬ (e.piv.length : Int) < (r : Int) := by omega
          have hs2 := he.lz hok (hok.R i (r + j))
          unfold rowF
          cases ho : e.odd with
          | true =>
            have hn := hneg _ hs2
            have hv : -(e.R i (r + j)) = G i j := by rw [← hG]; unfold adjE; rw [if_neg hp1, if_neg hp, if_pos ho]
            refine J_seq ?_
            refine J_reg ?_
            refine st (sT (by omega) (s_lt rfl rfl)) rfl ?_
            refine Run.nil ?_
            refine pj_then ?_
            refine J_seq ?_
            refine J_cond1 rfl ?_
            refine J_skip ?_
            refine pj_then ?_
            refine J_seq ?_
            refine J_block ?_
            refine J_seq ?_
            refine J_reg ?_
            refine st (s_move rfl) rfl ?_
            refine st (s_assign rfl) rfl ?_
            refine Run.nil ?_
            refine pj_then ?_
            refine J_block ?_
            refine J_seq ?_
            refine J_reg ?_
            refine st (s_move rfl) rfl ?_
            refine st (s_nilCheckI rfl) rfl ?_
            refine st (s_fieldI rfl rfl) rfl ?_
            refine st (s_load rfl) rfl ?_
            refine st (s_len rfl) rfl ?_
            refine st (s_move rfl) rfl ?_
            refine st (sF (by assumption) (s_lt rfl rfl)) rfl ?_
            refine st (s_assign rfl) rfl ?_
            refine Run.nil ?_
            refine pj_then ?_
            refine J_cond0 rfl ?_
            refine J_seq ?_
            refine J_reg ?_
            refine st (s_move rfl) rfl ?_
            refine st (s_nilCheckI rfl) rfl ?_
            refine st (s_fieldI rfl rfl) rfl ?_
            refine st (s_fieldI rfl rfl) rfl ?_
            refine st (s_load rfl) rfl ?_
            refine st (s_assign rfl) rfl ?_
            refine Run.nil ?_
            refine pj_then ?_
            refine J_cond1 rfl ?_
            refine J_regd 20 mixed (by kernel_rfl) (by decide) ?_
            refine st (s_fieldAddr rfl) rfl ?_
            refine st (s_loadB 0 rfl rfl rfl) rfl ?_
            refine st (s_move rfl) rfl ?_
            refine st (s_indexON rfl rfl (by omega)) rfl ?_
            refine st (s_loadE 1 rfl rfl (by omega)) rfl ?_
            refine st (s_move rfl) rfl ?_
            refine st (s_move rfl) rfl ?_
            refine st (s_nilCheckI rfl) rfl ?_
            refine st (s_fieldI rfl rfl) rfl ?_
            refine st (s_fieldI rfl rfl) rfl ?_
            refine st (s_load rfl) rfl ?_
            refine st (s_move rfl) rfl ?_
            refine st (s_indexIN rfl rfl (by omega)) rfl ?_
            refine st (s_load rfl) rfl ?_
            refine st (s_move rfl) rfl ?_
            refine st (s_move rfl) rfl ?_
            refine st (s_addN _ _ rfl rfl (by omega)) rfl ?_
            refine st (s_indexIN rfl rfl (by omega)) rfl ?_
            refine st (s_load rfl) rfl ?_
            refine st (s_callk (hneg _ (by assumption)) rfl ⟨VT.le_refl _, trivial⟩) rfl ?_
            refine Run.nil ?_
            refine st (s_indexON rfl rfl (by omega)) rfl ?_
            (refine a_storeR 2 rfl rfl rfl (getq ?_) ?_ rfl ?_; omega; omega)
            refine Run.nil ?_
            refine pn_block ?_
            refine pn_block ?_
            refine pj_then ?_
            refine J_reg ?_
            refine st (s_addN _ 1 rfl rfl (by omega)) rfl ?_
            refine st (s_move rfl) rfl ?_
            refine Run.nil ?_
            refine pj_roundM (j + 1) (by assumption) (by omega) (by repeat (first | exact SubG.refl _ | exact SubG.nil | refine SubG.cons rfl (VT.le_refl _) ?_ | (refine SubG.cons rfl (one_le ?_) ?_; (congr 1; first | omega | (simp; omega) | simp)))) (.keep (Own.le_refl _) (.keep (Own.le_refl _) (.keep (upd_fill2 _ hv) (.keep (Own.le_refl _) (.keep (Own.le_refl _) (.keep (Own.le_refl _) (.nil)))))))
          | false =>
            have hv : e.R i (r + j) = G i j := by rw [← hG]; unfold adjE; rw [if_neg hp1, if_neg hp, if_neg (by rw [ho]; decide)]
            refine J_seq ?_
            refine J_reg ?_
            refine st (sT (by omega) (s_lt rfl rfl)) rfl ?_
            refine Run.nil ?_
            refine pj_then ?_
            refine J_seq ?_
            refine J_cond1 rfl ?_
            refine J_skip ?_
            refine pj_then ?_
            refine J_seq ?_
            refine J_block ?_
            refine J_seq ?_
            refine J_reg ?_
            refine st (s_move rfl) rfl ?_
            refine st (s_assign rfl) rfl ?_
            refine Run.nil ?_
            refine pj_then ?_
            refine J_block ?_
            refine J_seq ?_
            refine J_reg ?_
            refine st (s_move rfl) rfl ?_
            refine st (s_nilCheckI rfl) rfl ?_
            refine st (s_fieldI rfl rfl) rfl ?_
            refine st (s_load rfl) rfl ?_
            refine st (s_len rfl) rfl ?_
            refine st (s_move rfl) rfl ?_
            refine st (sF (by assumption) (s_lt rfl rfl)) rfl ?_
            refine st (s_assign rfl) rfl ?_
            refine Run.nil ?_
            refine pj_then ?_
            refine J_cond0 rfl ?_
            refine J_seq ?_
            refine J_reg ?_
            refine st (s_move rfl) rfl ?_
            refine st (s_nilCheckI rfl) rfl ?_
            refine st (s_fieldI rfl rfl) rfl ?_
            refine st (s_fieldI rfl rfl) rfl ?_
            refine st (s_load rfl) rfl ?_
            refine st (s_assign rfl) rfl ?_
            refine Run.nil ?_
            refine pj_then ?_
            refine J_cond0 rfl ?_
            refine J_regd 19 mixed (by kernel_rfl) (by decide) ?_
            refine st (s_fieldAddr rfl) rfl ?_
            refine st (s_loadB 0 rfl rfl rfl) rfl ?_
            refine st (s_move rfl) rfl ?_
            refine st (s_indexON rfl rfl (by omega)) rfl ?_
            refine st (s_loadE 1 rfl rfl (by omega)) rfl ?_
            refine st (s_move rfl) rfl ?_
            refine st (s_move rfl) rfl ?_
            refine st (s_nilCheckI rfl) rfl ?_
            refine st (s_fieldI rfl rfl) rfl ?_
            refine st (s_fieldI rfl rfl) rfl ?_
            refine st (s_load rfl) rfl ?_
            refine st (s_move rfl) rfl ?_
            refine st (s_indexIN rfl rfl (by omega)) rfl ?_
            refine st (s_load rfl) rfl ?_
            refine st (s_move rfl) rfl ?_
            refine st (s_move rfl) rfl ?_
            refine st (s_addN _ _ rfl rfl (by omega)) rfl ?_
            refine st (s_indexIN rfl rfl (by omega)) rfl ?_
            refine st (s_load rfl) rfl ?_
            refine Run.nil ?_
            refine st (s_indexON rfl rfl (by omega)) rfl ?_
            (refine a_storeR 2 rfl rfl rfl (getq ?_) ?_ rfl ?_; omega; omega)
            refine Run.nil ?_
            refine pn_block ?_
            refine pn_block ?_
            refine pj_then ?_
            refine J_reg ?_
            refine st (s_addN _ 1 rfl rfl (by omega)) rfl ?_
            refine st (s_move rfl) rfl ?_
            refine Run.nil ?_
            refine pj_roundM (j + 1) (by assumption) (by omega) (by repeat (first | exact SubG.refl _ | exact SubG.nil | refine SubG.cons rfl (VT.le_refl _) ?_ | (refine SubG.cons rfl (one_le ?_) ?_; (congr 1; first | omega | (simp; omega) | simp)))) (.keep (Own.le_refl _) (.keep (Own.le_refl _) (.keep (upd_fill2 _ hv) (.keep (Own.le_refl _) (.keep (Own.le_refl _) (.keep (Own.le_refl _) (.nil)))))))
      · have hjr : j = r := by omega
        subst hjr
        refine J_seq ?_
        refine J_reg ?_
        refine st (sF (by omega) (s_lt rfl rfl)) rfl ?_
        refine Run.nil ?_
        refine pj_then ?_
        refine J_seq ?_
        refine J_cond0 rfl ?_
        refine J_exit ?_
        refine px_then ?_
        refine px_then ?_
        refine px_block ?_
        refine pn_block ?_
        refine pj_then ?_
        refine J_reg ?_
        refine st (s_addN _ 1 rfl rfl (by omega)) rfl ?_
        refine st (s_move rfl) rfl ?_
        refine Run.nil ?_
        refine pj_roundM (i + 1) (by assumption) (by omega) (by repeat (first | exact SubG.refl _ | exact SubG.nil | refine SubG.cons rfl (VT.le_refl _) ?_ | (refine SubG.cons rfl (one_le ?_) ?_; (congr 1; first | omega | (simp; omega) | simp)))) (.keep (Own.le_refl _) (.keep (Own.le_refl _) (.keep (next_fill2) (.keep (Own.le_refl _) (.keep (Own.le_refl _) (.keep (Own.le_refl _) (.nil)))))))
    · have hir : i = r := by omega
      subst hir
      refine J_seq ?_
      refine J_reg ?_
      refine st (sF (by omega) (s_lt rfl rfl)) rfl ?_
      refine Run.nil ?_
      refine pj_then ?_
      refine J_seq ?_
      refine J_cond0 rfl ?_
      refine J_exit ?_
      refine px_then ?_
      refine px_then ?_
      refine px_block ?_
      refine pj_then ?_
      refine J_seq ?_
      refine J_reg ?_
      refine st (s_loadW 0 rfl rfl) rfl ?_
      refine a_storeW 4 rfl rfl rfl rfl ?_
      refine st (s_assign rfl) rfl ?_
      refine Run.nil ?_
      refine pj_then ?_
      refine J_ret ?_
      refine PJ_open [outO sv1 cap1 i i bs, ownR i bs (fill2 G i 0)] (perm6 _ _ _ _ _ _) (.keep (EntO.refl _) (.keep (EntO.refl _) (.keep (EntO.box (newT_open hlen ⟨by simp, by simp, by simp⟩)) (.keep (EntO.refl _) .nil)))) (EntG.refl _) ?_
      refine retc2 Try.results18 (.cellW 2 rfl rfl ((matF_le fun a b ha hb => by simp [fill2, ha]))) (.tmp rfl (VT.le_refl _))
end Tor
end

section
set_option linter.unusedVariables false
set_option linter.unusedSimpArgs false
namespace Tor
open Go Go.RowKit Go.Proofs
def intsF (c : Nat) (l : List Int) : Nat → Nat → Int := fun i j => l.getD (i * c + j) 0
def IN (r c : Nat) (l : List Int) : VT := matF r c (intsF c l)
theorem vec_le (l : List Int) : VT.le (slT (.agg 2) l.length (fun q => (l.map bigT).getD q anyT)) (rowF l.length (fun j => l.getD j 0)) := by
  unfold rowF
  refine slT_le fun i hi => ?_
  simp only [List.getD, List.getElem?_map, List.getElem?_eq_getElem hi, Option.map_some, Option.getD_some]
  exact VT.le_refl _
instance (x : Int) : Decidable (mod4 x) := inferInstanceAs (Decidable (_ ≤ _))
theorem i64_ints {l : List Int} (h : (l.all fun x => decide (-9223372036854775808 ≤ x) && decide (x ≤ 9223372036854775807)) = true) : ∀ x ∈ l, -9223372036854775808 ≤ x ∧ x ≤ 9223372036854775807 := fun x hx => by
  have := List.all_eq_true.1 h x hx
  simpa using this
theorem rSameF_ok (r c r' c' : Nat) (F G : Nat → Nat → Int) (hr : r ≤ 1048576) : Ok Try.prog 22 [matF r c F, matF r' c' G] (one (.bool (decide ((r : Int) = r' ∧ (c : Int) = c' ∧ tab r c F = tab r' c' G)))) :=
  (rSameMat_ok r c r' c' (tab r c F) (tab r' c' G) (by simp; omega)).le ⟨matF_mat _ _ _, matF_mat _ _ _, trivial⟩ (VT.le_refl _)
theorem same_self (r c : Nat) (F : Nat → Nat → Int) (hr : r ≤ 1048576) : Ok Try.prog 22 [matF r c F, matF r c F] (one (.bool true)) := by
  have h := rSameF_ok r c r c F F hr
  simpa using h
theorem ints_ok (r c : Nat) (l : List Int) (hr : r ≤ 1048576) (hc : c ≤ 1048576) (h : (l.all fun x => decide (-9223372036854775808 ≤ x) && decide (x ≤ 9223372036854775807)) = true) : Ok Try.prog 28 [one (.int .i64 r), one (.int .i64 c), numT .i64 l] (IN r c l) := rInts_ok r c l hr hc (i64_ints h)
end Tor
end

section
set_option linter.unusedVariables false
set_option linter.unusedSimpArgs false
namespace Tor
open Go Go.RowKit Go.Proofs
theorem lzL {l : List Int} (h : (l.all fun x => decide (x.natAbs < 4294967296)) = true) (k : Nat) : lz 1 (l.getD k 0) := by
  refine digs_len_le (k := 1) ?_
  rw [Nat.pow_one]
  by_cases hk : k < l.length
  · have := List.all_eq_true.1 h (l.getD k 0) (by simp [List.getD, hk])
    exact of_decide_eq_true this
  · have : l.getD k 0 = 0 := by simp [List.getD, Nat.le_of_not_lt hk]
    rw [this]; decide
abbrev numV (l : List Int) : VT := slT .one l.length (fun q => one (.int .i64 (l.getD q 0)))
theorem numV_le (l : List Int) : VT.le (slT .one l.length (fun q => (l.map fun x => one (.int .i64 x)).getD q anyT)) (numV l) := by
  refine slT_le fun i hi => ?_
  simp only [List.getD, List.getElem?_map, List.getElem?_eq_getElem hi, Option.map_some, Option.getD_some]
  exact VT.le_refl _
theorem numV1_le (x : Int) : VT.le (slT .one 1 (fun _ => one (.int .i64 x))) (numV [x]) := slT_le' rfl fun q hq => by
  have hq : q < 1 := hq
  rw [show q = 0 by omega]; rfl
theorem pivT_num {l : List Nat} {m : List Int} (h : l.map (fun x : Nat => (x : Int)) = m) : VT.le (pivT l) (numV m) := by
  subst h
  refine slT_le' (by simp) (fun q hq => ?_)
  show one (Value.int .i64 ((l.getD q 0 : Nat) : Int)) = one (Value.int .i64 ((l.map fun x : Nat => (x : Int)).getD q 0))
  simp [List.getD, hq]
theorem newL_eq {r w c : Nat} (F : Nat → Nat → Int) (h : c ≤ w) : Lin.newL r w F c = (elN r false F c).piv := by
  obtain ⟨A, V, hE⟩ := Lin.elN_EL r w false F c h
  exact hE.pl.symm
theorem tup3_le {φ φ' ψ ψ' χ : VT} (h : VT.le φ φ') (k : VT.le ψ ψ') : VT.le (tupT [φ, ψ, χ]) (tupT [φ', ψ', χ]) := by
  rintro v g ⟨vs, h1, h2⟩
  refine ⟨vs, h1, ?_⟩
  match vs, h2 with
  | [a, b, c], ⟨p, q, r, _⟩ => exact ⟨h _ _ p, k _ _ q, r, trivial⟩
theorem ratS_le {n : Nat} {f g : Nat → Rat} (h : ∀ i, i < n → f i = g i) : VT.le (slT (.agg 4) n (fun i => ratT (f i))) (ratF n g) := ratF_le h
attribute [local irreducible] Tor.J Tor.PJ Tor.StepO Tor.one Tor.slT Tor.ptrT Tor.aggT Tor.tupT Tor.exT Tor.andT Tor.gT Tor.eP Tor.boxO Tor.sliO Tor.slV Tor.VT.le Tor.Ret Tor.anyT Tor.mapO Tor.metT Tor.xO
attribute [local irreducible] bigT ratT
set_option maxHeartbeats 4000000 in
theorem halves_ok (l : List Int) (hl : l.length ≤ 1024) (h : (l.all fun x => decide (-9223372036854775808 ≤ x) && decide (x ≤ 9223372036854775807)) = true) : Ok Try.prog 32 [numV l] (ratF l.length (fun i => Rat.divInt (l.getD i 0) 2)) := by
  unfold ratF
  refine Ok.enter Try.func32 rfl Try.ntmps32 rfl (fun w O => ?_)
  refine J_seq ?_
  refine J_reg ?_
  refine st (s_assign rfl) rfl ?_
  refine Run.nil ?_
  refine pj_then ?_
  refine J_seq ?_
  refine J_reg ?_
  refine stSO (n := 0) rfl rfl rfl rfl rfl ?_
  refine PartsK.nil (fun bl => ?_)
  refine st (s_assign rfl) rfl ?_
  refine Run.nil ?_
  refine pj_then ?_
  refine J_seq ?_
  refine J_seq ?_
  refine J_reg ?_
  refine st (s_assign rfl) rfl ?_
  refine Run.nil ?_
  refine pj_then ?_
  refine J_block ?_
  refine J_sub (Γ' := [(0, _), (2, _), (3, _), (4, _)]) (SubG.cons rfl (VT.le_refl _) (SubG.cons rfl (VT.le_refl _) (SubG.cons rfl (VT.le_refl _) (SubG.cons rfl (VT.le_refl _) (SubG.nil))))) (SubM.refl _) ?_
  refine J_loopA (σ := Nat × Option Nat × Nat) (Γk := [(0, _), (2, _)]) (SubG.cons rfl (VT.le_refl _) (SubG.cons rfl (VT.le_refl _) (SubG.nil))) (fun s => [(4, one (.int .i64 (s.1 : Nat))), (3, one (slV s.2.1 s.1 s.2.2))]) (fun s M0 => (M0.set 0 (sliO s.2.1 63 (.agg 4) s.2.2 s.1 (fun q => ratT (Rat.divInt (l.getD q 0) 2))))) (fun s => s.1 ≤ l.length) (fun s => l.length - s.1) ((0, some bl, 0)) (Nat.zero_le _) (by repeat (first | exact SubG.refl _ | exact SubG.nil | refine SubG.cons rfl (VT.le_refl _) ?_ | (refine SubG.cons rfl (one_le ?_) ?_; (congr 1; first | omega | (simp; omega) | simp)))) (.keep (sliO_eq (fun q hq => absurd hq (Nat.not_lt_zero _))) (.nil)) (fun s hs => ?_)
  refine J_norm (Γ' := [(4, _), (3, _), (0, _), (2, _)]) (M' := [_]) rfl rfl ?_
  obtain ⟨i, sv, cap⟩ := s
  dsimp only at hs ⊢
  by_cases hi : i < l.length
  · have hx := List.all_eq_true.1 h (l.getD i 0) (by simp [List.getD, hi])
    simp only [Bool.and_eq_true, decide_eq_true_eq] at hx
    have hm := rqMade_ok (l.getD i 0) 2 (by decide) hx.1 hx.2 (by decide) (by decide)
    refine J_seq ?_
    refine J_seq ?_
    refine J_reg ?_
    refine st (s_move rfl) rfl ?_
    refine st (s_move rfl) rfl ?_
    refine st (s_len rfl) rfl ?_
    refine st (sT (by omega) (s_lt rfl rfl)) rfl ?_
    refine Run.nil ?_
    refine pj_then ?_
    refine J_cond1 rfl ?_
    refine J_skip ?_
    refine pj_then ?_
    refine J_seq ?_
    refine J_block ?_
    refine J_reg ?_
    refine st (s_move rfl) rfl ?_
    refine st (s_move rfl) rfl ?_
    refine st (s_move rfl) rfl ?_
    refine st (s_indexIN rfl rfl (by omega)) rfl ?_
    refine st (s_load rfl) rfl ?_
    refine st (s_callk (hm ) rfl ⟨VT.le_refl _, VT.le_refl _, trivial⟩) rfl ?_
    refine stS1 rfl rfl rfl rfl ?_
    (refine a_append 0 rfl rfl rfl (leN rfl) ?_ ?_ rfl (ltN rfl) (fun sv19 cap19 => ?_); omega; omega)
    refine st (s_assign rfl) rfl ?_
    refine Run.nil ?_
    refine pn_block ?_
    refine pj_then ?_
    refine J_reg ?_
    refine st (s_move rfl) rfl ?_
    refine st (s_addN _ 1 rfl rfl (by omega)) rfl ?_
    refine st (s_assign rfl) rfl ?_
    refine Run.nil ?_
    refine pj_roundM ((i + 1, sv19, cap19)) (hi) (by omega) (by repeat (first | exact SubG.refl _ | exact SubG.nil | refine SubG.cons rfl (VT.le_refl _) ?_ | (refine SubG.cons rfl (one_le ?_) ?_; (congr 1; first | omega | (simp; omega) | simp)))) (.keep (rat_snoc (h := fun q => Rat.divInt (l.getD q 0) 2) rfl) (.nil))
  · have he : i = l.length := by omega
    rw [he]
    refine J_seq ?_
    refine J_seq ?_
    refine J_reg ?_
    refine st (s_move rfl) rfl ?_
    refine st (s_move rfl) rfl ?_
    refine st (s_len rfl) rfl ?_
    refine st (sF (by omega) (s_lt rfl rfl)) rfl ?_
    refine Run.nil ?_
    refine pj_then ?_
    refine J_cond0 rfl ?_
    refine J_exit ?_
    refine px_then ?_
    refine px_then ?_
    refine px_block ?_
    refine pj_then ?_
    refine J_seq ?_
    refine J_reg ?_
    refine st (s_move rfl) rfl ?_
    refine st (s_assign rfl) rfl ?_
    refine Run.nil ?_
    refine pj_then ?_
    refine J_ret ?_
    refine PJ_freeze (t := 2) (i := 0) rfl rfl ?_
    refine retc1 Try.results32 (.tmp rfl (VT.le_refl _))
theorem rNewF_ok (r c : Nat) (hr : r ≤ 1048576) (hc : c ≤ 1048576) : Ok Try.prog 29 [one (.int .i64 r), one (.int .i64 c)] (matF r c (fun _ _ => 0)) := (rNew_ok r c hr hc).ok fun s => newT_mat _ s
theorem rqListF_ok (n m : Nat) (l k : Nat → Rat) (hn : n ≤ 1048576) : Ok Try.prog 31 [ratF n l, ratF m k] (one (.bool (decide (n = m ∧ ∀ i, i < n → l i = k i)))) := rqList_ok n m l k hn
attribute [local irreducible] matF rowF ratF
set_option maxRecDepth 20000 in
set_option maxHeartbeats 20000000 in
theorem sanity_ok : Ok Try.prog 5 [] (one (.bool true)) := by
  have i1 : Ok Try.prog 28 [one (.int .i64 (2 : Nat)), one (.int .i64 (2 : Nat)), numT .i64 [1, 2, 3, 4]] (matF 2 2 (intsF 2 [1, 2, 3, 4])) := ints_ok 2 2 [1, 2, 3, 4] (by decide) (by decide) (by decide)
  have i2 : Ok Try.prog 28 [one (.int .i64 (1 : Nat)), one (.int .i64 (2 : Nat)), numT .i64 [1, 1]] (matF 1 2 (intsF 2 [1, 1])) := ints_ok 1 2 [1, 1] (by decide) (by decide) (by decide)
  have i3 : Ok Try.prog 28 [one (.int .i64 (4 : Nat)), one (.int .i64 (2 : Nat)), numT .i64 [0, 0, 0, 2, 0, 3, 1, 1]] (matF 4 2 (intsF 2 [0, 0, 0, 2, 0, 3, 1, 1])) := ints_ok 4 2 [0, 0, 0, 2, 0, 3, 1, 1] (by decide) (by decide) (by decide)
  have i4 : Ok Try.prog 28 [one (.int .i64 (2 : Nat)), one (.int .i64 (2 : Nat)), numT .i64 [2, 4, 1, 2]] (matF 2 2 (intsF 2 [2, 4, 1, 2])) := ints_ok 2 2 [2, 4, 1, 2] (by decide) (by decide) (by decide)
  have i5 : Ok Try.prog 28 [one (.int .i64 (1 : Nat)), one (.int .i64 (1 : Nat)), numT .i64 [5]] (matF 1 1 (intsF 1 [5])) := ints_ok 1 1 [5] (by decide) (by decide) (by decide)
  have i6 : Ok Try.prog 28 [one (.int .i64 (2 : Nat)), one (.int .i64 (2 : Nat)), numT .i64 [4, -2, -3, 1]] (matF 2 2 (intsF 2 [4, -2, -3, 1])) := ints_ok 2 2 [4, -2, -3, 1] (by decide) (by decide) (by decide)
  have i7 : Ok Try.prog 28 [one (.int .i64 (1 : Nat)), one (.int .i64 (1 : Nat)), numT .i64 [1]] (matF 1 1 (intsF 1 [1])) := ints_ok 1 1 [1] (by decide) (by decide) (by decide)
  have d1 := Det_ok 2 (intsF 2 [1, 2, 3, 4]) 1 (by decide) ⟨by decide, by decide⟩ (fun i j => lzL (by decide) _)
  rw [show Lin.detZ 2 (intsF 2 [1, 2, 3, 4]) = -2 by decide +kernel] at d1
  have d2 := Det_ok 0 (fun _ _ => 0) 1 (by decide) ⟨by decide, by decide⟩ (fun i j => lz_zero 1)
  rw [show Lin.detZ 0 (fun _ _ => 0) = 1 by decide +kernel] at d2
  have d3 := DetS_ok 1 2 (intsF 2 [1, 1]) (by decide)
  have r1 := Rank_ok 4 2 (intsF 2 [0, 0, 0, 2, 0, 3, 1, 1]) 1 (by decide) (by decide) ⟨by decide, by decide⟩ ⟨by decide, by decide⟩ (fun i j => lzL (by decide) _)
  have s1 := Solve_ok 2 2 (intsF 2 [2, 4, 1, 2]) (fun j => [1, 2].getD j 0) 1 (by decide) (by decide) ⟨by decide, by decide⟩ (fun i j => lzL (by decide) _) (fun j => lzL (by decide) _)
  have s2 := Solve_ok 1 2 (intsF 2 [1, 1]) (fun j => [1, 2].getD j 0) 1 (by decide) (by decide) ⟨by decide, by decide⟩ (fun i j => lzL (by decide) _) (fun j => lzL (by decide) _)
  rw [newL_eq _ (by decide), newL_eq _ (by decide), show (elN 2 false (fun i j => intsF 2 [0, 0, 0, 2, 0, 3, 1, 1] j i) 4).piv = [1, 3] by decide +kernel, show (elN 4 false (intsF 2 [0, 0, 0, 2, 0, 3, 1, 1]) 2).piv = [0, 1] by decide +kernel] at r1
  rw [show firstP (elN 2 true (eqS 2 (intsF 2 [2, 4, 1, 2]) (fun j => [1, 2].getD j 0)) 2).R 2 (elN 2 true (eqS 2 (intsF 2 [2, 4, 1, 2]) (fun j => [1, 2].getD j 0)) 2).piv.length 2 = none by decide +kernel] at s1
  have s1' := s1.le (leAll_refl _) (tup3_le (ratS_le (g := fun i => Rat.divInt ([1, 0].getD i 0) 2) (by decide +kernel)) (VT.le_refl _))
  rw [show firstP (elN 2 true (eqS 1 (intsF 2 [1, 1]) (fun j => [1, 2].getD j 0)) 1).R 1 (elN 2 true (eqS 1 (intsF 2 [1, 1]) (fun j => [1, 2].getD j 0)) 1).piv.length 2 = some 1 by decide +kernel] at s2
  have s2' := s2.le (leAll_refl _) (tup3_le (VT.le_refl _) (ratS_le (g := fun i => Rat.divInt ([-2, 2].getD i 0) 2) (by decide +kernel)))
  clear s1 s2
  have a1 := Adjugate_ok 2 (intsF 2 [1, 2, 3, 4]) 1 (by decide) ⟨by decide, by decide⟩ (fun i j => lzL (by decide) _)
  have a2 := Adjugate_ok 1 (intsF 1 [5]) 1 (by decide) ⟨by decide, by decide⟩ (fun i j => lzL (by decide) _)
  have a3 := AdjugateS_ok 1 2 (intsF 2 [1, 1]) (by decide)
  refine Ok.enter Try.func5 rfl Try.ntmps5 rfl (fun w O => ?_)
  have hh1 := halves_ok [1, 0] (by decide) (by decide)
  have hh2 := halves_ok [-2, 2] (by decide) (by decide)
  have hl1 := rqListF_ok 2 2 (fun i => Rat.divInt ([1, 0].getD i 0) 2) (fun i => Rat.divInt ([1, 0].getD i 0) 2) (by decide)
  have hl2 := rqListF_ok 2 2 (fun i => Rat.divInt ([-2, 2].getD i 0) 2) (fun i => Rat.divInt ([-2, 2].getD i 0) 2) (by decide)
  have hn1 := r8Ints_ok 2 2 (fun q => ([1, 3] : List Int).getD q 0) (fun q => ([1, 3] : List Int).getD q 0) (by decide)
  have hn2 := r8Ints_ok 2 2 (fun q => ([0, 1] : List Int).getD q 0) (fun q => ([0, 1] : List Int).getD q 0) (by decide)
  rw [decide_eq_true ⟨rfl, fun i _ => rfl⟩] at hl1 hl2 hn1 hn2
  refine J_seq ?_
  refine J_reg ?_
  refine st (s_assign rfl) rfl ?_
  refine Run.nil ?_
  refine pj_then ?_
  refine J_seq ?_
  refine J_reg ?_
  refine stS rfl rfl rfl rfl ?_
  refine PartsK.cons rfl ?_
  refine PartsK.cons rfl ?_
  refine PartsK.cons rfl ?_
  refine PartsK.cons rfl ?_
  refine PartsK.nil ?_
  refine st (s_callk (i1 ) rfl ⟨VT.le_refl _, VT.le_refl _, (numV_le [1, 2, 3, 4]), trivial⟩) rfl ?_
  refine stS rfl rfl rfl rfl ?_
  refine PartsK.cons rfl ?_
  refine PartsK.cons rfl ?_
  refine PartsK.nil ?_
  refine st (s_callk (i2 ) rfl ⟨VT.le_refl _, VT.le_refl _, (numV_le [1, 1]), trivial⟩) rfl ?_
  refine a_allocS (T := 29) rfl rfl rfl (fun b1 => ?_)
  refine a_allocS (T := 29) rfl rfl rfl (fun b2 => ?_)
  refine a_storeV 1 rfl rfl rfl rfl ?_
  refine a_storeV 0 rfl rfl rfl rfl ?_
  refine Run.nil ?_
  refine pj_then ?_
  refine J_seq ?_
  refine J_reg ?_
  refine st (s_loadB 1 rfl rfl rfl) rfl ?_
  refine st (s_callk (d1 ) rfl ⟨VT.le_refl _, trivial⟩) rfl ?_
  refine st (s_move rfl) rfl ?_
  refine st (s_extract rfl rfl) rfl ?_
  refine st (s_extract rfl rfl) rfl ?_
  refine a_alloc (T := 34) rfl (ltN rfl) (fun b3 => ?_)
  refine a_storeB 0 rfl rfl rfl rfl rfl (leN rfl) rfl ?_
  refine st (s_assign rfl) rfl ?_
  refine Run.nil ?_
  refine pj_then ?_
  refine J_seq ?_
  refine J_reg ?_
  refine st (s_callk (rNewF_ok _ _ (by decide) (by decide)) rfl ⟨VT.le_refl _, VT.le_refl _, trivial⟩) rfl ?_
  refine st (s_callk (d2 ) rfl ⟨VT.le_refl _, trivial⟩) rfl ?_
  refine st (s_move rfl) rfl ?_
  refine st (s_extract rfl rfl) rfl ?_
  refine st (s_extract rfl rfl) rfl ?_
  refine a_alloc (T := 34) rfl (ltN rfl) (fun b5 => ?_)
  refine a_storeB 0 rfl rfl rfl rfl rfl (leN rfl) rfl ?_
  refine st (s_assign rfl) rfl ?_
  refine Run.nil ?_
  refine pj_then ?_
  refine J_seq ?_
  refine J_reg ?_
  refine st (s_loadB 2 rfl rfl rfl) rfl ?_
  refine st (s_callk (d3 ) rfl ⟨VT.le_refl _, trivial⟩) rfl ?_
  refine st (s_move rfl) rfl ?_
  refine st (s_extract rfl rfl) rfl ?_
  refine st (s_extract rfl rfl) rfl ?_
  refine a_alloc (T := 34) rfl (ltN rfl) (fun b7 => ?_)
  refine a_storeB 0 rfl rfl rfl rfl rfl (leN rfl) rfl ?_
  refine st (s_assign rfl) rfl ?_
  refine Run.nil ?_
  refine pj_then ?_
  refine J_seq ?_
  refine J_reg ?_
  refine stS rfl rfl rfl rfl ?_
  refine PartsK.cons rfl ?_
  refine PartsK.cons rfl ?_
  refine PartsK.cons rfl ?_
  refine PartsK.cons rfl ?_
  refine PartsK.cons rfl ?_
  refine PartsK.cons rfl ?_
  refine PartsK.cons rfl ?_
  refine PartsK.cons rfl ?_
  refine PartsK.nil ?_
  refine st (s_callk (i3 ) rfl ⟨VT.le_refl _, VT.le_refl _, (numV_le [0, 0, 0, 2, 0, 3, 1, 1]), trivial⟩) rfl ?_
  refine st (s_callk (r1 ) rfl ⟨VT.le_refl _, trivial⟩) rfl ?_
  refine st (s_move rfl) rfl ?_
  refine st (s_extract rfl rfl) rfl ?_
  refine st (s_extract rfl rfl) rfl ?_
  refine st (s_assign rfl) rfl ?_
  refine st (s_assign rfl) rfl ?_
  refine Run.nil ?_
  refine pj_then ?_
  refine J_seq ?_
  refine J_reg ?_
  refine stS rfl rfl rfl rfl ?_
  refine PartsK.cons rfl ?_
  refine PartsK.cons rfl ?_
  refine PartsK.cons rfl ?_
  refine PartsK.cons rfl ?_
  refine PartsK.nil ?_
  refine st (s_callk (i4 ) rfl ⟨VT.le_refl _, VT.le_refl _, (numV_le [2, 4, 1, 2]), trivial⟩) rfl ?_
  refine st (s_callk (rOf_ok _ (by omega) (by omega)) rfl ⟨VT.le_refl _, trivial⟩) rfl ?_
  refine st (s_callk (rOf_ok _ (by omega) (by omega)) rfl ⟨VT.le_refl _, trivial⟩) rfl ?_
  refine stS rfl rfl rfl rfl ?_
  refine PartsK.cons rfl ?_
  refine PartsK.cons rfl ?_
  refine PartsK.nil ?_
  refine st (s_callk (s1' ) rfl ⟨VT.le_refl _, (vec_le [1, 2]), trivial⟩) rfl ?_
  refine st (s_move rfl) rfl ?_
  refine st (s_extract rfl rfl) rfl ?_
  refine st (s_extract rfl rfl) rfl ?_
  refine st (s_extract rfl rfl) rfl ?_
  refine st (s_assign rfl) rfl ?_
  refine st (s_assign rfl) rfl ?_
  refine st (s_assign rfl) rfl ?_
  refine Run.nil ?_
  refine pj_then ?_
  refine J_seq ?_
  refine J_regd 11 mixed (by kernel_rfl) (by decide) ?_
  refine st (s_loadB 3 rfl rfl rfl) rfl ?_
  refine st (s_callk (rOf_ok _ (by omega) (by omega)) rfl ⟨VT.le_refl _, trivial⟩) rfl ?_
  refine st (s_callk (rOf_ok _ (by omega) (by omega)) rfl ⟨VT.le_refl _, trivial⟩) rfl ?_
  refine stS rfl rfl rfl rfl ?_
  refine PartsK.cons rfl ?_
  refine PartsK.cons rfl ?_
  refine PartsK.nil ?_
  refine st (s_callk (s2' ) rfl ⟨VT.le_refl _, (vec_le [1, 2]), trivial⟩) rfl ?_
  refine st (s_move rfl) rfl ?_
  refine st (s_extract rfl rfl) rfl ?_
  refine st (s_extract rfl rfl) rfl ?_
  refine st (s_extract rfl rfl) rfl ?_
  refine st (s_assign rfl) rfl ?_
  refine st (s_assign rfl) rfl ?_
  refine Run.nil ?_
  refine st (s_assign rfl) rfl ?_
  refine Run.nil ?_
  refine pj_then ?_
  refine J_seq ?_
  refine J_reg ?_
  refine st (s_loadB 4 rfl rfl rfl) rfl ?_
  refine st (s_callk (a1 ) rfl ⟨VT.le_refl _, trivial⟩) rfl ?_
  refine st (s_move rfl) rfl ?_
  refine st (s_extract rfl rfl) rfl ?_
  refine st (s_extract rfl rfl) rfl ?_
  refine a_allocS (T := 29) rfl rfl rfl (fun b17 => ?_)
  refine a_storeV 0 rfl rfl rfl rfl ?_
  refine st (s_assign rfl) rfl ?_
  refine Run.nil ?_
  refine pj_then ?_
  refine J_seq ?_
  refine J_reg ?_
  refine stS1 rfl rfl rfl rfl ?_
  refine st (s_callk (i5 ) rfl ⟨VT.le_refl _, VT.le_refl _, (numV1_le 5), trivial⟩) rfl ?_
  refine st (s_callk (a2 ) rfl ⟨VT.le_refl _, trivial⟩) rfl ?_
  refine st (s_move rfl) rfl ?_
  refine st (s_extract rfl rfl) rfl ?_
  refine st (s_extract rfl rfl) rfl ?_
  refine a_allocS (T := 29) rfl rfl rfl (fun b19 => ?_)
  refine a_storeV 0 rfl rfl rfl rfl ?_
  refine st (s_assign rfl) rfl ?_
  refine Run.nil ?_
  refine pj_then ?_
  refine J_seq ?_
  refine J_reg ?_
  refine st (s_loadB 5 rfl rfl rfl) rfl ?_
  refine st (s_callk (a3 ) rfl ⟨VT.le_refl _, trivial⟩) rfl ?_
  refine st (s_move rfl) rfl ?_
  refine st (s_extract rfl rfl) rfl ?_
  refine st (s_extract rfl rfl) rfl ?_
  refine a_allocS (T := 29) rfl rfl rfl (fun b21 => ?_)
  refine a_storeV 0 rfl rfl rfl rfl ?_
  refine st (s_assign rfl) rfl ?_
  refine Run.nil ?_
  refine pj_then ?_
  refine J_seq ?_
  refine J_regd 20 mixed (by kernel_rfl) (by decide) ?_
  refine st (s_move rfl) rfl ?_
  refine st (sT (by omega) (s_eq rfl rfl)) rfl ?_
  refine st (s_move rfl) rfl ?_
  refine sg1 rfl rfl (s_loadB 5 rfl rfl rfl) rfl ?_
  refine sg1 rfl rfl (s_callk (rOf_ok _ (by omega) (by omega)) rfl ⟨VT.le_refl _, trivial⟩) rfl ?_
  refine sg1 rfl rfl (sT (by omega) (s_callk (rSame_ok _ _) rfl ⟨VT.le_refl _, VT.le_refl _, trivial⟩)) rfl ?_
  refine st (s_pickT rfl rfl) rfl ?_
  refine st (s_move rfl) rfl ?_
  refine sg1 rfl rfl (s_move rfl) rfl ?_
  refine sg1 rfl rfl (sT (by omega) (s_eq rfl rfl)) rfl ?_
  refine st (s_pickT rfl rfl) rfl ?_
  refine st (s_move rfl) rfl ?_
  refine sg1 rfl rfl (s_loadB 4 rfl rfl rfl) rfl ?_
  refine sg1 rfl rfl (s_callk (rOf_ok _ (by omega) (by omega)) rfl ⟨VT.le_refl _, trivial⟩) rfl ?_
  refine sg1 rfl rfl (sT (by omega) (s_callk (rSame_ok _ _) rfl ⟨VT.le_refl _, VT.le_refl _, trivial⟩)) rfl ?_
  refine st (s_pickT rfl rfl) rfl ?_
  refine st (s_move rfl) rfl ?_
  refine sg1 rfl rfl (s_move rfl) rfl ?_
  refine sg1 rfl rfl (sT (by omega) (s_eq rfl rfl)) rfl ?_
  refine st (s_pickT rfl rfl) rfl ?_
  refine Run.nil ?_
  refine st (s_assign rfl) rfl ?_
  refine Run.nil ?_
  refine pj_then ?_
  refine J_seq ?_
  refine J_reg ?_
  refine st (s_move rfl) rfl ?_
  refine st (s_move rfl) rfl ?_
  refine sg1 rfl rfl (s_move rfl) rfl ?_
  refine stSg rfl rfl rfl rfl rfl rfl ?_
  refine PartsK.cons rfl ?_
  refine PartsK.cons rfl ?_
  refine PartsK.nil ?_
  refine sg1 rfl rfl (s_callk (hh1 ) rfl ⟨(numV_le [1, 0]), trivial⟩) rfl ?_
  refine sg1 rfl rfl (s_callk (hl1 ) rfl ⟨VT.le_refl _, VT.le_refl _, trivial⟩) rfl ?_
  refine st (s_pickT rfl rfl) rfl ?_
  refine st (s_move rfl) rfl ?_
  refine sg1 rfl rfl (s_move rfl) rfl ?_
  refine sg1 rfl rfl (s_not rfl) rfl ?_
  refine st (s_pickT rfl rfl) rfl ?_
  refine st (s_move rfl) rfl ?_
  refine sg1 rfl rfl (s_move rfl) rfl ?_
  refine stSg rfl rfl rfl rfl rfl rfl ?_
  refine PartsK.cons rfl ?_
  refine PartsK.cons rfl ?_
  refine PartsK.nil ?_
  refine sg1 rfl rfl (s_callk (hh2 ) rfl ⟨(numV_le [-2, 2]), trivial⟩) rfl ?_
  refine sg1 rfl rfl (s_callk (hl2 ) rfl ⟨VT.le_refl _, VT.le_refl _, trivial⟩) rfl ?_
  refine st (s_pickT rfl rfl) rfl ?_
  refine st (s_assign rfl) rfl ?_
  refine Run.nil ?_
  refine pj_then ?_
  refine J_seq ?_
  refine J_regd 22 mixed (by kernel_rfl) (by decide) ?_
  refine st (s_move rfl) rfl ?_
  refine st (sT (by omega) (s_eq rfl rfl)) rfl ?_
  refine st (s_move rfl) rfl ?_
  refine sg1 rfl rfl (s_loadB 2 rfl rfl rfl) rfl ?_
  refine stSg rfl rfl rfl rfl rfl rfl ?_
  refine PartsK.cons rfl ?_
  refine PartsK.cons rfl ?_
  refine PartsK.cons rfl ?_
  refine PartsK.cons rfl ?_
  refine PartsK.nil ?_
  refine sg1 rfl rfl (s_callk (i6 ) rfl ⟨VT.le_refl _, VT.le_refl _, (numV_le [4, -2, -3, 1]), trivial⟩) rfl ?_
  refine sg1 rfl rfl (sT (⟨rfl, rfl, by decide +kernel⟩) (s_callk (rSameF_ok _ _ _ _ _ _ (by omega)) rfl ⟨VT.le_refl _, VT.le_refl _, trivial⟩)) rfl ?_
  refine st (s_pickT rfl rfl) rfl ?_
  refine st (s_move rfl) rfl ?_
  refine sg1 rfl rfl (s_move rfl) rfl ?_
  refine sg1 rfl rfl (sT (by omega) (s_eq rfl rfl)) rfl ?_
  refine st (s_pickT rfl rfl) rfl ?_
  refine st (s_move rfl) rfl ?_
  refine sg1 rfl rfl (s_loadB 1 rfl rfl rfl) rfl ?_
  refine stSg rfl rfl rfl rfl rfl rfl ?_
  refine PartsK.cons rfl ?_
  refine PartsK.nil ?_
  refine sg1 rfl rfl (s_callk (i7 ) rfl ⟨VT.le_refl _, VT.le_refl _, (numV_le [1]), trivial⟩) rfl ?_
  refine sg1 rfl rfl (sT (⟨rfl, rfl, by decide +kernel⟩) (s_callk (rSameF_ok _ _ _ _ _ _ (by omega)) rfl ⟨VT.le_refl _, VT.le_refl _, trivial⟩)) rfl ?_
  refine st (s_pickT rfl rfl) rfl ?_
  refine st (s_move rfl) rfl ?_
  refine sg1 rfl rfl (s_move rfl) rfl ?_
  refine sg1 rfl rfl (sT (by omega) (s_eq rfl rfl)) rfl ?_
  refine st (s_pickT rfl rfl) rfl ?_
  refine Run.nil ?_
  refine st (s_assign rfl) rfl ?_
  refine Run.nil ?_
  refine pj_then ?_
  refine J_seq ?_
  refine J_reg ?_
  refine st (s_move rfl) rfl ?_
  refine st (s_move rfl) rfl ?_
  refine sg1 rfl rfl (s_move rfl) rfl ?_
  refine stSg rfl rfl rfl rfl rfl rfl ?_
  refine PartsK.cons rfl ?_
  refine PartsK.cons rfl ?_
  refine PartsK.nil ?_
  refine sg1 rfl rfl (s_callk (hn1 ) rfl ⟨(pivT_num (m := [1, 3]) rfl), (numV_le [1, 3]), trivial⟩) rfl ?_
  refine st (s_pickT rfl rfl) rfl ?_
  refine st (s_move rfl) rfl ?_
  refine sg1 rfl rfl (s_move rfl) rfl ?_
  refine stSg rfl rfl rfl rfl rfl rfl ?_
  refine PartsK.cons rfl ?_
  refine PartsK.cons rfl ?_
  refine PartsK.nil ?_
  refine sg1 rfl rfl (s_callk (hn2 ) rfl ⟨(pivT_num (m := [0, 1]) rfl), (numV_le [0, 1]), trivial⟩) rfl ?_
  refine st (s_pickT rfl rfl) rfl ?_
  refine st (s_move rfl) rfl ?_
  refine sg1 rfl rfl (s_move rfl) rfl ?_
  refine st (s_pickT rfl rfl) rfl ?_
  refine st (s_move rfl) rfl ?_
  refine sg1 rfl rfl (s_move rfl) rfl ?_
  refine st (s_pickT rfl rfl) rfl ?_
  refine st (s_assign rfl) rfl ?_
  refine Run.nil ?_
  refine pj_then ?_
  refine J_ret ?_
  refine retc1 Try.results5 (.tmp rfl (VT.le_refl _))
end Tor
end

section
set_option linter.unusedVariables false
set_option linter.unusedSimpArgs false
namespace Tor
open Go Go.RowKit Go.Proofs
def rawInT (r c : Nat) (l : List Int) : VT := aggT 3 [(0, .one, one (.int .u8 r)), (1, .one, one (.int .u8 c)), (2, .one, numT .i8 l)]
theorem tmod5 (n : Nat) : (n : Int).tmod 5 = ((n % 5 : Nat) : Int) := by
  rw [Int.tmod_eq_emod_of_nonneg (by omega)]; omega
attribute [local irreducible] Tor.J Tor.PJ Tor.StepO Tor.one Tor.slT Tor.ptrT Tor.aggT Tor.tupT Tor.exT Tor.andT Tor.gT Tor.eP Tor.boxO Tor.sliO Tor.slV Tor.VT.le Tor.Ret Tor.anyT
attribute [local irreducible] bigT Tor.rowsO
end Tor
end

section
set_option linter.unusedVariables false
set_option linter.unusedSimpArgs false
namespace Tor
open Go Go.RowKit Go.Proofs
theorem dig_abs (l : List Int) (n : Nat) : (dig l n).natAbs ≤ 9 := by
  unfold dig; rw [Int.natAbs_tmod]
  show (l.getD n 0).natAbs % 10 ≤ 9
  omega
theorem lz_dig (l : List Int) (n : Nat) : lz 1 (dig l n) := digs_len_le (k := 1) (by have := dig_abs l n; omega)
theorem mod4_dig (l : List Int) (n : Nat) : mod4 (dig l n) := Nat.le_trans (dig_abs l n) (by decide +kernel)
theorem sumF_abs {B : Nat} {f : Nat → Int} (h : ∀ k, (f k).natAbs ≤ B) : ∀ n, (sumF n f).natAbs ≤ n * B
  | 0 => Nat.zero_le _
  | n + 1 => by
    have h1 := sumF_abs h n
    have h2 := h n
    rw [sumF_step, Nat.succ_mul]
    omega
attribute [local irreducible] Tor.J Tor.PJ Tor.StepO Tor.one Tor.slT Tor.ptrT Tor.aggT Tor.tupT Tor.exT Tor.andT Tor.gT Tor.eP Tor.boxO Tor.sliO Tor.slV Tor.VT.le Tor.Ret Tor.anyT Tor.mapO Tor.metT Tor.xO
attribute [local irreducible] bigT rowF
set_option maxHeartbeats 4000000 in
theorem rSquare_ok (r c : Nat) (l : List Int) : Ok Try.prog 6 [rawInT r c l] (matF (r % 5) (r % 5) (fun i j => dig l (i * (r % 5) + j))) := by
  have h := rFilled_ok (r % 5) (r % 5) l (by omega) (by omega)
  have h5 := tmod5 r
  have hr : r % 5 < 5 := Nat.mod_lt _ (by decide)
  unfold rawInT matF at *
  refine Ok.enter Try.func6 rfl Try.ntmps6 rfl (fun w O => ?_)
  refine J_seq ?_
  refine J_reg ?_
  refine a_boxS rfl rfl (ltN rfl) (fun b1 => ?_)
  refine a_allocS (T := 29) rfl rfl rfl (fun b2 => ?_)
  refine Run.nil ?_
  refine pj_then ?_
  refine J_seq ?_
  refine J_reg ?_
  refine st (s_fieldAddr rfl) rfl ?_
  refine st (s_loadB 1 rfl rfl rfl) rfl ?_
  refine st (s_remN 5 rfl rfl rfl (by decide)) rfl ?_
  refine st (s_toI64 rfl (by omega) (by omega)) rfl ?_
  refine st (s_fieldAddr rfl) rfl ?_
  refine st (s_loadB 1 rfl rfl rfl) rfl ?_
  refine st (s_remN 5 rfl rfl rfl (by decide)) rfl ?_
  refine st (s_toI64 rfl (by omega) (by omega)) rfl ?_
  refine st (s_fieldAddr rfl) rfl ?_
  refine st (s_loadB 1 rfl rfl rfl) rfl ?_
  refine st (s_callk (h ) rfl ⟨VT.le_refl _, VT.le_refl _, VT.le_refl _, trivial⟩) rfl ?_
  refine a_storeW 0 rfl rfl rfl rfl ?_
  refine Run.nil ?_
  refine pj_then ?_
  refine J_ret ?_
  refine retc1 Try.results6 (.cellW 0 rfl rfl (VT.le_refl _))
set_option maxHeartbeats 4000000 in
theorem rTimes5_ok (r c : Nat) (v : Nat → Int) (F : Nat → Nat → Int) (hr : r ≤ 1024) (hc : c ≤ 1024) (hv : ∀ i, mod4 (v i)) (hF : ∀ i j, mod4 (F i j)) : Ok Try.prog 53 [rowF r v, matF r c F] (tupT [rowF c (mulF r (fun _ => v) F 0), one (.int .i64 0)]) := by
  have h1 := rRow_ok r v
  have h2 := rProduct_ok 1 r (fun _ => v) c F (by decide) (by omega) (by omega) (fun _ => hv) hF
  unfold matF at *
  refine Ok.enter Try.func53 rfl Try.ntmps53 rfl (fun w O => ?_)
  unfold rowF at *
  refine J_seq ?_
  refine J_reg ?_
  refine a_boxS rfl rfl (ltN rfl) (fun b3 => ?_)
  refine st (s_assign rfl) rfl ?_
  refine st (s_assign rfl) rfl ?_
  refine Run.nil ?_
  refine pj_then ?_
  refine J_seq ?_
  refine J_seq ?_
  refine J_reg ?_
  refine st (s_move rfl) rfl ?_
  refine st (s_len rfl) rfl ?_
  refine st (s_fieldAddr rfl) rfl ?_
  refine st (s_loadB 0 rfl rfl rfl) rfl ?_
  refine st (sF (by omega) (s_ne rfl rfl)) rfl ?_
  refine Run.nil ?_
  refine pj_then ?_
  refine J_cond0 rfl ?_
  refine J_skip ?_
  refine pj_then ?_
  refine J_seq ?_
  refine J_regd 7 mixed (by kernel_rfl) (by decide) ?_
  refine st (s_move rfl) rfl ?_
  refine st (s_callk (h1 ) rfl ⟨VT.le_refl _, trivial⟩) rfl ?_
  refine st (s_loadW 0 rfl rfl) rfl ?_
  refine st (s_callk (h2 ) rfl ⟨VT.le_refl _, VT.le_refl _, trivial⟩) rfl ?_
  refine st (s_field rfl rfl) rfl ?_
  refine st (s_indexIN rfl rfl (by decide)) rfl ?_
  refine st (s_load rfl) rfl ?_
  refine Run.nil ?_
  refine st (s_assign rfl) rfl ?_
  refine st (s_assign rfl) rfl ?_
  refine Run.nil ?_
  refine pj_then ?_
  refine J_ret ?_
  refine retc2 Try.results53 (.tmp rfl (VT.le_refl _)) (.tmp rfl (VT.le_refl _))
set_option maxHeartbeats 4000000 in
theorem rAct5_ok (r c : Nat) (v : Nat → Int) (F : Nat → Nat → Int) (hr : r ≤ 1024) (hc : c ≤ 1024) (hv : ∀ i, mod4 (v i)) (hF : ∀ i j, mod4 (F i j)) : Ok Try.prog 25 [rowF r v, matF r c F] (rowF c (mulF r (fun _ => v) F 0)) := by
  have h := rTimes5_ok r c v F hr hc hv hF
  refine Ok.enter Try.func25 rfl Try.ntmps25 rfl (fun w O => ?_)
  refine J_seq ?_
  refine J_reg ?_
  refine a_boxS rfl rfl (ltN rfl) (fun b3 => ?_)
  refine st (s_assign rfl) rfl ?_
  refine Run.nil ?_
  refine pj_then ?_
  refine J_seq ?_
  refine J_reg ?_
  refine st (s_move rfl) rfl ?_
  refine st (s_loadW 0 rfl rfl) rfl ?_
  refine st (s_callk (h ) rfl ⟨VT.le_refl _, VT.le_refl _, trivial⟩) rfl ?_
  refine st (s_move rfl) rfl ?_
  refine st (s_extract rfl rfl) rfl ?_
  refine st (s_extract rfl rfl) rfl ?_
  refine st (s_assign rfl) rfl ?_
  refine st (s_assign rfl) rfl ?_
  refine Run.nil ?_
  refine pj_then ?_
  refine J_seq ?_
  refine J_reg ?_
  refine st (s_move rfl) rfl ?_
  refine st (s_assign rfl) rfl ?_
  refine Run.nil ?_
  refine pj_then ?_
  refine J_ret ?_
  refine retc1 Try.results25 (.tmp rfl (VT.le_refl _))
end Tor
end

section
set_option linter.unusedVariables false
set_option linter.unusedSimpArgs false
namespace Tor
open Go Go.RowKit Go.Proofs
theorem sumF_cast (n : Nat) (f : Nat → Int) : ((sumF n f : Int) : Rat) = Lin.sm n (fun i => (f i : Rat)) := by
  induction n with
  | zero => rfl
  | succ n ih => rw [sumF_step, Lin.sm, Rat.intCast_add, ih]
theorem SolveN_ok (r c : Nat) (F : Nat → Nat → Int) (b : Nat → Int) (n : Nat) (hr : r ≤ 1024) (hc : c ≤ 1024) (he : elim0 n c) (hF : ∀ i j, lz n (F i j)) (hb : ∀ j, lz n (b j)) (h0 : firstP (elN c true (eqS r F b) r).R r (elN c true (eqS r F b) r).piv.length c = none) :
    Ok Try.prog 24 [matF r c F, rowF c b] (tupT [ratF r (xsN (elN c true (eqS r F b) r) r (elN c true (eqS r F b) r).piv.length), ratF 0 (fun _ => 0), one (.bool true)]) := by
  have h := Solve_ok r c F b n hr hc he hF hb
  rw [h0] at h; exact h
theorem elim04 {c : Nat} (hc : c ≤ 4) : elim0 1 c := ⟨by decide, by
  have : 2 ^ c ≤ 2 ^ 4 := Nat.pow_le_pow_right (by decide) hc
  have h16 : 2 ^ 4 = 16 := rfl
  omega⟩
attribute [local irreducible] Tor.J Tor.PJ Tor.StepO Tor.one Tor.slT Tor.ptrT Tor.aggT Tor.tupT Tor.exT Tor.andT Tor.gT Tor.eP Tor.boxO Tor.sliO Tor.slV Tor.VT.le Tor.Ret Tor.anyT Tor.mapO Tor.metT Tor.xO
attribute [local irreducible] bigT ratT rowF ratF
end Tor
end

section
set_option linter.unusedVariables false
set_option linter.unusedSimpArgs false
namespace Tor
open Go Go.RowKit Go.Proofs
end Tor
end

section
set_option linter.unusedVariables false
set_option linter.unusedSimpArgs false
namespace Tor.Lin
open Tor
def up (i : Nat) (F : Nat → Nat → Rat) : Nat → Nat → Rat := fun a b => if a = 0 then F i b else F (skip i (a - 1)) b
theorem det_up : ∀ (i n : Nat) (F : Nat → Nat → Rat), i < n → det n (up i F) = sgn i * det n F
  | 0, n, F, h => by
    rw [show sgn 0 = 1 from rfl, Rat.one_mul]
    refine det_congr fun a b _ _ => ?_
    unfold up
    by_cases h0 : a = 0
    · rw [if_pos h0, h0]
    · rw [if_neg h0]; unfold skip; rw [if_neg (by omega), show a - 1 + 1 = a by omega]
  | i + 1, n, F, h => by
    have e : det n (up (i + 1) F) = det n (up i (fun a b => F (if a = i then i + 1 else if a = i + 1 then i else a) b)) := det_congr fun a b _ _ => by
      unfold up
      by_cases h0 : a = 0
      · rw [if_pos h0, if_pos h0]; dsimp only; rw [if_pos rfl]
      · rw [if_neg h0, if_neg h0]
        congr 1
        unfold skip
        by_cases h1 : a - 1 < i
        · rw [if_pos (by omega), if_pos h1, if_neg (by omega), if_neg (by omega)]
        · rw [if_neg h1]
          by_cases h2 : a - 1 = i
          · rw [if_pos (by omega), if_neg (by omega), if_pos (by omega)]; omega
          · rw [if_neg (by omega), if_neg (by omega), if_neg (by omega)]
    rw [e, det_up i n _ (by omega), det_rowswap (by omega), sgn_succ]
    grind
theorem lap0 {m i : Nat} (hi : i < m + 1) (F : Nat → Nat → Rat) : sm (m + 1) (fun j => sgn j * F i j * det m (fun a b => F (skip i a) (skip j b))) = sgn i * det (m + 1) F := by
  rw [← det_up i (m + 1) F hi, det]
  exact sm_congr fun j _ => rfl
theorem sgn_sq (i : Nat) : sgn i * sgn i = 1 := by unfold sgn; split <;> grind
theorem sgn_add (i j : Nat) : sgn (i + j) = sgn i * sgn j := by
  induction j with
  | zero => rw [Nat.add_zero, show sgn 0 = 1 from rfl, Rat.mul_one]
  | succ j ih => rw [← Nat.add_assoc, sgn_succ, sgn_succ, ih]; grind
theorem skip_ne (i a : Nat) : skip i a ≠ i := by unfold skip; split <;> omega
theorem lap_row {m i l : Nat} (hi : i < m + 1) (hl : l < m + 1) (F : Nat → Nat → Rat) : sm (m + 1) (fun k => F l k * (sgn (i + k) * det m (fun a b => F (skip i a) (skip k b)))) = if l = i then det (m + 1) F else 0 := by
  have h := lap0 hi (fun a b => if a = i then F l b else F a b)
  rw [sm_congr (g := fun k => sgn i * (F l k * (sgn (i + k) * det m (fun a b => F (skip i a) (skip k b))))) (fun k _ => by
    rw [if_pos rfl, det_congr (G := fun a b => F (skip i a) (skip k b)) (fun a b _ _ => by rw [if_neg (skip_ne i a)]), sgn_add]
    have := sgn_sq i
    grind), sm_mull] at h
  have hq := sgn_sq i
  have e : ∀ S D : Rat, sgn i * S = sgn i * D → S = D := fun S D h => by
    have h2 : sgn i * (sgn i * S) = sgn i * (sgn i * D) := by rw [h]
    rw [← Rat.mul_assoc, ← Rat.mul_assoc, hq, Rat.one_mul, Rat.one_mul] at h2; exact h2
  rw [e _ _ h]
  by_cases hli : l = i
  · rw [if_pos hli]
    exact det_congr fun a b _ _ => by
      by_cases ha : a = i
      · rw [if_pos ha, ha, hli]
      · rw [if_neg ha]
  · rw [if_neg hli]
    rcases Nat.lt_or_ge l i with h1 | h1
    · exact det_eqrow two_rat h1 hi (fun j _ => by rw [if_neg hli, if_pos rfl])
    · exact det_eqrow two_rat (show i < l by omega) hl (fun j _ => by rw [if_pos rfl, if_neg hli])
theorem lap_col {m i l : Nat} (hi : i < m + 1) (hl : l < m + 1) (F : Nat → Nat → Rat) : sm (m + 1) (fun k => (sgn (k + i) * det m (fun a b => F (skip k a) (skip i b))) * F k l) = if l = i then det (m + 1) F else 0 := by
  have h := lap_row hi hl (fun a b => F b a)
  rw [det_tr (m + 1) two_rat F] at h
  rw [← h]
  exact sm_congr fun k _ => by
    rw [det_tr m two_rat (fun a b => F (skip k a) (skip i b)), Nat.add_comm k i, Rat.mul_comm]
end Tor.Lin
namespace Tor
open Go Go.RowKit Go.Proofs
theorem cof_cast (m : Nat) (F : Nat → Nat → Int) (i j : Nat) : ((cof (m + 1) F i j : Int) : Rat) = Lin.sgn (i + j) * Lin.det m (fun a b => (F (Lin.skip i a) (Lin.skip j b) : Rat)) := by
  unfold cof
  rw [Rat.intCast_mul, Lin.sgnZ_cast, Lin.detZ_cast]; rfl
theorem mulF_cast (n : Nat) (F G : Nat → Nat → Int) (i j : Nat) : ((mulF n F G i j : Int) : Rat) = Lin.sm n (fun k => (F i k : Rat) * (G k j : Rat)) := by
  show ((sumF n (fun k => F i k * G k j) : Int) : Rat) = _
  rw [sumF_cast]
  exact Lin.sm_congr fun k _ => Rat.intCast_mul _ _
theorem wide_at {n : Nat} {F : Nat → Nat → Int} {i j : Nat} (h : j < n) : wideF n F i j = F i j := by unfold wideF; rw [if_pos h]
theorem wide_at' {n : Nat} {F : Nat → Nat → Int} {i j : Nat} : wideF n F i (n + j) = if i = j then 1 else 0 := by
  unfold wideF; rw [if_neg (by omega), show n + j - n = j by omega]
theorem adj_both (n : Nat) (F : Nat → Nat → Int) (i j : Nat) (hi : i < n) (hj : j < n) :
    mulF n F (adjE n F (elN n true (wideF n F) n)) i j = (if i = j then Lin.detZ n F else 0) ∧ mulF n (adjE n F (elN n true (wideF n F) n)) F i j = (if i = j then Lin.detZ n F else 0) := by
  obtain ⟨A, V, h⟩ := Lin.elN_EL n (n + n) true (wideF n F) n (by omega)
  generalize elN n true (wideF n F) n = e at *
  have hpr := h.gj.pr
  by_cases hp : e.piv.length < n
  · have hd0 : Lin.detZ n F = 0 := by
      have hp' := hp
      rw [h.pl] at hp'
      obtain ⟨c, hc, hn⟩ := Lin.newL_short hp'
      obtain ⟨y, y1, y2, y3⟩ := Classical.not_not.1 hn
      have := Lin.det_dep (F := fun i j => (F i j : Rat)) hc y1 (fun i hi => by
        have h3 := y3 i hi
        rw [Lin.sm_app, Lin.sm_all0 (n := n) (f := fun k => y (n + k) * (wideF n F i (n + k) : Rat)) (fun k _ => by rw [y2 _ (by omega), Rat.zero_mul]), Rat.add_zero] at h3
        rw [← h3]
        exact Lin.sm_congr fun k hk => by rw [wide_at hk])
      rw [← Lin.detZ_cast] at this
      exact_mod_cast this
    by_cases hp1 : e.piv.length < n - 1
    · have ha : ∀ a b, adjE n F e a b = 0 := fun a b => by unfold adjE; rw [if_pos hp1]
      have z : ∀ f : Nat → Int, (∀ k, f k = 0) → sumF n f = 0 := fun f hf => by
        have : ((sumF n f : Int) : Rat) = 0 := by rw [sumF_cast]; exact Lin.sm_all0 fun k _ => by rw [hf]; rfl
        exact_mod_cast this
      rw [hd0, ite_self]
      exact ⟨z _ fun k => by rw [ha, Int.mul_zero], z _ fun k => by rw [ha, Int.zero_mul]⟩
    · have ha : ∀ a b, adjE n F e a b = cof n F b a := fun a b => by unfold adjE; rw [if_neg hp1, if_pos hp]
      obtain ⟨m, rfl⟩ : ∃ m, n = m + 1 := ⟨n - 1, by omega⟩
      constructor
      · have : ((mulF (m + 1) F (adjE (m + 1) F e) i j : Int) : Rat) = (((if i = j then Lin.detZ (m + 1) F else 0) : Int) : Rat) := by
          rw [mulF_cast, Lin.sm_congr (g := fun k => (F i k : Rat) * (Lin.sgn (j + k) * Lin.det m (fun a b => (F (Lin.skip j a) (Lin.skip k b) : Rat)))) (fun k _ => by rw [ha, cof_cast])]
          rw [Lin.lap_row hj hi (fun a b => (F a b : Rat))]
          by_cases hij : i = j
          · rw [if_pos hij, if_pos hij, Lin.detZ_cast]
          · rw [if_neg hij, if_neg hij]; rfl
        exact_mod_cast this
      · have : ((mulF (m + 1) (adjE (m + 1) F e) F i j : Int) : Rat) = (((if i = j then Lin.detZ (m + 1) F else 0) : Int) : Rat) := by
          rw [mulF_cast, Lin.sm_congr (g := fun k => (Lin.sgn (k + i) * Lin.det m (fun a b => (F (Lin.skip k a) (Lin.skip i b) : Rat))) * (F k j : Rat)) (fun k _ => by rw [ha, cof_cast])]
          rw [Lin.lap_col hi hj (fun a b => (F a b : Rat))]
          by_cases hij : i = j
          · rw [if_pos hij, if_pos hij.symm, Lin.detZ_cast]
          · rw [if_neg hij, if_neg (fun k => hij k.symm)]; rfl
        exact_mod_cast this
  · have hl : e.piv.length = n := by omega
    have hpl := Lin.newL_full (by rw [← h.pl]; exact hp)
    have hpv : ∀ k, k < n → e.piv.getD k 0 = k := fun k hk => by rw [h.pl, hpl]; simp [List.getD, hk]
    have hdet : (e.last : Rat) = (if e.odd then -1 else 1) * (Lin.detZ n F : Rat) := by
      have hd := h.gj.dP
      rw [hl] at hd
      rw [hd, Lin.detZ_cast]
      have e1 : Lin.det n (fun a b => (A a (e.piv.getD b 0) : Rat)) = Lin.det n (fun a b => (A a b : Rat)) := Lin.det_congr fun a b _ hb => by rw [hpv b hb]
      have e2 : Lin.det n (fun a b => (wideF n F a b : Rat)) = Lin.det n (fun a b => (F a b : Rat)) := Lin.det_congr fun a b _ hb => by rw [wide_at hb]
      rw [← e2, ← h.sg, ← e1]
    have hadj : ∀ a b, a < n → b < n → ((adjE n F e a b : Int) : Rat) = (Lin.detZ n F : Rat) * V a (n + b) := fun a b ha hb => by
      have hR := h.gj.B3 a ha (n + b) (by omega) (.inl rfl)
      unfold adjE
      rw [if_neg (by omega), if_neg hp]
      cases ho : e.odd
      · rw [ho] at hdet
        simp at hdet ⊢
        rw [hR, hdet]
      · rw [ho] at hdet
        simp at hdet ⊢
        rw [hR, hdet]; grind
    have hR : ∀ k b, k < n → b < n → Lin.sm n (fun l => (F k l : Rat) * V l (n + b)) = if k = b then 1 else 0 := fun k b hk hb => by
      obtain ⟨a, ha, ea⟩ := h.p2 k hk
      have h2 := h.gj.A2 a ha (n + b) (by omega)
      rw [hl, if_pos ha, Rat.add_zero, ea, wide_at'] at h2
      have h3 : Lin.sm n (fun l => (F k l : Rat) * V l (n + b)) = Lin.sm n (fun l => (wideF n F k (Lin.pv e l) : Rat) * V l (n + b)) := Lin.sm_congr fun l hl' => by
        show _ = (wideF n F k (e.piv.getD l 0) : Rat) * _
        rw [hpv l hl', wide_at hl']
      rw [h3, ← h2]; split <;> rfl
    have hL : ∀ a c, a < n → c < n → Lin.sm n (fun l => V a (n + l) * (F l c : Rat)) = if a = c then 1 else 0 := fun a c ha hc => by
      have key : ∀ T : Nat → Rat, Lin.sm (n + n) (fun x => ((if x = c then 1 else 0) - (if n ≤ x then (F (x - n) c : Rat) else 0)) * T x) = T c - Lin.sm n (fun l => (F l c : Rat) * T (n + l)) := fun T => by
        rw [Lin.sm_congr (g := fun x => (if x = c then T x else 0) - (if n ≤ x then (F (x - n) c : Rat) else 0) * T x) (fun x _ => by split <;> grind), Lin.sm_sub, Lin.sm_ite (by omega), Lin.sm_app]
        rw [Lin.sm_all0 (f := fun x => (if n ≤ x then (F (x - n) c : Rat) else 0) * T x) (fun x hx => by rw [if_neg (by omega)]; grind)]
        rw [Lin.sm_congr (f := fun k => (if n ≤ n + k then (F (n + k - n) c : Rat) else 0) * T (n + k)) (g := fun k => (F k c : Rat) * T (n + k)) (fun k _ => by rw [if_pos (by omega), show n + k - n = k by omega])]
        grind
      have z := h.gj.V6 (fun x => (if x = c then 1 else 0) - (if n ≤ x then (F (x - n) c : Rat) else 0)) (fun i hi' => by
        obtain ⟨k, hk, ek⟩ := h.p1 i hi'
        rw [key (fun x => (A i x : Rat)), ek]
        rw [wide_at hc, Lin.sm_congr (g := fun l => if l = k then (F l c : Rat) else 0) (fun l _ => by
          rw [wide_at']
          by_cases e1 : l = k
          · rw [if_pos e1, if_pos e1.symm]; exact Rat.mul_one _
          · rw [if_neg e1, if_neg (fun h => e1 h.symm)]; exact Rat.mul_zero _), Lin.sm_ite hk]
        grind) a ha
      rw [key (fun x => V a x)] at z
      have h4 := h.gj.V4 c (by omega) a ha
      rw [show Lin.pv e c = c from hpv c hc] at h4
      rw [Lin.sm_congr (g := fun l => (F l c : Rat) * V a (n + l)) (fun l _ => Rat.mul_comm _ _), ← h4]
      grind
    constructor
    · have : ((mulF n F (adjE n F e) i j : Int) : Rat) = (((if i = j then Lin.detZ n F else 0) : Int) : Rat) := by
        rw [mulF_cast, Lin.sm_congr (g := fun k => (Lin.detZ n F : Rat) * ((F i k : Rat) * V k (n + j))) (fun k hk => by rw [hadj k j hk hj]; grind), Lin.sm_mull, hR i j hi hj]
        split
        · grind
        · rw [Rat.mul_zero]; rfl
      exact_mod_cast this
    · have : ((mulF n (adjE n F e) F i j : Int) : Rat) = (((if i = j then Lin.detZ n F else 0) : Int) : Rat) := by
        rw [mulF_cast, Lin.sm_congr (g := fun k => (Lin.detZ n F : Rat) * (V i (n + k) * (F k j : Rat))) (fun k hk => by rw [hadj i k hi hk]; grind), Lin.sm_mull, hL i j hi hj]
        split
        · grind
        · rw [Rat.mul_zero]; rfl
      exact_mod_cast this
end Tor
end

section
set_option linter.unusedVariables false
set_option linter.unusedSimpArgs false
namespace Tor
open Go Go.RowKit Go.Proofs
theorem adj_rat {n : Nat} {F : Nat → Nat → Int} {i j : Nat} (hi : i < n) (hj : j < n) :
    Lin.sm n (fun k => (F i k : Rat) * (adjE n F (elN n true (wideF n F) n) k j : Rat)) = (if i = j then (Lin.detZ n F : Rat) else 0) ∧ Lin.sm n (fun k => (adjE n F (elN n true (wideF n F) n) i k : Rat) * (F k j : Rat)) = (if i = j then (Lin.detZ n F : Rat) else 0) := by
  obtain ⟨h1, h2⟩ := adj_both n F i j hi hj
  rw [← mulF_cast, ← mulF_cast, h1, h2]
  split
  · exact ⟨rfl, rfl⟩
  · exact ⟨rfl, rfl⟩
theorem solve_adj {n : Nat} {F : Nat → Nat → Int} {b : Nat → Int} (hd : Lin.detZ n F ≠ 0) :
    firstP (elN n true (eqS n F b) n).R n (elN n true (eqS n F b) n).piv.length n = none ∧
    ∀ i, i < n → xsN (elN n true (eqS n F b) n) n (elN n true (eqS n F b) n).piv.length i = Rat.divInt (mulF n (fun _ => b) (adjE n F (elN n true (wideF n F) n)) 0 i) (Lin.detZ n F) := by
  obtain ⟨A, V, hE⟩ := Lin.elN_EL n (n + 1 + n) true (eqS n F b) n (by omega)
  have hadj := fun i j (hi : i < n) (hj : j < n) => adj_rat (F := F) hi hj
  have hd' : (Lin.detZ n F : Rat) ≠ 0 := Lin.int_ne hd
  generalize adjE n F (elN n true (wideF n F) n) = G at *
  have h0 : firstP (elN n true (eqS n F b) n).R n (elN n true (eqS n F b) n).piv.length n = none := by
    cases h0 : firstP (elN n true (eqS n F b) n).R n (elN n true (eqS n F b) n).piv.length n with
    | none => rfl
    | some q =>
      obtain ⟨h1, h2⟩ := hE.alt h0
      generalize hy : (fun k => Rat.divInt ((elN n true (eqS n F b) n).R q (n + 1 + k)) ((elN n true (eqS n F b) n).R q n)) = y at *
      have h1' : ∀ i, i < n → Lin.sm n (fun k => y k * (F i k : Rat)) = 0 := fun i hi => by rw [← hy]; exact h1 i hi
      have h2' : Lin.sm n (fun k => (b k : Rat) * y k) = 1 := by rw [← hy]; exact h2
      have hz : ∀ l, l < n → y l = 0 := fun l hl => by
        have e : Lin.sm n (fun i => (G l i : Rat) * Lin.sm n (fun k => y k * (F i k : Rat))) = (Lin.detZ n F : Rat) * y l := by
          rw [Lin.sm_congr (g := fun i => Lin.sm n (fun k => (G l i : Rat) * (y k * (F i k : Rat)))) (fun i _ => (Lin.sm_mull _ _ _).symm), Lin.sm_swap]
          rw [Lin.sm_congr (g := fun k => if k = l then (Lin.detZ n F : Rat) * y k else 0) (fun k hk => by
            rw [Lin.sm_congr (g := fun i => y k * ((G l i : Rat) * (F i k : Rat))) (fun i _ => by grind), Lin.sm_mull, (hadj l k hl hk).2]
            by_cases e1 : k = l
            · rw [if_pos e1, if_pos e1.symm]; exact Rat.mul_comm _ _
            · rw [if_neg e1, if_neg (fun h => e1 h.symm)]; exact Rat.mul_zero _), Lin.sm_ite hl]
        rw [Lin.sm_all0 (fun i hi => by rw [h1' i hi]; exact Rat.mul_zero _)] at e
        rcases Rat.mul_eq_zero.1 e.symm with h | h
        · exact absurd h hd'
        · exact h
      rw [Lin.sm_all0 (fun k hk => by rw [hz k hk]; exact Rat.mul_zero _)] at h2'
      exact absurd h2' (by decide)
  refine ⟨h0, fun i hi => ?_⟩
  have hs := fun j (hj : j < n) => hE.solves h0 hj
  generalize xsN (elN n true (eqS n F b) n) n (elN n true (eqS n F b) n).piv.length = xs at *
  have e : ((mulF n (fun _ => b) G 0 i : Int) : Rat) = (Lin.detZ n F : Rat) * xs i := by
    rw [mulF_cast]
    rw [Lin.sm_congr (g := fun j => Lin.sm n (fun a => (xs a * (F a j : Rat)) * (G j i : Rat))) (fun j hj => by rw [Lin.sm_mulr, hs j hj]), Lin.sm_swap]
    rw [Lin.sm_congr (g := fun a => if a = i then (Lin.detZ n F : Rat) * xs a else 0) (fun a ha => by
      rw [Lin.sm_congr (g := fun j => xs a * ((F a j : Rat) * (G j i : Rat))) (fun j _ => by grind), Lin.sm_mull, (hadj a i ha hi).1]
      by_cases e1 : a = i
      · rw [if_pos e1, if_pos e1]; exact Rat.mul_comm _ _
      · rw [if_neg e1, if_neg e1]; exact Rat.mul_zero _), Lin.sm_ite hi]
  rw [Rat.divInt_eq_div, e]
  grind
end Tor
end

section
set_option linter.unusedVariables false
set_option linter.unusedSimpArgs false
namespace Tor
open Go Go.RowKit Go.Proofs
theorem adj_cof {n : Nat} {F : Nat → Nat → Int} (hd : Lin.detZ n F ≠ 0) {i j : Nat} (hi : i < n) (hj : j < n) : adjE n F (elN n true (wideF n F) n) i j = cof n F j i := by
  have hadj := fun i j (hi : i < n) (hj : j < n) => adj_rat (F := F) hi hj
  have hd' : (Lin.detZ n F : Rat) ≠ 0 := Lin.int_ne hd
  generalize adjE n F (elN n true (wideF n F) n) = G at *
  obtain ⟨m, rfl⟩ : ∃ m, n = m + 1 := ⟨n - 1, by omega⟩
  have hc : ∀ a, a < m + 1 → Lin.sm (m + 1) (fun k => (F a k : Rat) * (cof (m + 1) F j k : Rat)) = if a = j then (Lin.detZ (m + 1) F : Rat) else 0 := fun a ha => by
    rw [Lin.sm_congr (g := fun k => (F a k : Rat) * (Lin.sgn (j + k) * Lin.det m (fun x y => (F (Lin.skip j x) (Lin.skip k y) : Rat)))) (fun k _ => by rw [cof_cast])]
    rw [Lin.lap_row hj ha (fun a b => (F a b : Rat)), Lin.detZ_cast]
  have key : ∀ T : Nat → Rat, (∀ a, a < m + 1 → Lin.sm (m + 1) (fun k => (F a k : Rat) * T k) = if a = j then (Lin.detZ (m + 1) F : Rat) else 0) → (Lin.detZ (m + 1) F : Rat) * T i = Lin.sm (m + 1) (fun a => (G i a : Rat) * (if a = j then (Lin.detZ (m + 1) F : Rat) else 0)) := fun T hT => by
    rw [Lin.sm_congr (g := fun a => Lin.sm (m + 1) (fun k => (G i a : Rat) * ((F a k : Rat) * T k))) (fun a ha => by rw [← hT a ha]; exact (Lin.sm_mull _ _ _).symm), Lin.sm_swap]
    rw [Lin.sm_congr (g := fun k => if k = i then (Lin.detZ (m + 1) F : Rat) * T k else 0) (fun k hk => by
      rw [Lin.sm_congr (g := fun a => ((G i a : Rat) * (F a k : Rat)) * T k) (fun a _ => by grind), Lin.sm_mulr, (hadj i k hi hk).2]
      by_cases e1 : k = i
      · rw [if_pos e1, if_pos e1.symm]
      · rw [if_neg e1, if_neg (fun h => e1 h.symm)]; exact Rat.zero_mul _), Lin.sm_ite hi]
  have h1 := key (fun k => (G k j : Rat)) (fun a ha => (hadj a j ha hj).1)
  have h2 := key (fun k => (cof (m + 1) F j k : Rat)) hc
  have h3 : ((G i j : Int) : Rat) = ((cof (m + 1) F j i : Int) : Rat) := by
    have h4 : (Lin.detZ (m + 1) F : Rat) * ((G i j : Rat) - (cof (m + 1) F j i : Rat)) = 0 := by
      have : (Lin.detZ (m + 1) F : Rat) * (G i j : Rat) = (Lin.detZ (m + 1) F : Rat) * (cof (m + 1) F j i : Rat) := h1.trans h2.symm
      grind
    rcases Rat.mul_eq_zero.1 h4 with h | h
    · exact absurd h hd'
    · grind
  exact_mod_cast h3
def dB (B : Nat) : Nat → Nat
  | 0 => 1
  | n + 1 => (n + 1) * (B * dB B n)
theorem smZ_abs {B : Nat} {f : Nat → Int} (h : ∀ k, (f k).natAbs ≤ B) : ∀ n, (Lin.smZ n f).natAbs ≤ n * B
  | 0 => by show (0 : Int).natAbs ≤ _; simp
  | n + 1 => by
    have h1 := smZ_abs h n
    have h2 := h n
    show (Lin.smZ n f + f n).natAbs ≤ _
    rw [Nat.succ_mul]
    omega
theorem sgnZ_abs (j : Nat) : (Lin.sgnZ j).natAbs = 1 := by unfold Lin.sgnZ; split <;> rfl
theorem detZ_abs {B : Nat} : ∀ {n : Nat} {F : Nat → Nat → Int}, (∀ i j, (F i j).natAbs ≤ B) → (Lin.detZ n F).natAbs ≤ dB B n
  | 0, _, _ => Nat.le_refl _
  | n + 1, F, hF => by
    show (Lin.smZ (n + 1) _).natAbs ≤ (n + 1) * (B * dB B n)
    refine smZ_abs (fun k => ?_) (n + 1)
    rw [Int.natAbs_mul, Int.natAbs_mul, sgnZ_abs, Nat.one_mul]
    exact Nat.mul_le_mul (hF 0 k) (detZ_abs fun i j => hF _ _)
theorem cof_abs {B n : Nat} {F : Nat → Nat → Int} (hF : ∀ i j, (F i j).natAbs ≤ B) (i j : Nat) : (cof n F i j).natAbs ≤ dB B (n - 1) := by
  unfold cof
  rw [Int.natAbs_mul, sgnZ_abs, Nat.one_mul]
  exact detZ_abs fun a b => hF _ _
theorem adj_abs {B n : Nat} {F : Nat → Nat → Int} (hF : ∀ i j, (F i j).natAbs ≤ B) {i j : Nat} (hi : i < n) (hj : j < n) : (adjE n F (elN n true (wideF n F) n) i j).natAbs ≤ dB B (n - 1) := by
  by_cases hd : Lin.detZ n F = 0
  · have hp : (elN n true (wideF n F) n).piv.length < n := by
      refine Classical.byContradiction fun hp => ?_
      obtain ⟨A, V, h⟩ := Lin.elN_EL n (n + n) true (wideF n F) n (by omega)
      generalize elN n true (wideF n F) n = e at *
      have hpr := h.gj.pr
      have hl : e.piv.length = n := by omega
      have hpl := Lin.newL_full (by rw [← h.pl]; exact hp)
      have hpv : ∀ k, k < n → e.piv.getD k 0 = k := fun k hk => by rw [h.pl, hpl]; simp [List.getD, hk]
      have hdet : (e.last : Rat) = (if e.odd then -1 else 1) * (Lin.detZ n F : Rat) := by
        have hd := h.gj.dP
        rw [hl] at hd
        rw [hd, Lin.detZ_cast]
        have e1 : Lin.det n (fun a b => (A a (e.piv.getD b 0) : Rat)) = Lin.det n (fun a b => (A a b : Rat)) := Lin.det_congr fun a b _ hb => by rw [hpv b hb]
        have e2 : Lin.det n (fun a b => (wideF n F a b : Rat)) = Lin.det n (fun a b => (F a b : Rat)) := Lin.det_congr fun a b _ hb => by rw [wide_at hb]
        rw [← e2, ← h.sg, ← e1]
      rw [hd] at hdet
      refine Lin.int_ne h.gj.d0 ?_
      rw [hdet]; exact Rat.mul_zero _
    unfold adjE
    split
    · exact Nat.zero_le _
    · first | exact cof_abs hF j i | (rw [if_pos hp]; exact cof_abs hF j i)
  · rw [adj_cof hd hi hj]; exact cof_abs hF j i
end Tor
end

section
set_option linter.unusedVariables false
set_option linter.unusedSimpArgs false
namespace Tor
open Go Go.RowKit Go.Proofs
instance {n : Nat} {f : Nat → Int} : Flat (rowF n f) .one := by unfold rowF; infer_instance
attribute [local irreducible] Tor.J Tor.PJ Tor.StepO Tor.one Tor.slT Tor.ptrT Tor.aggT Tor.tupT Tor.exT Tor.andT Tor.gT Tor.eP Tor.boxO Tor.sliO Tor.slV Tor.VT.le Tor.Ret Tor.anyT
attribute [local irreducible] bigT Tor.rowsO
end Tor
end
