/-
  Theorems that the proofs of laws of this seat rest on.
  No condition.
-/
import Derived.Test.YtinfobmidgammaaGreatEE6
set_option linter.unusedVariables false
set_option linter.unusedSimpArgs false
section
namespace Tor
open Go Go.RowKit Go.Proofs
theorem small_zero : small 0 := Nat.zero_le _
abbrev pivT (l : List Nat) : VT := slT .one l.length (pivF l)
def elim0 (n r : Nat) : Prop := 1 ≤ n ∧ (n + 1) * 2 ^ r ≤ 1099511627700
theorem elim0.b {n r : Nat} (h : elim0 n r) : (n + 1) * 2 ^ r ≤ 1099511627776 := Nat.le_trans h.2 (by decide)
theorem elim0.lz {n r : Nat} (h : elim0 n r) {e : ElS} (he : ElOk n r e) {x : Int} (hx : lz (bndN n e.piv.length) x) : lz 1099511627700 x := hx.mono (by
  have h1 := bndN_le (n := n) he.p
  have h2 := bndN_eq n r
  have h3 := h.2
  omega)
theorem det_lz {n r : Nat} {F : Nat → Nat → Int} (he : elim0 n r) (hF : ∀ i j, lz n (F i j)) : lz 1099511627700 (Lin.detZ r F) := by
  rw [← Lin.detE_eq]
  have hok := elN_ok (r := r) false he.1 hF r
  have h := he.lz hok hok.last
  unfold Lin.detE
  split
  · exact lz_zero _
  · split
    · exact lz_neg h
    · exact h
theorem elim0.le {n r s : Nat} (h : elim0 n r) (hs : s ≤ r) : elim0 n s := ⟨h.1, Nat.le_trans (Nat.mul_le_mul_left _ (Nat.pow_le_pow_right (by decide) hs)) h.2⟩
attribute [local irreducible] Tor.J Tor.PJ Tor.StepO Tor.one Tor.slT Tor.ptrT Tor.aggT Tor.tupT Tor.exT Tor.andT Tor.eP Tor.boxO Tor.sliO Tor.slV Tor.VT.le Tor.Ret Tor.anyT Tor.xO
attribute [local irreducible] bigT rowF
set_option maxHeartbeats 4000000 in
theorem square_ok (r c : Nat) (F : Nat → Nat → Int) : Ok Tryz.prog 58 [matF r c F] (one (.bool (decide (r = c)))) := by
  have hv := matValidF_ok r c F
  unfold matF at *
  refine Ok.enter Tryz.func58 rfl Tryz.ntmps58 rfl (fun w O => ?_)
  by_cases h : r = c
  · rw [decide_eq_true h]
    refine J_seq (J_reg ?_)
    refine a_boxS rfl rfl (ltN rfl) (fun b1 => ?_)
    refine st (s_assign rfl) rfl (Run.nil (pj_then (J_seq (J_reg (st (s_loadW 0 rfl rfl) rfl ?_)))))
    refine st (s_callk (hv ) rfl ⟨VT.le_refl _, trivial⟩) rfl ?_
    refine st (s_move rfl) rfl (sg1 rfl rfl (s_fieldAddr rfl) rfl (sg1 rfl rfl (s_loadB 0 rfl rfl rfl) rfl (sg1 rfl rfl (s_fieldAddr rfl) rfl (sg1 rfl rfl (s_loadB 0 rfl rfl rfl) rfl (sg1 rfl rfl (sT (by omega) (s_eq rfl rfl)) rfl (st (s_pickT rfl rfl) rfl (st (s_assign rfl) rfl (Run.nil (pj_then ?_)))))))))
    refine J_ret ?_
    refine retc1 Tryz.results58 (.tmp rfl (VT.le_refl _))
  · rw [decide_eq_false h]
    refine J_seq (J_reg ?_)
    refine a_boxS rfl rfl (ltN rfl) (fun b1 => ?_)
    refine st (s_assign rfl) rfl (Run.nil (pj_then (J_seq (J_reg (st (s_loadW 0 rfl rfl) rfl ?_)))))
    refine st (s_callk (hv ) rfl ⟨VT.le_refl _, trivial⟩) rfl ?_
    refine st (s_move rfl) rfl (sg1 rfl rfl (s_fieldAddr rfl) rfl (sg1 rfl rfl (s_loadB 0 rfl rfl rfl) rfl (sg1 rfl rfl (s_fieldAddr rfl) rfl (sg1 rfl rfl (s_loadB 0 rfl rfl rfl) rfl (sg1 rfl rfl (sF (by omega) (s_eq rfl rfl)) rfl (st (s_pickT rfl rfl) rfl (st (s_assign rfl) rfl (Run.nil (pj_then ?_)))))))))
    refine J_ret ?_
    refine retc1 Tryz.results58 (.tmp rfl (VT.le_refl _))
set_option maxHeartbeats 4000000 in
theorem DetS_ok (r c : Nat) (F : Nat → Nat → Int) (h : r ≠ c) : Ok Tryz.prog 17 [matF r c F] (tupT [bigT 0, one (.int .i64 50)]) := by
  have hs := square_ok r c F
  rw [decide_eq_false h] at hs
  refine Ok.enter Tryz.func17 rfl Tryz.ntmps17 rfl (fun w O => ?_)
  refine J_seq (J_reg ?_)
  refine a_boxS rfl rfl (ltN rfl) (fun b1 => ?_)
  refine a_alloc (T := 43) rfl (ltN rfl) (fun b2 => ?_)
  refine st (s_assign rfl) rfl (Run.nil (pj_then (J_seq (J_seq (J_reg (st (s_loadW 1 rfl rfl) rfl ?_))))))
  refine st (s_callk (hs ) rfl ⟨VT.le_refl _, trivial⟩) rfl ?_
  refine st (s_not rfl) rfl (Run.nil (pj_then (J_cond1 rfl (J_seq (J_reg (stB rfl rfl rfl (BuildK.nil (a_storeB 0 rfl rfl rfl rfl rfl (leN rfl) rfl (st (s_assign rfl) rfl ?_)))))))))
  refine Run.nil (pj_then (J_ret (pr_then ?_)))
  refine retc2 Tryz.results17 (.cellB 0 rfl rfl rfl (zero_bigC)) (.tmp rfl (VT.le_refl _))
set_option maxHeartbeats 4000000 in
theorem Det_ok (r : Nat) (F : Nat → Nat → Int) (n : Nat) (hr : r ≤ 1048576) (he : elim0 n r) (hF : ∀ i j, lz n (F i j)) : Ok Tryz.prog 17 [matF r r F] (tupT [bigT (Lin.detZ r F), one (.int .i64 0)]) := by
  have hs := square_ok r r F
  rw [decide_eq_true rfl] at hs
  have hru := runR_ok r r r F false n hr hr (Nat.le_refl _) he.1 he.b hF
  rw [← Lin.detE_eq]
  obtain ⟨A, V, hEL⟩ := Lin.elN_EL r r false F r (Nat.le_refl _)
  have hpr := hEL.gj.pr
  unfold Lin.detE
  have hok := elN_ok (r := r) false he.1 hF r
  generalize elN r false F r = e at *
  have hlast : small e.last := (he.lz hok hok.last).small (by decide)
  have hneg := NegI_ok e.last hlast
  have hadd := AddI_ok e.last 0 hlast small_zero
  rw [Int.add_zero] at hadd
  unfold matF elimT at *
  refine Ok.enter Tryz.func17 rfl Tryz.ntmps17 rfl (fun w O => ?_)
  by_cases h : e.piv.length < r
  · rw [if_pos h]
    refine J_seq (J_reg ?_)
    refine a_boxS rfl rfl (ltN rfl) (fun b1 => ?_)
    refine a_alloc (T := 43) rfl (ltN rfl) (fun b2 => ?_)
    refine st (s_assign rfl) rfl (Run.nil (pj_then (J_seq (J_seq (J_reg (st (s_loadW 1 rfl rfl) rfl ?_))))))
    refine st (s_callk (hs ) rfl ⟨VT.le_refl _, trivial⟩) rfl ?_
    refine st (s_not rfl) rfl (Run.nil (pj_then (J_cond0 rfl (J_skip (pj_then (J_seq (J_reg (st (s_fieldAddr rfl) rfl (st (s_loadB 1 rfl rfl rfl) rfl ?_)))))))))
    refine st (s_fieldAddr rfl) rfl (st (s_loadB 1 rfl rfl rfl) rfl ?_)
    refine st (s_callk (hru ) rfl ⟨VT.le_refl _, VT.le_refl _, VT.le_refl _, trivial⟩) rfl ?_
    refine st (s_assign rfl) rfl (Run.nil (pj_then (J_seq (J_block (J_seq (J_regd 9 mixed (by kernel_rfl) (by decide) (st (s_move rfl) rfl (st (s_nilCheckI rfl) rfl (st (s_fieldI rfl rfl) rfl ?_)))))))))
    refine st (s_load rfl) rfl (st (s_len rfl) rfl (st (s_fieldAddr rfl) rfl (st (s_loadB 1 rfl rfl rfl) rfl (st (sT (by omega) (s_lt rfl rfl)) rfl (st (s_assign rfl) rfl (Run.nil (Run.nil (pj_then (J_cond1 rfl ?_)))))))))
    refine J_seq (J_reg (stB rfl rfl rfl (BuildK.nil (a_storeB 0 rfl rfl rfl rfl rfl (leN rfl) rfl (st (s_assign rfl) rfl (Run.nil (pj_then (J_ret (pr_block ?_)))))))))
    refine pr_then ?_
    refine retc2 Tryz.results17 (.cellB 0 rfl rfl rfl (zero_bigC)) (.tmp rfl (VT.le_refl _))
  · rw [if_neg h]
    cases ho : e.odd
    · simp only [ho] at *
      refine J_seq (J_reg ?_)
      refine a_boxS rfl rfl (ltN rfl) (fun b1 => ?_)
      refine a_alloc (T := 43) rfl (ltN rfl) (fun b2 => ?_)
      refine st (s_assign rfl) rfl (Run.nil (pj_then (J_seq (J_seq (J_reg (st (s_loadW 1 rfl rfl) rfl ?_))))))
      refine st (s_callk (hs ) rfl ⟨VT.le_refl _, trivial⟩) rfl ?_
      refine st (s_not rfl) rfl (Run.nil (pj_then (J_cond0 rfl (J_skip (pj_then (J_seq (J_reg (st (s_fieldAddr rfl) rfl (st (s_loadB 1 rfl rfl rfl) rfl ?_)))))))))
      refine st (s_fieldAddr rfl) rfl (st (s_loadB 1 rfl rfl rfl) rfl ?_)
      refine st (s_callk (hru ) rfl ⟨VT.le_refl _, VT.le_refl _, VT.le_refl _, trivial⟩) rfl ?_
      refine st (s_assign rfl) rfl (Run.nil (pj_then (J_seq (J_block (J_seq (J_regd 9 mixed (by kernel_rfl) (by decide) (st (s_move rfl) rfl (st (s_nilCheckI rfl) rfl (st (s_fieldI rfl rfl) rfl ?_)))))))))
      refine st (s_load rfl) rfl (st (s_len rfl) rfl (st (s_fieldAddr rfl) rfl (st (s_loadB 1 rfl rfl rfl) rfl (st (sF (by omega) (s_lt rfl rfl)) rfl (st (s_assign rfl) rfl (Run.nil (Run.nil (pj_then (J_cond0 rfl ?_)))))))))
      refine J_seq (J_reg (st (s_move rfl) rfl (st (s_nilCheckI rfl) rfl (st (s_fieldI rfl rfl) rfl (st (s_fieldI rfl rfl) rfl (st (s_load rfl) rfl (st (s_assign rfl) rfl (Run.nil (pj_then ?_)))))))))
      refine J_cond0 rfl (J_skip (pn_block (pj_then (J_seq (J_reg (st (s_move rfl) rfl (st (s_nilCheckI rfl) rfl (st (s_fieldI rfl rfl) rfl (st (s_fieldI rfl rfl) rfl ?_)))))))))
      refine st (s_load rfl) rfl (stB rfl rfl rfl (BuildK.nil ?_))
      refine st (s_callk (hadd ) rfl ⟨VT.le_refl _, (zero_bigC), trivial⟩) rfl ?_
      refine a_storeB 0 rfl rfl rfl rfl rfl (leN rfl) rfl (st (s_assign rfl) rfl (Run.nil (pj_then (J_ret ?_))))
      refine retc2 Tryz.results17 (.cellB 0 rfl rfl rfl (VT.le_refl _)) (.tmp rfl (VT.le_refl _))
    · simp only [ho] at *
      refine J_seq (J_reg ?_)
      refine a_boxS rfl rfl (ltN rfl) (fun b1 => ?_)
      refine a_alloc (T := 43) rfl (ltN rfl) (fun b2 => ?_)
      refine st (s_assign rfl) rfl (Run.nil (pj_then (J_seq (J_seq (J_reg (st (s_loadW 1 rfl rfl) rfl ?_))))))
      refine st (s_callk (hs ) rfl ⟨VT.le_refl _, trivial⟩) rfl ?_
      refine st (s_not rfl) rfl (Run.nil (pj_then (J_cond0 rfl (J_skip (pj_then (J_seq (J_reg (st (s_fieldAddr rfl) rfl (st (s_loadB 1 rfl rfl rfl) rfl ?_)))))))))
      refine st (s_fieldAddr rfl) rfl (st (s_loadB 1 rfl rfl rfl) rfl ?_)
      refine st (s_callk (hru ) rfl ⟨VT.le_refl _, VT.le_refl _, VT.le_refl _, trivial⟩) rfl ?_
      refine st (s_assign rfl) rfl (Run.nil (pj_then (J_seq (J_block (J_seq (J_regd 9 mixed (by kernel_rfl) (by decide) (st (s_move rfl) rfl (st (s_nilCheckI rfl) rfl (st (s_fieldI rfl rfl) rfl ?_)))))))))
      refine st (s_load rfl) rfl (st (s_len rfl) rfl (st (s_fieldAddr rfl) rfl (st (s_loadB 1 rfl rfl rfl) rfl (st (sF (by omega) (s_lt rfl rfl)) rfl (st (s_assign rfl) rfl (Run.nil (Run.nil (pj_then (J_cond0 rfl ?_)))))))))
      refine J_seq (J_reg (st (s_move rfl) rfl (st (s_nilCheckI rfl) rfl (st (s_fieldI rfl rfl) rfl (st (s_fieldI rfl rfl) rfl (st (s_load rfl) rfl (st (s_assign rfl) rfl (Run.nil (pj_then ?_)))))))))
      refine J_cond1 rfl (J_seq (J_reg (st (s_move rfl) rfl (st (s_nilCheckI rfl) rfl (st (s_fieldI rfl rfl) rfl (st (s_fieldI rfl rfl) rfl (st (s_load rfl) rfl ?_)))))))
      refine st (s_callk (hneg ) rfl ⟨VT.le_refl _, trivial⟩) rfl ?_
      refine a_storeB 0 rfl rfl rfl rfl rfl (leN rfl) rfl (st (s_assign rfl) rfl (Run.nil (pj_then (J_ret (pr_block (pr_then ?_))))))
      refine retc2 Tryz.results17 (.cellB 0 rfl rfl rfl (VT.le_refl _)) (.tmp rfl (VT.le_refl _))
set_option maxHeartbeats 4000000 in
theorem Rank_ok (r c : Nat) (F : Nat → Nat → Int) (n : Nat) (hr : r ≤ 1048576) (hc : c ≤ 1048576) (he : elim0 n r) (he' : elim0 n c) (hF : ∀ i j, lz n (F i j)) :
    Ok Tryz.prog 11 [matF r c F] (tupT [pivT (Lin.newL c r (fun i j => F j i) r), pivT (Lin.newL r c F c)]) := by
  have hv := matValidF_ok r c F
  have hF' : ∀ i j, lz n ((fun i j => F j i : Nat → Nat → Int) i j) := fun i j => hF j i
  have hn : n ≤ 1099511627776 := by
    have h1 := he.2
    have h2 : 1 ≤ 2 ^ r := Nat.one_le_two_pow
    have h3 := Nat.mul_le_mul_left (n + 1) h2
    omega
  have ht := Transpose_ok r c F hr hc (fun i j => (hF i j).small hn)
  have h1 := runR_ok r c c F false n hr hc (Nat.le_refl _) he.1 he.b hF
  have h2 := runR_ok c r r (fun i j => F j i) false n hc hr (Nat.le_refl _) he.1 he'.b hF'
  obtain ⟨A, V, hE1⟩ := Lin.elN_EL r c false F c (Nat.le_refl _)
  obtain ⟨A', V', hE2⟩ := Lin.elN_EL c r false (fun i j => F j i) r (Nat.le_refl _)
  rw [← hE1.pl, ← hE2.pl]
  have p1 := hE1.gj.pr
  have p2 := hE2.gj.pr
  have p0 : r = 0 → (elN c false (fun i j => F j i) r).piv.length = 0 ∧ (elN r false F c).piv.length = 0 := fun h => by
    subst h; exact ⟨rfl, by omega⟩
  generalize elN r false F c = e1 at *
  generalize elN c false (fun i j => F j i) r = e2 at *
  unfold matF elimT at *
  refine Ok.enter Tryz.func11 rfl Tryz.ntmps11 rfl (fun w O => ?_)
  by_cases h : r = 0
  · obtain ⟨q1, q2⟩ := p0 h
    refine J_seq (J_reg ?_)
    refine a_boxS rfl rfl (ltN rfl) (fun b1 => ?_)
    refine st (s_assign rfl) rfl (st (s_assign rfl) rfl (Run.nil (pj_then (J_seq (J_seq (J_reg (st (s_loadW 0 rfl rfl) rfl ?_)))))))
    refine st (s_callk (hv ) rfl ⟨VT.le_refl _, trivial⟩) rfl ?_
    refine st (s_not rfl) rfl (st (s_move rfl) rfl (sg1 rfl rfl (s_fieldAddr rfl) rfl (sg1 rfl rfl (s_loadB 0 rfl rfl rfl) rfl (sg1 rfl rfl (sT (by omega) (s_eq rfl rfl)) rfl (st (s_pickF rfl rfl) rfl (Run.nil (pj_then (J_cond1 rfl (J_seq ?_)))))))))
    refine J_reg (st (s_assign rfl) rfl (st (s_assign rfl) rfl (Run.nil (pj_then (J_ret (pr_then ?_))))))
    refine retc2 Tryz.results11 (.tmp rfl (by (unfold pivT; rw [q1]; exact nil_slT))) (.tmp rfl (by (unfold pivT; rw [q2]; exact nil_slT)))
  · refine J_seq (J_reg ?_)
    refine a_boxS rfl rfl (ltN rfl) (fun b1 => ?_)
    refine st (s_assign rfl) rfl (st (s_assign rfl) rfl (Run.nil (pj_then (J_seq (J_seq (J_reg (st (s_loadW 0 rfl rfl) rfl ?_)))))))
    refine st (s_callk (hv ) rfl ⟨VT.le_refl _, trivial⟩) rfl ?_
    refine st (s_not rfl) rfl (st (s_move rfl) rfl (sg1 rfl rfl (s_fieldAddr rfl) rfl (sg1 rfl rfl (s_loadB 0 rfl rfl rfl) rfl (sg1 rfl rfl (sF (by omega) (s_eq rfl rfl)) rfl (st (s_pickF rfl rfl) rfl (Run.nil (pj_then (J_cond0 rfl (J_skip ?_)))))))))
    refine pj_then (J_seq (J_regd 9 mixed (by kernel_rfl) (by decide) (st (s_loadW 0 rfl rfl) rfl ?_)))
    refine st (s_callk (ht ) rfl ⟨VT.le_refl _, trivial⟩) rfl ?_
    refine st (s_field rfl rfl) rfl (st (s_fieldAddr rfl) rfl (st (s_loadB 0 rfl rfl rfl) rfl ?_))
    refine st (s_callk (h2 ) rfl ⟨VT.le_refl _, VT.le_refl _, VT.le_refl _, trivial⟩) rfl ?_
    refine st (s_nilCheckI rfl) rfl (st (s_fieldI rfl rfl) rfl (st (s_load rfl) rfl (Run.nil (st (s_assign rfl) rfl (Run.nil (pj_then (J_seq (J_regd 10 mixed (by kernel_rfl) (by decide) (st (s_move rfl) rfl ?_)))))))))
    refine st (s_fieldAddr rfl) rfl (st (s_loadB 0 rfl rfl rfl) rfl (st (s_fieldAddr rfl) rfl (st (s_loadB 0 rfl rfl rfl) rfl ?_)))
    refine st (s_callk (h1 ) rfl ⟨VT.le_refl _, VT.le_refl _, VT.le_refl _, trivial⟩) rfl ?_
    refine st (s_nilCheckI rfl) rfl (st (s_fieldI rfl rfl) rfl (st (s_load rfl) rfl (st (s_assign rfl) rfl (Run.nil (st (s_assign rfl) rfl (Run.nil (pj_then (J_ret ?_))))))))
    refine retc2 Tryz.results11 (.tmp rfl (VT.le_refl _)) (.tmp rfl (VT.le_refl _))
end Tor
end
section
namespace Tor
open Go Go.RowKit Go.Proofs
theorem rden_le (n d : Int) (h : d ≠ 0) : (Rat.divInt n d).den ≤ d.natAbs := by
  rw [Rat.den_divInt, if_neg h]
  exact Nat.div_le_self _ _
theorem rnum_le (n d : Int) : (Rat.divInt n d).num.natAbs ≤ n.natAbs := by
  rw [Rat.num_divInt]
  refine Nat.le_trans (Int.natAbs_ediv_le_natAbs _ _) ?_
  rw [Int.natAbs_mul]
  have : d.sign.natAbs ≤ 1 := by rw [Int.natAbs_sign]; split <;> omega
  exact Nat.le_trans (Nat.mul_le_mul_right _ this) (by omega)
theorem radd_div (a b : Rat) : a + b = Rat.divInt (a.num * b.den + b.num * a.den) (a.den * b.den) := by
  rw [Rat.add_def', ← Rat.divInt_ofNat]; simp
theorem rmul_div (a b : Rat) : a * b = Rat.divInt (a.num * b.num) (a.den * b.den) := by
  rw [Rat.mul_def', ← Rat.divInt_ofNat]; simp
theorem rself_div (a : Rat) : Rat.divInt a.num a.den = a := by
  rw [Rat.divInt_ofNat, Rat.mkRat_self]
theorem rdiv_div (a b : Rat) : a / b = Rat.divInt (a.num * b.den) (a.den * b.num) := by
  rw [Rat.div_def, Rat.inv_def]
  conv => lhs; rw [← rself_div a]
  rw [Rat.divInt_mul_divInt]
def qz (n : Nat) (q : Rat) : Prop := lz n q.num ∧ lz n (q.den : Int)
theorem qz.mono {n m : Nat} {q : Rat} (h : qz n q) (hn : n ≤ m) : qz m q := ⟨h.1.mono hn, h.2.mono hn⟩
theorem qz_div {n : Nat} {a d : Int} (ha : lz n a) (hd : lz n d) (h : d ≠ 0) : qz n (Rat.divInt a d) := ⟨lz_le ha (rnum_le a d), lz_le hd (by rw [Int.natAbs_natCast]; exact rden_le a d h)⟩
theorem qz_int {n : Nat} {a : Int} (hn : 1 ≤ n) (h : lz n a) : qz n (a : Rat) := ⟨by rw [Rat.num_intCast]; exact h, by rw [Rat.den_intCast]; exact lz_one hn⟩
theorem qden_ne (q : Rat) : (q.den : Int) ≠ 0 := by have := q.den_nz; omega
theorem qz_neg {n : Nat} {q : Rat} (h : qz n q) : qz n (-q) := ⟨by rw [Rat.neg_num]; exact lz_neg h.1, by rw [Rat.neg_den]; exact h.2⟩
theorem qz_add {n m : Nat} {p q : Rat} (hp : qz n p) (hq : qz m q) : qz (n + m + 1) (p + q) := by
  rw [radd_div]
  have h1 := lz_mul hp.1 hq.2
  have h2 := lz_mul hq.1 hp.2
  rw [Nat.add_comm m n] at h2
  exact qz_div (lz_add h1 h2) ((lz_mul hp.2 hq.2).mono (by omega)) (Int.mul_ne_zero (qden_ne p) (qden_ne q))
theorem qz_sub {n m : Nat} {p q : Rat} (hp : qz n p) (hq : qz m q) : qz (n + m + 1) (p - q) := by
  rw [Rat.sub_eq_add_neg]; exact qz_add hp (qz_neg hq)
theorem qz_mul {n m : Nat} {p q : Rat} (hp : qz n p) (hq : qz m q) : qz (n + m) (p * q) := by
  rw [rmul_div]
  exact qz_div (lz_mul hp.1 hq.1) (lz_mul hp.2 hq.2) (Int.mul_ne_zero (qden_ne p) (qden_ne q))
theorem qz_over {n m : Nat} {p q : Rat} (hp : qz n p) (hq : qz m q) (h : q ≠ 0) : qz (n + m) (p / q) := by
  rw [rdiv_div]
  exact qz_div (lz_mul hp.1 hq.2) (lz_mul hp.2 hq.1) (Int.mul_ne_zero (qden_ne p) (fun e => h (Rat.num_eq_zero.1 e)))
theorem qz_zero (n : Nat) (hn : 1 ≤ n) : qz n 0 := qz_int (a := 0) hn (lz_zero n)
attribute [local irreducible] Tor.J Tor.PJ Tor.StepO Tor.one Tor.slT Tor.ptrT Tor.aggT Tor.tupT Tor.exT Tor.andT Tor.eP Tor.boxO Tor.sliO Tor.slV Tor.VT.le Tor.Ret Tor.anyT Tor.xO
attribute [local irreducible] bigT
set_option maxHeartbeats 4000000 in
theorem rqWhole_ok (a : Int) : Ok Tryz.prog 52 [bigT a] (ratT (a : Rat)) := by
  have h1 := rOf_ok 1 (by decide) (by decide)
  unfold ratT
  rw [Rat.num_intCast, Rat.den_intCast]
  refine Ok.enter Tryz.func52 rfl Tryz.ntmps52 rfl (fun w O => ?_)
  refine J_seq (J_reg ?_)
  refine a_box rfl rfl (ltN rfl) (fun b1 => ?_)
  refine a_allocS (T := 63) rfl rfl rfl (fun b2 => ?_)
  refine Run.nil (pj_then (J_seq (J_regd 2 mixed (by kernel_rfl) (by decide) (st (s_loadB 1 rfl rfl rfl) rfl ?_))))
  refine st (s_callk (h1 ) rfl ⟨VT.le_refl _, trivial⟩) rfl ?_
  refine Run.nil (stB rfl rfl rfl (BuildK.cons rfl rfl rfl (BuildK.cons rfl rfl rfl (BuildK.nil (a_storeW 0 rfl rfl rfl rfl (Run.nil (pj_then (J_ret ?_))))))))
  refine retc1 Tryz.results52 (.cellW 0 rfl rfl (fracT_of rfl rfl))
set_option maxHeartbeats 4000000 in
theorem rqNumber_ok (n : Int) (h1 : -9223372036854775808 ≤ n) (h2 : n ≤ 9223372036854775807) : Ok Tryz.prog 33 [one (.int .i64 n)] (ratT (n : Rat)) := by
  have ho := rOf_ok n h1 h2
  refine Ok.enter Tryz.func33 rfl Tryz.ntmps33 rfl (fun w O => ?_)
  refine J_seq (J_reg ?_)
  refine a_allocS (T := 63) rfl rfl rfl (fun b2 => ?_)
  refine Run.nil (pj_then (J_seq (J_reg (st (s_move rfl) rfl ?_))))
  refine st (s_callk (ho ) rfl ⟨VT.le_refl _, trivial⟩) rfl ?_
  refine st (s_callk (rqWhole_ok _) rfl ⟨VT.le_refl _, trivial⟩) rfl ?_
  refine a_storeW 0 rfl rfl rfl rfl (Run.nil (pj_then (J_ret ?_)))
  refine retc1 Tryz.results33 (.cellW 0 rfl rfl (VT.le_refl _))
set_option maxHeartbeats 4000000 in
theorem rqSign_ok (q : Rat) : Ok Tryz.prog 36 [ratT q] (one (.int .i64 (sgnI q.num))) := by
  unfold ratT fracT
  refine Ok.enter Tryz.func36 rfl Tryz.ntmps36 rfl (fun w O => ?_)
  refine J_seq (J_reg ?_)
  refine a_boxS rfl rfl (ltN rfl) (fun b1 => ?_)
  refine st (s_assign rfl) rfl (Run.nil (pj_then (J_seq (J_reg (st (s_fieldAddr rfl) rfl (st (s_loadB 0 rfl rfl rfl) rfl ?_))))))
  refine st (s_callk (rSignI_ok _) rfl ⟨VT.le_refl _, trivial⟩) rfl ?_
  refine st (s_assign rfl) rfl (Run.nil (pj_then (J_ret ?_)))
  refine retc1 Tryz.results36 (.tmp rfl (VT.le_refl _))
set_option maxHeartbeats 4000000 in
theorem rqNeg_ok (q : Rat) (h : small q.num) : Ok Tryz.prog 61 [ratT q] (ratT (-q)) := by
  have hn := rNegI_ok q.num h
  rw [← Rat.neg_num] at hn
  unfold ratT fracT
  refine Ok.enter Tryz.func61 rfl Tryz.ntmps61 rfl (fun w O => ?_)
  refine J_seq (J_reg ?_)
  refine a_boxS rfl rfl (ltN rfl) (fun b1 => ?_)
  refine a_allocS (T := 63) rfl rfl rfl (fun b2 => ?_)
  refine Run.nil (pj_then (J_seq (J_regd 6 mixed (by kernel_rfl) (by decide) (st (s_fieldAddr rfl) rfl (st (s_loadB 1 rfl rfl rfl) rfl ?_)))))
  refine st (s_callk (hn ) rfl ⟨VT.le_refl _, trivial⟩) rfl ?_
  refine st (s_fieldAddr rfl) rfl (st (s_loadB 1 rfl rfl rfl) rfl (stB rfl rfl rfl (BuildK.cons rfl rfl rfl (BuildK.cons rfl rfl rfl (BuildK.nil (Run.nil (a_storeW 0 rfl rfl rfl rfl (Run.nil (pj_then ?_)))))))))
  refine J_ret ?_
  refine retc1 Tryz.results61 (.cellW 0 rfl rfl (fracT_of rfl (by rw [Rat.neg_den])))
set_option maxHeartbeats 4000000 in
theorem rqof_ok (n d : Int) (hd : d ≠ 0) (hn : small0 n) (hds : small0 d) : Ok Tryz.prog 87 [bigT n, bigT d] (ratT (Rat.divInt n d)) := by
  have h := rqOf_ok n d hd hn hds
  unfold ratT fracT at *
  refine Ok.enter Tryz.func87 rfl Tryz.ntmps87 rfl (fun w O => ?_)
  refine J_seq (J_reg ?_)
  refine a_box rfl rfl (ltN rfl) (fun b2 => ?_)
  refine a_box rfl rfl (ltN rfl) (fun b3 => ?_)
  refine a_allocS (T := 63) rfl rfl rfl (fun b4 => ?_)
  refine Run.nil (pj_then (J_seq (J_reg (st (s_loadB 2 rfl rfl rfl) rfl (st (s_loadB 1 rfl rfl rfl) rfl ?_)))))
  refine st (s_callk (h ) rfl ⟨VT.le_refl _, VT.le_refl _, trivial⟩) rfl ?_
  refine st (s_move rfl) rfl (st (s_extract rfl rfl) rfl (st (s_extract rfl rfl) rfl ?_))
  refine a_allocS (T := 63) rfl rfl rfl (fun b5 => ?_)
  refine a_storeW 0 rfl rfl rfl rfl (st (s_assign rfl) rfl (Run.nil (pj_then (J_seq (J_reg (st (s_loadW 0 rfl rfl) rfl (a_storeW 1 rfl rfl rfl rfl (Run.nil (pj_then ?_)))))))))
  refine J_ret ?_
  refine retc1 Tryz.results87 (.cellW 1 rfl rfl (VT.le_refl _))
set_option maxHeartbeats 4000000 in
theorem rqAdd_ok (p q : Rat) (n m : Nat) (hp : qz n p) (hq : qz m q) (h : n + m + 1 ≤ 1099511627700) : Ok Tryz.prog 73 [ratT p, ratT q] (ratT (p + q)) := by
  have m1 := lz_mul hp.1 hq.2
  have m2 := lz_mul hq.1 hp.2
  have m3 := lz_mul hp.2 hq.2
  rw [Nat.add_comm m n] at m2
  have c1 := rMulI_ok p.num q.den (hp.1.small (by omega)) (hq.2.small (by omega))
  have c2 := rMulI_ok q.num p.den (hq.1.small (by omega)) (hp.2.small (by omega))
  have c3 := rMulI_ok (p.den : Int) q.den (hp.2.small (by omega)) (hq.2.small (by omega))
  have c4 := rAddI_ok (p.num * q.den) (q.num * p.den) (m1.small (by omega)) (m2.small (by omega))
  have c5 := rqof_ok (p.num * q.den + q.num * p.den) (p.den * q.den) (Int.mul_ne_zero (qden_ne p) (qden_ne q)) ((lz_add m1 m2).small0 h) (m3.small0 (by omega))
  rw [radd_div]
  unfold ratT fracT at *
  refine Ok.enter Tryz.func73 rfl Tryz.ntmps73 rfl (fun w O => ?_)
  refine J_seq (J_reg ?_)
  refine a_boxS rfl rfl (ltN rfl) (fun b2 => ?_)
  refine a_boxS rfl rfl (ltN rfl) (fun b3 => ?_)
  refine a_allocS (T := 63) rfl rfl rfl (fun b4 => ?_)
  refine Run.nil (pj_then (J_seq ?_))
  refine J_regU2 mixed (by kernel_rfl) (by kernel_rfl) ?_
  refine ux (fun B => s_fieldAddr rfl) rfl rfl ?_
  refine ux (fun B => s_loadB 2 rfl rfl rfl) rfl rfl ?_
  refine ux (fun B => s_fieldAddr rfl) rfl rfl ?_
  refine ux (fun B => s_loadB 1 rfl rfl rfl) rfl rfl ?_
  refine uxk (c1 ) rfl ⟨VT.le_refl _, VT.le_refl _, trivial⟩ rfl ?_
  refine ux (fun B => s_fieldAddr rfl) rfl rfl ?_
  refine ux (fun B => s_loadB 1 rfl rfl rfl) rfl rfl ?_
  refine ux (fun B => s_fieldAddr rfl) rfl rfl ?_
  refine ux (fun B => s_loadB 2 rfl rfl rfl) rfl rfl ?_
  refine uxk (c2 ) rfl ⟨VT.le_refl _, VT.le_refl _, trivial⟩ rfl ?_
  refine uxk (c4 ) rfl ⟨VT.le_refl _, VT.le_refl _, trivial⟩ rfl ?_
  refine ua rfl (us rfl ?_)
  refine RunU.nil (fun γ => ?_)
  refine PJ_normM (M' := [_, _, _, _]) rfl (pj_then (J_seq (J_regd 7 mixed (by kernel_rfl) (by decide) (st (s_loadB 0 rfl rfl rfl) rfl (st (s_fieldAddr rfl) rfl (st (s_loadB 3 rfl rfl rfl) rfl (st (s_fieldAddr rfl) rfl (st (s_loadB 2 rfl rfl rfl) rfl ?_))))))))
  refine st (s_callk (c3 ) rfl ⟨VT.le_refl _, VT.le_refl _, trivial⟩) rfl ?_
  refine st (s_callk (c5 ) rfl ⟨VT.le_refl _, VT.le_refl _, trivial⟩) rfl ?_
  refine Run.nil (a_storeW 1 rfl rfl rfl rfl (Run.nil (pj_then (J_ret ?_))))
  refine retc1 Tryz.results73 (.cellW 1 rfl rfl (VT.le_refl _))
set_option maxHeartbeats 4000000 in
theorem rqSub_ok (p q : Rat) (n m : Nat) (hp : qz n p) (hq : qz m q) (h : n + m + 1 ≤ 1099511627700) : Ok Tryz.prog 56 [ratT p, ratT q] (ratT (p - q)) := by
  have c1 := rqNeg_ok q (hq.1.small (by omega))
  have c2 := rqAdd_ok p (-q) n m hp (qz_neg hq) h
  rw [← Rat.sub_eq_add_neg] at c2
  refine Ok.enter Tryz.func56 rfl Tryz.ntmps56 rfl (fun w O => ?_)
  refine J_seq (J_reg ?_)
  refine a_boxS rfl rfl (ltN rfl) (fun b2 => ?_)
  refine a_boxS rfl rfl (ltN rfl) (fun b3 => ?_)
  refine a_allocS (T := 63) rfl rfl rfl (fun b4 => ?_)
  refine Run.nil (pj_then (J_seq (J_regd 4 mixed (by kernel_rfl) (by decide) (st (s_loadW 2 rfl rfl) rfl (st (s_loadW 1 rfl rfl) rfl ?_)))))
  refine st (s_callk (c1 ) rfl ⟨VT.le_refl _, trivial⟩) rfl ?_
  refine st (s_callk (c2 ) rfl ⟨VT.le_refl _, VT.le_refl _, trivial⟩) rfl ?_
  refine Run.nil (a_storeW 0 rfl rfl rfl rfl (Run.nil (pj_then (J_ret ?_))))
  refine retc1 Tryz.results56 (.cellW 0 rfl rfl (VT.le_refl _))
set_option maxHeartbeats 4000000 in
theorem rqMul_ok (p q : Rat) (n m : Nat) (hp : qz n p) (hq : qz m q) (h : n + m ≤ 1099511627700) : Ok Tryz.prog 57 [ratT p, ratT q] (ratT (p * q)) := by
  have c1 := rMulI_ok p.num q.num (hp.1.small (by omega)) (hq.1.small (by omega))
  have c2 := rMulI_ok (p.den : Int) q.den (hp.2.small (by omega)) (hq.2.small (by omega))
  have c3 := rqof_ok (p.num * q.num) (p.den * q.den) (Int.mul_ne_zero (qden_ne p) (qden_ne q)) ((lz_mul hp.1 hq.1).small0 h) ((lz_mul hp.2 hq.2).small0 h)
  rw [rmul_div]
  unfold ratT fracT at *
  refine Ok.enter Tryz.func57 rfl Tryz.ntmps57 rfl (fun w O => ?_)
  refine J_seq (J_reg ?_)
  refine a_boxS rfl rfl (ltN rfl) (fun b2 => ?_)
  refine a_boxS rfl rfl (ltN rfl) (fun b3 => ?_)
  refine a_allocS (T := 63) rfl rfl rfl (fun b4 => ?_)
  refine Run.nil (pj_then (J_seq (J_regd 11 mixed (by kernel_rfl) (by decide) (st (s_fieldAddr rfl) rfl (st (s_loadB 2 rfl rfl rfl) rfl (st (s_fieldAddr rfl) rfl (st (s_loadB 1 rfl rfl rfl) rfl ?_)))))))
  refine st (s_callk (c1 ) rfl ⟨VT.le_refl _, VT.le_refl _, trivial⟩) rfl ?_
  refine st (s_fieldAddr rfl) rfl (st (s_loadB 2 rfl rfl rfl) rfl (st (s_fieldAddr rfl) rfl (st (s_loadB 1 rfl rfl rfl) rfl ?_)))
  refine st (s_callk (c2 ) rfl ⟨VT.le_refl _, VT.le_refl _, trivial⟩) rfl ?_
  refine st (s_callk (c3 ) rfl ⟨VT.le_refl _, VT.le_refl _, trivial⟩) rfl ?_
  refine Run.nil (a_storeW 0 rfl rfl rfl rfl (Run.nil (pj_then (J_ret ?_))))
  refine retc1 Tryz.results57 (.cellW 0 rfl rfl (VT.le_refl _))
set_option maxHeartbeats 4000000 in
theorem rqDiv_ok (p q : Rat) (n m : Nat) (hp : qz n p) (hq : qz m q) (h : n + m ≤ 1099511627700) (h0 : q ≠ 0) : Ok Tryz.prog 86 [ratT p, ratT q] (tupT [ratT (p / q), one (.int .i64 0)]) := by
  have c1 := rMulI_ok p.num q.den (hp.1.small (by omega)) (hq.2.small (by omega))
  have c2 := rMulI_ok (p.den : Int) q.num (hp.2.small (by omega)) (hq.1.small (by omega))
  have c3 := rqOf_ok (p.num * q.den) (p.den * q.num) (Int.mul_ne_zero (qden_ne p) (fun e => h0 (Rat.num_eq_zero.1 e))) ((lz_mul hp.1 hq.2).small0 h) ((lz_mul hp.2 hq.1).small0 h)
  rw [rdiv_div]
  unfold ratT fracT at *
  refine Ok.enter Tryz.func86 rfl Tryz.ntmps86 rfl (fun w O => ?_)
  refine J_seq (J_reg ?_)
  refine a_boxS rfl rfl (ltN rfl) (fun b2 => ?_)
  refine a_boxS rfl rfl (ltN rfl) (fun b3 => ?_)
  refine a_allocS (T := 63) rfl rfl rfl (fun b4 => ?_)
  refine st (s_assign rfl) rfl (Run.nil (pj_then (J_seq (J_regd 13 mixed (by kernel_rfl) (by decide) (st (s_fieldAddr rfl) rfl (st (s_loadB 2 rfl rfl rfl) rfl (st (s_fieldAddr rfl) rfl (st (s_loadB 1 rfl rfl rfl) rfl ?_))))))))
  refine st (s_callk (c1 ) rfl ⟨VT.le_refl _, VT.le_refl _, trivial⟩) rfl ?_
  refine st (s_fieldAddr rfl) rfl (st (s_loadB 2 rfl rfl rfl) rfl (st (s_fieldAddr rfl) rfl (st (s_loadB 1 rfl rfl rfl) rfl ?_)))
  refine st (s_callk (c2 ) rfl ⟨VT.le_refl _, VT.le_refl _, trivial⟩) rfl ?_
  refine st (s_callk (c3 ) rfl ⟨VT.le_refl _, VT.le_refl _, trivial⟩) rfl ?_
  refine st (s_extract rfl rfl) rfl (st (s_extract rfl rfl) rfl (Run.nil (a_storeW 0 rfl rfl rfl rfl (st (s_assign rfl) rfl (Run.nil (pj_then (J_ret ?_)))))))
  refine retc2 Tryz.results86 (.cellW 0 rfl rfl (VT.le_refl _)) (.tmp rfl (VT.le_refl _))
set_option maxHeartbeats 4000000 in
theorem rqOver_ok (p q : Rat) (n m : Nat) (hp : qz n p) (hq : qz m q) (h : n + m ≤ 1099511627700) (h0 : q ≠ 0) : Ok Tryz.prog 55 [ratT p, ratT q] (ratT (p / q)) := by
  have c := rqDiv_ok p q n m hp hq h h0
  unfold ratT fracT at *
  refine Ok.enter Tryz.func55 rfl Tryz.ntmps55 rfl (fun w O => ?_)
  refine J_seq (J_reg ?_)
  refine a_boxS rfl rfl (ltN rfl) (fun b2 => ?_)
  refine a_boxS rfl rfl (ltN rfl) (fun b3 => ?_)
  refine a_allocS (T := 63) rfl rfl rfl (fun b4 => ?_)
  refine Run.nil (pj_then (J_seq (J_reg (st (s_loadW 2 rfl rfl) rfl (st (s_loadW 1 rfl rfl) rfl ?_)))))
  refine st (s_callk (c ) rfl ⟨VT.le_refl _, VT.le_refl _, trivial⟩) rfl ?_
  refine st (s_move rfl) rfl (st (s_extract rfl rfl) rfl (st (s_extract rfl rfl) rfl ?_))
  refine a_allocS (T := 63) rfl rfl rfl (fun b5 => ?_)
  refine a_storeW 0 rfl rfl rfl rfl (st (s_assign rfl) rfl (Run.nil (pj_then (J_seq (J_reg (st (s_loadW 0 rfl rfl) rfl (a_storeW 1 rfl rfl rfl rfl (Run.nil (pj_then ?_)))))))))
  refine J_ret ?_
  refine retc1 Tryz.results55 (.cellW 1 rfl rfl (VT.le_refl _))
set_option maxHeartbeats 4000000 in
theorem rqMade_ok (n d : Int) (hd : d ≠ 0) (n1 : -9223372036854775808 ≤ n) (n2 : n ≤ 9223372036854775807) (d1 : -9223372036854775808 ≤ d) (d2 : d ≤ 9223372036854775807) : Ok Tryz.prog 76 [one (.int .i64 n), one (.int .i64 d)] (ratT (Rat.divInt n d)) := by
  have o1 := rOf_ok n n1 n2
  have o2 := rOf_ok d d1 d2
  have c := rqof_ok n d hd (small0_lt (by omega)) (small0_lt (by omega))
  refine Ok.enter Tryz.func76 rfl Tryz.ntmps76 rfl (fun w O => ?_)
  refine J_seq (J_reg ?_)
  refine a_allocS (T := 63) rfl rfl rfl (fun b4 => ?_)
  refine Run.nil (pj_then (J_seq (J_seq (J_reg (st (s_move rfl) rfl (st (sF (by assumption) (s_eq rfl rfl)) rfl (Run.nil (pj_then (J_cond0 rfl ?_)))))))))
  refine J_skip (pj_then (J_seq (J_reg (st (s_move rfl) rfl ?_))))
  refine st (s_callk (o1 ) rfl ⟨VT.le_refl _, trivial⟩) rfl ?_
  refine st (s_move rfl) rfl ?_
  refine st (s_callk (o2 ) rfl ⟨VT.le_refl _, trivial⟩) rfl ?_
  refine st (s_callk (c ) rfl ⟨VT.le_refl _, VT.le_refl _, trivial⟩) rfl ?_
  refine a_storeW 0 rfl rfl rfl rfl (Run.nil (pj_then (J_ret ?_)))
  refine retc1 Tryz.results76 (.cellW 0 rfl rfl (VT.le_refl _))
set_option maxHeartbeats 4000000 in
theorem rqList_ok (n m : Nat) (l k : Nat → Rat) (hn : n ≤ 1048576) : Ok Tryz.prog 16 [slT (.agg 4) n (fun i => ratT (l i)), slT (.agg 4) m (fun i => ratT (k i))] (one (.bool (decide (n = m ∧ ∀ i, i < n → l i = k i)))) := by
  refine Ok.enter Tryz.func16 rfl Tryz.ntmps16 rfl (fun w O => ?_)
  by_cases h : n = m
  · subst h
    refine J_seq (J_reg (st (s_assign rfl) rfl (Run.nil (pj_then (J_seq (J_seq (J_reg (st (s_move rfl) rfl (st (s_len rfl) rfl ?_)))))))))
    refine st (s_move rfl) rfl (st (s_len rfl) rfl (st (sF (by omega) (s_ne rfl rfl)) rfl (Run.nil (pj_then (J_cond0 rfl (J_skip (pj_then (J_seq (J_seq ?_)))))))))
    refine J_reg (st (s_assign rfl) rfl (Run.nil (pj_then (J_block (J_sub (Γ' := [(0, _), (1, _), (4, _), (5, _)]) (SubG.cons rfl (VT.le_refl _) (SubG.cons rfl (VT.le_refl _) (SubG.cons rfl (VT.le_refl _) (SubG.cons rfl (VT.le_refl _) (SubG.nil))))) (SubM.refl _) ?_)))))
    refine J_loopA (σ := Nat) (Γk := [(0, _), (1, _)]) (SubG.cons rfl (VT.le_refl _) (SubG.cons rfl (VT.le_refl _) (SubG.nil))) (fun i => [(5, one (.int .i64 (i : Nat)))]) (fun i M0 => M0) (fun i => i ≤ n ∧ ∀ q, q < i → l q = k q) (fun i => n - i) (0) (⟨Nat.zero_le _, fun q h => absurd h (Nat.not_lt_zero _)⟩) (by repeat (first | exact SubG.refl _ | exact SubG.nil | refine SubG.cons rfl (VT.le_refl _) ?_ | (refine SubG.cons rfl (one_le ?_) ?_; (congr 1; first | omega | (simp; omega) | simp)))) (.nil) (fun i hi => ?_)
    refine J_norm (Γ' := [(5, _), (0, _), (1, _)]) (M' := []) rfl rfl ?_
    obtain ⟨hi, hq⟩ := hi
    by_cases hin : i < n
    · have hs := rqSame_ok (l i) (k i)
      by_cases he : l i = k i
      · rw [decide_eq_true he] at hs
        refine J_seq (J_seq (J_reg (st (s_move rfl) rfl (st (s_move rfl) rfl (st (s_len rfl) rfl (st (sT (by omega) (s_lt rfl rfl)) rfl (Run.nil (pj_then (J_cond1 rfl ?_)))))))))
        refine J_skip (pj_then (J_seq (J_block (J_seq (J_regd 10 mixed (by kernel_rfl) (by decide) (st (s_move rfl) rfl (st (s_move rfl) rfl (st (s_indexIN rfl rfl (by omega)) rfl (st (s_load rfl) rfl ?_)))))))))
        refine st (s_move rfl) rfl (st (s_move rfl) rfl (st (s_indexIN rfl rfl (by omega)) rfl (st (s_load rfl) rfl ?_)))
        refine st (s_callk (hs ) rfl ⟨VT.le_refl _, VT.le_refl _, trivial⟩) rfl ?_
        refine st (s_not rfl) rfl (Run.nil (Run.nil (pj_then (J_cond0 rfl (J_skip (pn_block (pj_then (J_reg (st (s_move rfl) rfl ?_)))))))))
        refine st (s_addN _ 1 rfl rfl (by omega)) rfl (st (s_assign rfl) rfl (Run.nil ?_))
        refine pj_roundM (i + 1) (⟨hin, fun q h => by by_cases h3 : q = i; exact h3 ▸ he; exact hq q (by omega)⟩) (by omega) (by repeat (first | exact SubG.refl _ | exact SubG.nil | refine SubG.cons rfl (VT.le_refl _) ?_ | (refine SubG.cons rfl (one_le ?_) ?_; (congr 1; first | omega | (simp; omega) | simp)))) (.nil)
      · rw [decide_eq_false he] at hs
        rw [decide_eq_false (fun h => he (h.2 i hin))]
        refine J_seq (J_seq (J_reg (st (s_move rfl) rfl (st (s_move rfl) rfl (st (s_len rfl) rfl (st (sT (by omega) (s_lt rfl rfl)) rfl (Run.nil (pj_then (J_cond1 rfl ?_)))))))))
        refine J_skip (pj_then (J_seq (J_block (J_seq (J_regd 10 mixed (by kernel_rfl) (by decide) (st (s_move rfl) rfl (st (s_move rfl) rfl (st (s_indexIN rfl rfl (by omega)) rfl (st (s_load rfl) rfl ?_)))))))))
        refine st (s_move rfl) rfl (st (s_move rfl) rfl (st (s_indexIN rfl rfl (by omega)) rfl (st (s_load rfl) rfl ?_)))
        refine st (s_callk (hs ) rfl ⟨VT.le_refl _, VT.le_refl _, trivial⟩) rfl ?_
        refine st (s_not rfl) rfl (Run.nil (Run.nil (pj_then (J_cond1 rfl (J_seq (J_reg (st (s_assign rfl) rfl (Run.nil (pj_then ?_)))))))))
        refine J_ret (pr_block (pr_then (pr_then (pr_block (pr_then ?_)))))
        refine retc1 Tryz.results16 (.tmp rfl (VT.le_refl _))
    · rw [decide_eq_true ⟨rfl, fun q h => hq q (by omega)⟩]
      refine J_seq (J_seq (J_reg (st (s_move rfl) rfl (st (s_move rfl) rfl (st (s_len rfl) rfl (st (sF (by omega) (s_lt rfl rfl)) rfl (Run.nil (pj_then (J_cond0 rfl ?_)))))))))
      refine J_exit (px_then (px_then (px_block (pj_then (J_seq (J_reg (st (s_assign rfl) rfl (Run.nil (pj_then ?_)))))))))
      refine J_ret ?_
      refine retc1 Tryz.results16 (.tmp rfl (VT.le_refl _))
  · rw [decide_eq_false (fun k => h k.1)]
    refine J_seq (J_reg (st (s_assign rfl) rfl (Run.nil (pj_then (J_seq (J_seq (J_reg (st (s_move rfl) rfl (st (s_len rfl) rfl ?_)))))))))
    refine st (s_move rfl) rfl (st (s_len rfl) rfl (st (sT (by omega) (s_ne rfl rfl)) rfl (Run.nil (pj_then (J_cond1 rfl (J_seq (J_reg (st (s_assign rfl) rfl (Run.nil ?_)))))))))
    refine pj_then (J_ret (pr_then ?_))
    refine retc1 Tryz.results16 (.tmp rfl (VT.le_refl _))
end Tor
end
section
namespace Tor
open Go Go.RowKit Go.Proofs
theorem notOut {n : Nat} {l : List Int} (h : ∀ i, i < l.length → 0 ≤ l.getD i 0 ∧ l.getD i 0 < n) : outs n l = false := by
  rw [outs, List.any_eq_false]
  intro x hx
  obtain ⟨i, hi, rfl⟩ := List.getElem_of_mem hx
  have := h i hi
  have e : l.getD i 0 = l[i] := by simp [List.getD, hi]
  rw [e] at this
  simp; omega
theorem isOut {n : Nat} {l : List Int} {i : Nat} (hi : i < l.length) (h : l.getD i 0 < 0 ∨ (n : Int) ≤ l.getD i 0) : outs n l = true := by
  rw [outs, List.any_eq_true]
  have e : l.getD i 0 = l[i] := by simp [List.getD, hi]
  rw [e] at h
  exact ⟨l[i], List.getElem_mem hi, decide_eq_true h⟩
attribute [local irreducible] Tor.J Tor.PJ Tor.StepO Tor.one Tor.slT Tor.ptrT Tor.aggT Tor.tupT Tor.exT Tor.andT Tor.eP Tor.boxO Tor.sliO Tor.slV Tor.VT.le Tor.Ret Tor.anyT
attribute [local irreducible] bigT Tor.rowsO
set_option maxHeartbeats 4000000 in
theorem rInside_ok (l : List Int) (n : Nat) (hl : l.length ≤ 1048576) : Ok Tryz.prog 71 [numT .i64 l, one (.int .i64 n)] (one (.bool (!outs n l))) := by
  unfold numT
  refine Ok.enter Tryz.func71 rfl Tryz.ntmps71 rfl (fun w O => ?_)
  refine J_seq (J_reg (st (s_assign rfl) rfl (Run.nil (pj_then (J_seq (J_seq (J_reg (st (s_assign rfl) rfl (Run.nil ?_)))))))))
  refine pj_then (J_block (J_sub (Γ' := [(0, _), (1, _), (4, _), (5, _)]) (SubG.cons rfl (VT.le_refl _) (SubG.cons rfl (VT.le_refl _) (SubG.cons rfl (VT.le_refl _) (SubG.cons rfl (VT.le_refl _) (SubG.nil))))) (SubM.refl _) ?_))
  refine J_loopA (σ := Nat) (Γk := [(0, _), (1, _)]) (SubG.cons rfl (VT.le_refl _) (SubG.cons rfl (VT.le_refl _) (SubG.nil))) (fun i => [(5, one (.int .i64 (i : Nat)))]) (fun i M0 => M0) (fun i => i ≤ l.length ∧ ∀ j, j < i → 0 ≤ l.getD j 0 ∧ l.getD j 0 < n) (fun i => l.length - i) (0) (⟨Nat.zero_le _, fun j hj => absurd hj (Nat.not_lt_zero _)⟩) (by repeat (first | exact SubG.refl _ | exact SubG.nil | refine SubG.cons rfl (VT.le_refl _) ?_ | (refine SubG.cons rfl (one_le ?_) ?_; (congr 1; first | omega | (simp; omega) | simp)))) (.nil) (fun i hi => ?_)
  refine J_norm (Γ' := [(5, _), (0, _), (1, _)]) (M' := []) rfl rfl (J_seq (J_seq (J_reg (st (s_move rfl) rfl (st (s_move rfl) rfl (st (s_len rfl) rfl (st (s_lt rfl rfl) rfl (Run.nil (pj_then ?_)))))))))
  refine J_if rfl (fun hc => ?_) (fun hc => ?_)
  · by_cases h1 : l.getD i 0 < 0
    · refine J_skip (pj_then (J_seq (J_block (J_seq (J_reg (st (s_move rfl) rfl (st (s_move rfl) rfl ?_)))))))
      (refine st (s_indexIN rfl rfl ?_) rfl ?_; omega)
      refine st (s_load rfl) rfl (st (sT (by assumption) (s_lt rfl rfl)) rfl (st (s_move rfl) rfl (sg0 rfl rfl rfl rfl (sg0 rfl rfl rfl rfl (sg0 rfl rfl rfl rfl (sg0 rfl rfl rfl rfl (sg0 rfl rfl rfl rfl (sg0 rfl rfl rfl rfl (st (s_pickT rfl rfl) rfl ?_)))))))))
      refine Run.nil (pj_then (J_cond1 rfl (J_seq (J_reg (st (s_assign rfl) rfl (Run.nil (pj_then (J_ret (pr_block ?_)))))))))
      refine pr_then (pr_then (pr_block (pr_then ?_)))
      refine retc1 Tryz.results71 (.tmp rfl (one_le (by rw [isOut (show i < l.length by omega) (.inl h1)]; rfl)))
    · by_cases h2 : (n : Int) ≤ l.getD i 0
      · refine J_skip (pj_then (J_seq (J_block (J_seq (J_reg (st (s_move rfl) rfl (st (s_move rfl) rfl ?_)))))))
        (refine st (s_indexIN rfl rfl ?_) rfl ?_; omega)
        refine st (s_load rfl) rfl (st (sF (by assumption) (s_lt rfl rfl)) rfl (st (s_move rfl) rfl (sg1 rfl rfl (s_move rfl) rfl (sg1 rfl rfl (s_move rfl) rfl ?_))))
        (refine sg1 rfl rfl (s_indexIN rfl rfl ?_) rfl ?_; omega)
        refine sg1 rfl rfl (s_load rfl) rfl (sg1 rfl rfl (s_move rfl) rfl (sg1 rfl rfl (sT (by assumption) (s_ge rfl rfl)) rfl (st (s_pickF rfl rfl) rfl (Run.nil (pj_then (J_cond1 rfl (J_seq (J_reg (st (s_assign rfl) rfl ?_)))))))))
        refine Run.nil (pj_then (J_ret (pr_block (pr_then (pr_then (pr_block (pr_then ?_)))))))
        refine retc1 Tryz.results71 (.tmp rfl (one_le (by rw [isOut (show i < l.length by omega) (.inr h2)]; rfl)))
      · refine J_skip (pj_then (J_seq (J_block (J_seq (J_reg (st (s_move rfl) rfl (st (s_move rfl) rfl ?_)))))))
        (refine st (s_indexIN rfl rfl ?_) rfl ?_; omega)
        refine st (s_load rfl) rfl (st (sF (by assumption) (s_lt rfl rfl)) rfl (st (s_move rfl) rfl (sg1 rfl rfl (s_move rfl) rfl (sg1 rfl rfl (s_move rfl) rfl ?_))))
        (refine sg1 rfl rfl (s_indexIN rfl rfl ?_) rfl ?_; omega)
        refine sg1 rfl rfl (s_load rfl) rfl (sg1 rfl rfl (s_move rfl) rfl (sg1 rfl rfl (sF (by assumption) (s_ge rfl rfl)) rfl (st (s_pickF rfl rfl) rfl (Run.nil (pj_then (J_cond0 rfl (J_skip (pn_block (pj_then ?_)))))))))
        refine J_reg (st (s_move rfl) rfl ?_)
        (refine st (s_add rfl rfl (wrap_i64 ?_ ?_)) rfl ?_; omega; omega)
        refine st (s_assign rfl) rfl (Run.nil ?_)
        refine pj_roundM (i + 1) (⟨by omega, fun j hj => (Nat.lt_succ_iff_lt_or_eq.1 hj).elim (hi.2 j) (fun e => by subst e; omega)⟩) (by omega) (by repeat (first | exact SubG.refl _ | exact SubG.nil | refine SubG.cons rfl (VT.le_refl _) ?_ | (refine SubG.cons rfl (one_le ?_) ?_; (congr 1; first | omega | (simp; omega) | simp)))) (.nil)
  · refine J_exit (px_then (px_then (px_block (pj_then (J_seq (J_reg (st (s_assign rfl) rfl (Run.nil (pj_then ?_)))))))))
    refine J_ret ?_
    refine retc1 Tryz.results71 (.tmp rfl (one_le (by rw [notOut (fun j hj => hi.2 j (by omega))]; rfl)))
end Tor
end
section
namespace Tor
open Go Go.RowKit Go.Proofs
theorem perm6 (x y z u t s : Own) : [x, y, z, u, t, s].Perm ([y, z] ++ [x, u, t, s]) := (List.Perm.swap y x _).trans (List.Perm.cons y (List.Perm.swap z x _))
theorem perm5 (x y z u t : Own) : [x, y, z, u, t].Perm ([y, z] ++ [x, u, t]) := (List.Perm.swap y x _).trans (List.Perm.cons y (List.Perm.swap z x _))
attribute [local irreducible] Tor.J Tor.PJ Tor.StepO Tor.one Tor.slT Tor.ptrT Tor.aggT Tor.tupT Tor.exT Tor.andT Tor.eP Tor.boxO Tor.sliO Tor.slV Tor.VT.le Tor.Ret Tor.anyT
attribute [local irreducible] bigT Tor.rowsO
set_option maxHeartbeats 4000000 in
theorem rPick_ok (r c : Nat) (F : Nat → Nat → Int) (l m : List Int) (hl : l.length ≤ 1048576) (hm : m.length ≤ 1048576) :
    Ok Tryz.prog 24 [matF r c F, numT .i64 l, numT .i64 m] (resMT (!(outs r l || outs c m)) 1 l.length m.length (pickF l m F)) := by
  unfold resMT matF
  have hi1 := rInside_ok l r hl
  have hi2 := rInside_ok m c hm
  unfold numT at hi1 hi2 ⊢
  refine Ok.enter Tryz.func24 rfl Tryz.ntmps24 rfl (fun w O => ?_)
  cases h1 : outs r l with
  | true =>
    rw [h1] at hi1
    refine J_seq (J_reg ?_)
    refine a_boxS rfl rfl (ltN rfl) (fun b3 => ?_)
    refine a_allocS (T := 28) rfl rfl rfl (fun b6 => ?_)
    refine st (s_assign rfl) rfl (Run.nil (pj_then (J_seq (J_seq (J_reg (st (s_move rfl) rfl (st (s_fieldAddr rfl) rfl (st (s_loadB 1 rfl rfl rfl) rfl ?_))))))))
    refine st (s_callk (hi1 ) rfl ⟨VT.le_refl _, VT.le_refl _, trivial⟩) rfl ?_
    refine st (s_not rfl) rfl (st (s_move rfl) rfl (sg0 rfl rfl rfl rfl (sg0 rfl rfl rfl rfl (sg0 rfl rfl rfl rfl (sg0 rfl rfl rfl rfl (sg0 rfl rfl rfl rfl (st (s_pickT rfl rfl) rfl (Run.nil (pj_then ?_)))))))))
    refine J_cond1 rfl (J_seq (J_reg (stB rfl rfl rfl (BuildK.nil (a_storeW 0 rfl rfl rfl rfl (st (s_assign rfl) rfl (Run.nil (pj_then (J_ret ?_)))))))))
    refine pr_then ?_
    refine retc2 Tryz.results24 (.cellW 0 rfl rfl (zero_mat _)) (.tmp rfl (VT.le_refl _))
  | false =>
    rw [h1] at hi1
    cases h2 : outs c m with
    | true =>
      rw [h2] at hi2
      refine J_seq (J_reg ?_)
      refine a_boxS rfl rfl (ltN rfl) (fun b3 => ?_)
      refine a_allocS (T := 28) rfl rfl rfl (fun b6 => ?_)
      refine st (s_assign rfl) rfl (Run.nil (pj_then (J_seq (J_seq (J_reg (st (s_move rfl) rfl (st (s_fieldAddr rfl) rfl (st (s_loadB 1 rfl rfl rfl) rfl ?_))))))))
      refine st (s_callk (hi1 ) rfl ⟨VT.le_refl _, VT.le_refl _, trivial⟩) rfl ?_
      refine st (s_not rfl) rfl (st (s_move rfl) rfl (sg1 rfl rfl (s_move rfl) rfl (sg1 rfl rfl (s_fieldAddr rfl) rfl (sg1 rfl rfl (s_loadB 1 rfl rfl rfl) rfl ?_))))
      refine sg1 rfl rfl (s_callk (hi2 ) rfl ⟨VT.le_refl _, VT.le_refl _, trivial⟩) rfl ?_
      refine sg1 rfl rfl (s_not rfl) rfl (st (s_pickF rfl rfl) rfl (Run.nil (pj_then (J_cond1 rfl (J_seq (J_reg (stB rfl rfl rfl (BuildK.nil (a_storeW 0 rfl rfl rfl rfl ?_)))))))))
      refine st (s_assign rfl) rfl (Run.nil (pj_then (J_ret (pr_then ?_))))
      refine retc2 Tryz.results24 (.cellW 0 rfl rfl (zero_mat _)) (.tmp rfl (VT.le_refl _))
    | false =>
      rw [h2] at hi2
      refine J_seq (J_reg ?_)
      refine a_boxS rfl rfl (ltN rfl) (fun b3 => ?_)
      refine a_allocS (T := 28) rfl rfl rfl (fun b6 => ?_)
      refine st (s_assign rfl) rfl (Run.nil (pj_then (J_seq (J_seq (J_reg (st (s_move rfl) rfl (st (s_fieldAddr rfl) rfl (st (s_loadB 1 rfl rfl rfl) rfl ?_))))))))
      refine st (s_callk (hi1 ) rfl ⟨VT.le_refl _, VT.le_refl _, trivial⟩) rfl ?_
      refine st (s_not rfl) rfl (st (s_move rfl) rfl (sg1 rfl rfl (s_move rfl) rfl (sg1 rfl rfl (s_fieldAddr rfl) rfl (sg1 rfl rfl (s_loadB 1 rfl rfl rfl) rfl ?_))))
      refine sg1 rfl rfl (s_callk (hi2 ) rfl ⟨VT.le_refl _, VT.le_refl _, trivial⟩) rfl ?_
      refine sg1 rfl rfl (s_not rfl) rfl (st (s_pickF rfl rfl) rfl (Run.nil (pj_then (J_cond0 rfl (J_skip (pj_then (J_seq (J_reg (st (s_move rfl) rfl ?_)))))))))
      refine st (s_len rfl) rfl (st (s_move rfl) rfl (st (s_len rfl) rfl ?_))
      refine a_callM (rNew_ok _ _ (by assumption) (by assumption)) rfl ⟨VT.le_refl _, VT.le_refl _, trivial⟩ rfl rfl (fun s28 => ?_)
      refine a_allocS (T := 28) rfl rfl rfl (fun b8 => ?_)
      refine a_storeW 0 rfl rfl rfl rfl (Run.nil (pj_then (J_seq (J_seq (J_reg (st (s_assign rfl) rfl (Run.nil (pj_then (J_block ?_)))))))))
      obtain ⟨⟨bs, sv1, cap1⟩, hlen, hsv⟩ := s28
      simp only at hlen hsv
      unfold newT
      dsimp only
      refine J_sub (Γ' := [(1, _), (2, _), (3, _), (6, _), (7, _), (8, _), (9, _)]) (SubG.cons rfl (VT.le_refl _) (SubG.cons rfl (VT.le_refl _) (SubG.cons rfl (VT.le_refl _) (SubG.cons rfl (VT.le_refl _) (SubG.cons rfl (VT.le_refl _) (SubG.cons rfl (VT.le_refl _) (SubG.cons rfl (VT.le_refl _) (SubG.nil)))))))) (SubM.refl _) ?_
      refine J_loopA (σ := Nat) (Γk := [(1, _), (2, _), (3, _), (6, _), (7, _), (8, _)]) (SubG.cons rfl (VT.le_refl _) (SubG.cons rfl (VT.le_refl _) (SubG.cons rfl (VT.le_refl _) (SubG.cons rfl (VT.le_refl _) (SubG.cons rfl (VT.le_refl _) (SubG.cons rfl (VT.le_refl _) (SubG.nil))))))) (fun i => [(9, one (.int .i64 (i : Nat)))]) (fun i M0 => (M0.set 2 (ownR m.length bs (fill2 (pickF l m F) i 0)))) (fun i => i ≤ l.length) (fun i => l.length - i) (0) (Nat.zero_le _) (by repeat (first | exact SubG.refl _ | exact SubG.nil | refine SubG.cons rfl (VT.le_refl _) ?_ | (refine SubG.cons rfl (one_le ?_) ?_; (congr 1; first | omega | (simp; omega) | simp)))) (.keep (Own.le_refl _) (.keep (Own.le_refl _) (.keep (ownR_le fun i j hi hj => by simp [fill2]) (.keep (Own.le_refl _) (.keep (Own.le_refl _) (.nil)))))) (fun i hi => ?_)
      refine J_norm (Γ' := [(9, _), (1, _), (2, _), (3, _), (6, _), (7, _), (8, _)]) (M' := [_, _, _, _, _]) rfl rfl (J_seq (J_seq (J_reg (st (s_move rfl) rfl (st (s_move rfl) rfl (st (s_len rfl) rfl (st (s_lt rfl rfl) rfl (Run.nil (pj_then ?_)))))))))
      refine J_if rfl (fun hc => ?_) (fun hc => ?_)
      · obtain ⟨bo, rfl⟩ := sv_some hsv (by omega)
        have hx := outs_at h1 (show i < l.length by omega)
        refine J_skip (pj_then (J_seq (J_block (J_seq (J_reg (st (s_assign rfl) rfl (Run.nil (pj_then (J_block ?_)))))))))
        refine J_sub (Γ' := [(1, _), (2, _), (3, _), (6, _), (7, _), (8, _), (9, _), (10, _)]) (SubG.cons rfl (VT.le_refl _) (SubG.cons rfl (VT.le_refl _) (SubG.cons rfl (VT.le_refl _) (SubG.cons rfl (VT.le_refl _) (SubG.cons rfl (VT.le_refl _) (SubG.cons rfl (VT.le_refl _) (SubG.cons rfl (VT.le_refl _) (SubG.cons rfl (VT.le_refl _) (SubG.nil))))))))) (SubM.refl _) ?_
        refine J_loopA (σ := Nat) (Γk := [(1, _), (2, _), (3, _), (6, _), (7, _), (8, _), (9, _)]) (SubG.cons rfl (VT.le_refl _) (SubG.cons rfl (VT.le_refl _) (SubG.cons rfl (VT.le_refl _) (SubG.cons rfl (VT.le_refl _) (SubG.cons rfl (VT.le_refl _) (SubG.cons rfl (VT.le_refl _) (SubG.cons rfl (VT.le_refl _) (SubG.nil)))))))) (fun j => [(10, one (.int .i64 (j : Nat)))]) (fun j M0 => (M0.set 2 (ownR m.length bs (fill2 (pickF l m F) i j)))) (fun j => j ≤ m.length) (fun j => m.length - j) (0) (Nat.zero_le _) (by repeat (first | exact SubG.refl _ | exact SubG.nil | refine SubG.cons rfl (VT.le_refl _) ?_ | (refine SubG.cons rfl (one_le ?_) ?_; (congr 1; first | omega | (simp; omega) | simp)))) (.keep (Own.le_refl _) (.keep (Own.le_refl _) (.keep (Own.le_refl _) (.keep (Own.le_refl _) (.keep (Own.le_refl _) (.nil)))))) (fun j hj => ?_)
        refine J_norm (Γ' := [(10, _), (1, _), (2, _), (3, _), (6, _), (7, _), (8, _), (9, _)]) (M' := [_, _, _, _, _]) rfl rfl (J_seq (J_seq (J_reg (st (s_move rfl) rfl (st (s_move rfl) rfl (st (s_len rfl) rfl (st (s_lt rfl rfl) rfl (Run.nil (pj_then ?_)))))))))
        refine J_if rfl (fun hc2 => ?_) (fun hc2 => ?_)
        · have hy := outs_at h2 (show j < m.length by omega)
          refine J_skip (pj_then (J_seq (J_block (J_regd 20 mixed (by kernel_rfl) (by decide) (st (s_fieldAddr rfl) rfl (st (s_loadB 0 rfl rfl rfl) rfl (st (s_move rfl) rfl ?_)))))))
          (refine st (s_indexON rfl rfl ?_) rfl ?_; omega)
          (refine st (s_loadE 1 rfl rfl ?_) rfl ?_; omega)
          refine st (s_move rfl) rfl (st (s_fieldAddr rfl) rfl (st (s_loadB 4 rfl rfl rfl) rfl (st (s_move rfl) rfl (st (s_move rfl) rfl ?_))))
          (refine st (s_indexIN rfl rfl ?_) rfl ?_; omega)
          refine st (s_load rfl) rfl ?_
          (refine st (s_indexI rfl rfl ?_ ?_) rfl ?_; omega; omega)
          refine st (s_load rfl) rfl (st (s_move rfl) rfl (st (s_move rfl) rfl ?_))
          (refine st (s_indexIN rfl rfl ?_) rfl ?_; omega)
          refine st (s_load rfl) rfl ?_
          (refine st (s_indexI rfl rfl ?_ ?_) rfl ?_; omega; omega)
          refine st (s_load rfl) rfl (Run.nil ?_)
          (refine st (s_indexON rfl rfl ?_) rfl ?_; omega)
          (refine a_storeR 2 rfl rfl rfl (getq ?_) ?_ rfl ?_; omega; omega)
          refine Run.nil (pn_block (pj_then (J_reg (st (s_move rfl) rfl (st (s_addN _ 1 rfl rfl (by omega)) rfl (st (s_assign rfl) rfl (Run.nil ?_)))))))
          refine pj_roundM (j + 1) (by omega) (by omega) (by repeat (first | exact SubG.refl _ | exact SubG.nil | refine SubG.cons rfl (VT.le_refl _) ?_ | (refine SubG.cons rfl (one_le ?_) ?_; (congr 1; first | omega | (simp; omega) | simp)))) (.keep (Own.le_refl _) (.keep (Own.le_refl _) (.keep (upd_fill2 _ rfl) (.keep (Own.le_refl _) (.keep (Own.le_refl _) (.nil))))))
        · have hjm : j = m.length := by omega
          subst hjm
          refine J_exit (px_then (px_then (px_block (pn_block (pj_then (J_reg (st (s_move rfl) rfl (st (s_addN _ 1 rfl rfl (by omega)) rfl (st (s_assign rfl) rfl ?_)))))))))
          refine Run.nil ?_
          refine pj_roundM (i + 1) (by omega) (by omega) (by repeat (first | exact SubG.refl _ | exact SubG.nil | refine SubG.cons rfl (VT.le_refl _) ?_ | (refine SubG.cons rfl (one_le ?_) ?_; (congr 1; first | omega | (simp; omega) | simp)))) (.keep (Own.le_refl _) (.keep (Own.le_refl _) (.keep (next_fill2) (.keep (Own.le_refl _) (.keep (Own.le_refl _) (.nil))))))
      · have hin : i = l.length := by omega
        subst hin
        refine J_exit (px_then (px_then (px_block (pj_then (J_seq (J_reg (st (s_loadW 0 rfl rfl) rfl (a_storeW 3 rfl rfl rfl rfl (st (s_assign rfl) rfl ?_)))))))))
        refine Run.nil (pj_then (J_ret ?_))
        refine PJ_open [outO sv1 cap1 l.length m.length bs, ownR m.length bs (fill2 (pickF l m F) l.length 0)] (perm5 _ _ _ _ _) (.keep (EntO.refl _) (.keep (EntO.box (newT_open hlen ⟨by simp, by simp, by simp⟩)) (.keep (EntO.refl _) .nil))) (EntG.refl _) ?_
        refine retc2 Tryz.results24 (.cellW 1 rfl rfl ((matF_le fun a b ha hb => by simp [fill2, ha]))) (.tmp rfl (VT.le_refl _))
end Tor
end
section
namespace Tor
open Go Go.RowKit Go.Proofs
def ratF (n : Nat) (f : Nat → Rat) : VT := slT (.agg 4) n (fun i => ratT (f i))
theorem ratF_le {n : Nat} {f g : Nat → Rat} (h : ∀ i, i < n → f i = g i) : VT.le (ratF n f) (ratF n g) := slT_le fun i hi => le_eq (by rw [h i hi])
instance {n : Nat} {f : Nat → Rat} : Flat (ratF n f) .one := by unfold ratF; infer_instance
def firstQ (a : Nat → Rat) (n : Nat) : Nat := ((List.range' 0 n).find? fun i => decide (a i ≠ 0)).getD n
theorem firstQ_at {a : Nat → Rat} {n i : Nat} (hi : i < n) (h : ∀ q, q < i → a q = 0) (h0 : a i ≠ 0) : firstQ a n = i := by
  have : (List.range' 0 n).find? (fun i => decide (a i ≠ 0)) = some i := by
    rw [List.find?_range'_eq_some]
    refine ⟨by simpa using h0, by rw [List.mem_range'_1]; omega, fun q _ h2 => by simpa using h q h2⟩
  unfold firstQ; rw [this]; rfl
theorem firstQ_none {a : Nat → Rat} {n : Nat} (h : ∀ q, q < n → a q = 0) : firstQ a n = n := by
  have : (List.range' 0 n).find? (fun i => decide (a i ≠ 0)) = none := by
    rw [List.find?_eq_none]
    intro q hq
    rw [List.mem_range'_1] at hq
    simpa using h q (by omega)
  unfold firstQ; rw [this]; rfl
theorem firstQ_cases (a : Nat → Rat) (n : Nat) : (firstQ a n = n ∧ ∀ q, q < n → a q = 0) ∨ (firstQ a n < n ∧ a (firstQ a n) ≠ 0 ∧ ∀ q, q < firstQ a n → a q = 0) := by
  have key : ∀ m, m ≤ n → (∀ q, q < m → a q = 0) ∨ ∃ i, i < m ∧ a i ≠ 0 ∧ ∀ q, q < i → a q = 0 := by
    intro m
    induction m with
    | zero => intro _; exact .inl fun q h => absurd h (Nat.not_lt_zero _)
    | succ m ih =>
      intro hm
      rcases ih (by omega) with h | ⟨i, h1, h2, h3⟩
      · by_cases h0 : a m = 0
        · exact .inl fun q hq => by
            by_cases e : q = m
            · rw [e]; exact h0
            · exact h q (by omega)
        · exact .inr ⟨m, by omega, h0, h⟩
      · exact .inr ⟨i, by omega, h2, h3⟩
  rcases key n (Nat.le_refl _) with h | ⟨i, h1, h2, h3⟩
  · exact .inl ⟨firstQ_none h, h⟩
  · rw [firstQ_at h1 h3 h2]; exact .inr ⟨h1, h2, h3⟩
theorem firstQ_lt {a : Nat → Rat} {n : Nat} (h : firstQ a n < n) : a (firstQ a n) ≠ 0 ∧ ∀ q, q < firstQ a n → a q = 0 := by
  rcases firstQ_cases a n with ⟨h1, _⟩ | ⟨_, h1⟩
  · omega
  · exact h1
def redN (B : Nat → Nat → Rat) (n : Nat) (a : Nat → Rat) : Nat → Nat → Rat
  | 0 => a
  | i + 1 => fun j => redN B n a i j - redN B n a i (firstQ (B i) n) / B i (firstQ (B i) n) * B i j
def redB (α β : Nat) : Nat → Nat
  | 0 => α
  | i + 1 => 2 * redB α β i + 2 * β + 1
theorem redB_mono {α β : Nat} {i k : Nat} (h : i ≤ k) : redB α β i ≤ redB α β k := by
  induction k with
  | zero => have : i = 0 := by omega
            subst this; exact Nat.le_refl _
  | succ k ih =>
    by_cases e : i = k + 1
    · rw [e]; exact Nat.le_refl _
    · have := ih (by omega)
      show redB α β i ≤ 2 * redB α β k + 2 * β + 1
      omega
theorem qz_red {α β n : Nat} {B : Nat → Nat → Rat} {a : Nat → Rat} (k : Nat) (ha : ∀ j, qz α (a j)) (hB : ∀ i, i < k → (firstQ (B i) n < n) ∧ ∀ j, qz β (B i j)) : ∀ i, i ≤ k → ∀ j, qz (redB α β i) (redN B n a i j)
  | 0, _, j => ha j
  | i + 1, hi, j => by
    have ih := qz_red k ha hB i (by omega)
    obtain ⟨h1, h2⟩ := hB i (by omega)
    have h3 := qz_sub (ih j) (qz_mul (qz_over (ih (firstQ (B i) n)) (h2 (firstQ (B i) n)) (firstQ_lt h1).1) (h2 j))
    exact h3.mono (by show redB α β i + (redB α β i + β + β) + 1 ≤ 2 * redB α β i + 2 * β + 1; omega)
theorem rat_snoc {sv : Option Nat} {T : TypeId} {cap i : Nat} {h : Nat → Rat} {x : Rat} (hx : x = h i) : Own.le (sliO sv T (.agg 4) cap (i + 1) (fun q => if q < i then ratT (h q) else ratT x)) (sliO sv T (.agg 4) cap (i + 1) (fun q => ratT (h q))) := sliO_eq fun q hq => by
  subst hx
  by_cases c : q < i
  · rw [if_pos c]
  · rw [if_neg c, show q = i by omega]
theorem xO_none {g0 : RH} {sv : Option Nat} {T : TypeId} {L : Lay} {cap n : Nat} {φ : Nat → VT} {g : RH} {h : Hp} (hp : (xO g0 (sliO sv T L cap n φ)).p g h) (he : sv = none) : n = 0 := sliO_none hp.1 he
attribute [local irreducible] Tor.J Tor.PJ Tor.StepO Tor.one Tor.slT Tor.ptrT Tor.aggT Tor.tupT Tor.exT Tor.andT Tor.eP Tor.boxO Tor.sliO Tor.slV Tor.VT.le Tor.Ret Tor.anyT Tor.xO
attribute [local irreducible] bigT ratT
set_option maxHeartbeats 4000000 in
theorem r8Rationals_ok (n : Nat) (f : Nat → Int) (hn : n ≤ 1048576) : Ok Tryz.prog 35 [rowF n f] (ratF n (fun i => (f i : Rat))) := by
  unfold ratF rowF
  refine Ok.enter Tryz.func35 rfl Tryz.ntmps35 rfl (fun w O => ?_)
  refine J_seq (J_reg (st (s_assign rfl) rfl (Run.nil (pj_then (J_seq (J_reg (stSO (n := 0) rfl rfl rfl rfl rfl ?_)))))))
  refine PartsK.nil (fun bl => ?_)
  refine st (s_assign rfl) rfl (Run.nil (pj_then (J_seq (J_seq (J_reg (st (s_assign rfl) rfl (Run.nil (pj_then (J_block ?_)))))))))
  refine J_sub (Γ' := [(0, _), (2, _), (3, _), (4, _)]) (SubG.cons rfl (VT.le_refl _) (SubG.cons rfl (VT.le_refl _) (SubG.cons rfl (VT.le_refl _) (SubG.cons rfl (VT.le_refl _) (SubG.nil))))) (SubM.refl _) ?_
  refine J_loopA (σ := Nat × Option Nat × Nat) (Γk := [(0, _), (2, _)]) (SubG.cons rfl (VT.le_refl _) (SubG.cons rfl (VT.le_refl _) (SubG.nil))) (fun s => [(4, one (.int .i64 (s.1 : Nat))), (3, one (slV s.2.1 s.1 s.2.2))]) (fun s M0 => (M0.set 0 (sliO s.2.1 63 (.agg 4) s.2.2 s.1 (fun q => ratT (f q : Rat))))) (fun s => s.1 ≤ n) (fun s => n - s.1) ((0, some bl, 0)) (Nat.zero_le _) (by repeat (first | exact SubG.refl _ | exact SubG.nil | refine SubG.cons rfl (VT.le_refl _) ?_ | (refine SubG.cons rfl (one_le ?_) ?_; (congr 1; first | omega | (simp; omega) | simp)))) (.keep (sliO_eq (fun q hq => absurd hq (Nat.not_lt_zero _))) (.nil)) (fun s hs => ?_)
  refine J_norm (Γ' := [(4, _), (3, _), (0, _), (2, _)]) (M' := [_]) rfl rfl ?_
  obtain ⟨i, sv, cap⟩ := s
  dsimp only at hs ⊢
  by_cases hi : i < n
  · refine J_seq (J_seq (J_reg (st (s_move rfl) rfl (st (s_move rfl) rfl (st (s_len rfl) rfl (st (sT (by omega) (s_lt rfl rfl)) rfl (Run.nil (pj_then (J_cond1 rfl ?_)))))))))
    refine J_skip (pj_then (J_seq (J_block (J_reg (st (s_move rfl) rfl (st (s_move rfl) rfl (st (s_move rfl) rfl (st (s_indexIN rfl rfl (by omega)) rfl (st (s_load rfl) rfl ?_)))))))))
    refine st (s_callk (rqWhole_ok _) rfl ⟨VT.le_refl _, trivial⟩) rfl ?_
    refine stS1 rfl rfl rfl rfl ?_
    (refine a_append 0 rfl rfl rfl (leN rfl) ?_ ?_ rfl (ltN rfl) (fun sv19 cap19 => ?_); omega; omega)
    refine st (s_assign rfl) rfl (Run.nil (pn_block (pj_then (J_reg (st (s_move rfl) rfl (st (s_addN _ 1 rfl rfl (by omega)) rfl (st (s_assign rfl) rfl (Run.nil ?_))))))))
    refine pj_roundM ((i + 1, sv19, cap19)) (hi) (by omega) (by repeat (first | exact SubG.refl _ | exact SubG.nil | refine SubG.cons rfl (VT.le_refl _) ?_ | (refine SubG.cons rfl (one_le ?_) ?_; (congr 1; first | omega | (simp; omega) | simp)))) (.keep (rat_snoc (h := fun q => (f q : Rat)) rfl) (.nil))
  · have he : i = n := by omega
    subst he
    refine J_seq (J_seq (J_reg (st (s_move rfl) rfl (st (s_move rfl) rfl (st (s_len rfl) rfl (st (sF (by omega) (s_lt rfl rfl)) rfl (Run.nil (pj_then (J_cond0 rfl ?_)))))))))
    refine J_exit (px_then (px_then (px_block (pj_then (J_seq (J_reg (st (s_move rfl) rfl (st (s_assign rfl) rfl (Run.nil ?_)))))))))
    refine pj_then (J_ret (PJ_freeze (t := 2) (i := 0) rfl rfl ?_))
    refine retc1 Tryz.results35 (.tmp rfl (VT.le_refl _))
set_option maxHeartbeats 4000000 in
theorem r8less_ok (n m : Nat) (a b : Nat → Rat) (c : Rat) (A B C : Nat) (hn : n ≤ 1048576) (hm : n ≤ m) (ha : ∀ i, i < n → qz A (a i)) (hb : ∀ i, i < n → qz B (b i)) (hc : qz C c) (hz : A + (C + B) + 1 ≤ 1099511627700) :
    Ok Tryz.prog 62 [ratF n a, ratF m b, ratT c] (ratF n (fun i => a i - c * b i)) := by
  unfold ratF
  refine Ok.enter Tryz.func62 rfl Tryz.ntmps62 rfl (fun w O => ?_)
  refine J_seq (J_reg ?_)
  refine a_box rfl rfl (ltN rfl) (fun b5 => ?_)
  refine st (s_assign rfl) rfl (Run.nil (pj_then (J_seq (J_reg (stSO (n := 0) rfl rfl rfl rfl rfl ?_)))))
  refine PartsK.nil (fun bl => ?_)
  refine st (s_assign rfl) rfl (Run.nil (pj_then (J_seq (J_seq (J_reg (st (s_assign rfl) rfl (Run.nil (pj_then (J_block ?_)))))))))
  refine J_sub (Γ' := [(0, _), (1, _), (5, _), (6, _), (7, _), (8, _)]) (SubG.cons rfl (VT.le_refl _) (SubG.cons rfl (VT.le_refl _) (SubG.cons rfl (VT.le_refl _) (SubG.cons rfl (VT.le_refl _) (SubG.cons rfl (VT.le_refl _) (SubG.cons rfl (VT.le_refl _) (SubG.nil))))))) (SubM.refl _) ?_
  refine J_loopA (σ := Nat × Option Nat × Nat) (Γk := [(0, _), (1, _), (5, _), (6, _)]) (SubG.cons rfl (VT.le_refl _) (SubG.cons rfl (VT.le_refl _) (SubG.cons rfl (VT.le_refl _) (SubG.cons rfl (VT.le_refl _) (SubG.nil))))) (fun s => [(8, one (.int .i64 (s.1 : Nat))), (7, one (slV s.2.1 s.1 s.2.2))]) (fun s M0 => (M0.set 0 (sliO s.2.1 63 (.agg 4) s.2.2 s.1 (fun q => ratT (a q - c * b q))))) (fun s => s.1 ≤ n) (fun s => n - s.1) ((0, some bl, 0)) (Nat.zero_le _) (by repeat (first | exact SubG.refl _ | exact SubG.nil | refine SubG.cons rfl (VT.le_refl _) ?_ | (refine SubG.cons rfl (one_le ?_) ?_; (congr 1; first | omega | (simp; omega) | simp)))) (.keep (sliO_eq (fun q hq => absurd hq (Nat.not_lt_zero _))) (.keep (Own.le_refl _) (.nil))) (fun s hs => ?_)
  refine J_norm (Γ' := [(8, _), (7, _), (0, _), (1, _), (5, _), (6, _)]) (M' := [_, _]) rfl rfl ?_
  obtain ⟨i, sv, cap⟩ := s
  dsimp only at hs ⊢
  by_cases hi : i < n
  · have h1 := rqMul_ok c (b i) C B hc (hb i hi) (by omega)
    have h2 := rqSub_ok (a i) (c * b i) A (C + B) (ha i hi) (qz_mul hc (hb i hi)) hz
    refine J_seq (J_seq (J_reg (st (s_move rfl) rfl (st (s_move rfl) rfl (st (s_len rfl) rfl (st (sT (by omega) (s_lt rfl rfl)) rfl (Run.nil (pj_then (J_cond1 rfl ?_)))))))))
    refine J_skip (pj_then (J_seq (J_block (J_regdT 13 mixed (by kernel_rfl) (by decide) (st (s_move rfl) rfl (st (s_move rfl) rfl (st (s_move rfl) rfl (st (s_indexIN rfl rfl (by omega)) rfl (st (s_load rfl) rfl ?_)))))))))
    refine st (s_loadB 1 rfl rfl rfl) rfl (st (s_move rfl) rfl (st (s_move rfl) rfl (st (s_indexIN rfl rfl (by omega)) rfl (st (s_load rfl) rfl ?_))))
    refine st (s_callk (h1 ) rfl ⟨VT.le_refl _, VT.le_refl _, trivial⟩) rfl ?_
    refine st (s_callk (h2 ) rfl ⟨VT.le_refl _, VT.le_refl _, trivial⟩) rfl ?_
    refine stS1 rfl rfl rfl rfl (Run.nil ?_)
    (refine a_append 0 rfl rfl rfl (leN rfl) ?_ ?_ rfl (ltN rfl) (fun sv29 cap29 => ?_); omega; omega)
    refine st (s_assign rfl) rfl (Run.nil (pn_block (pj_then (J_reg (st (s_move rfl) rfl (st (s_addN _ 1 rfl rfl (by omega)) rfl (st (s_assign rfl) rfl (Run.nil ?_))))))))
    refine pj_roundM ((i + 1, sv29, cap29)) (hi) (by omega) (by repeat (first | exact SubG.refl _ | exact SubG.nil | refine SubG.cons rfl (VT.le_refl _) ?_ | (refine SubG.cons rfl (one_le ?_) ?_; (congr 1; first | omega | (simp; omega) | simp)))) (.keep (rat_snoc (h := fun q => a q - c * b q) rfl) (.keep (Own.le_refl _) (.nil)))
  · have he : i = n := by omega
    subst he
    refine J_seq (J_seq (J_reg (st (s_move rfl) rfl (st (s_move rfl) rfl (st (s_len rfl) rfl (st (sF (by omega) (s_lt rfl rfl)) rfl (Run.nil (pj_then (J_cond0 rfl ?_)))))))))
    refine J_exit (px_then (px_then (px_block (pj_then (J_seq (J_reg (st (s_move rfl) rfl (st (s_assign rfl) rfl (Run.nil ?_)))))))))
    refine pj_then (J_ret (PJ_freeze (t := 6) (i := 0) rfl rfl ?_))
    refine retc1 Tryz.results62 (.tmp rfl (VT.le_refl _))
set_option maxHeartbeats 4000000 in
theorem r8first_ok (n m : Nat) (a : Nat → Rat) (hm : m ≤ 1048576) (hn : n ≤ m) : Ok Tryz.prog 54 [ratF m a, one (.int .i64 (n : Nat))] (one (.int .i64 ((firstQ a n : Nat) : Int))) := by
  unfold ratF
  refine Ok.enter Tryz.func54 rfl Tryz.ntmps54 rfl (fun w O => ?_)
  refine J_seq (J_reg (st (s_assign rfl) rfl (Run.nil (pj_then (J_seq (J_reg (st (s_assign rfl) rfl (Run.nil (pj_then ?_)))))))))
  refine J_seq (J_block (J_sub (Γ' := [(0, _), (1, _), (4, _), (5, _)]) (SubG.cons rfl (VT.le_refl _) (SubG.cons rfl (VT.le_refl _) (SubG.cons rfl (VT.le_refl _) (SubG.cons rfl (VT.le_refl _) (SubG.nil))))) (SubM.refl _) ?_))
  refine J_loopA (σ := Nat) (Γk := [(0, _), (1, _), (4, _)]) (SubG.cons rfl (VT.le_refl _) (SubG.cons rfl (VT.le_refl _) (SubG.cons rfl (VT.le_refl _) (SubG.nil)))) (fun i => [(5, one (.int .i64 (i : Nat)))]) (fun i M0 => M0) (fun i => i ≤ n ∧ ∀ q, q < i → a q = 0) (fun i => n - i) (0) (⟨Nat.zero_le _, fun q h => absurd h (Nat.not_lt_zero _)⟩) (by repeat (first | exact SubG.refl _ | exact SubG.nil | refine SubG.cons rfl (VT.le_refl _) ?_ | (refine SubG.cons rfl (one_le ?_) ?_; (congr 1; first | omega | (simp; omega) | simp)))) (.nil) (fun i hi => ?_)
  refine J_norm (Γ' := [(5, _), (0, _), (1, _), (4, _)]) (M' := []) rfl rfl ?_
  obtain ⟨hi1, hi2⟩ := hi
  by_cases hi : i < n
  · have hs := sgnI_zero (a i).num
    by_cases h0 : a i = 0
    · have hs0 := hs.2 (Rat.num_eq_zero.2 h0)
      refine J_seq (J_seq (J_reg (st (s_move rfl) rfl (st (s_move rfl) rfl (st (sT (by omega) (s_lt rfl rfl)) rfl (st (s_move rfl) rfl (sg1 rfl rfl (s_move rfl) rfl (sg1 rfl rfl (s_move rfl) rfl (sg1 rfl rfl (s_indexIN rfl rfl (by omega)) rfl ?_)))))))))
      refine sg1 rfl rfl (s_load rfl) rfl ?_
      refine sg1 rfl rfl (s_callk (rqSign_ok _) rfl ⟨VT.le_refl _, trivial⟩) rfl ?_
      refine sg1 rfl rfl (sT (by assumption) (s_eq rfl rfl)) rfl (st (s_pickT rfl rfl) rfl (Run.nil (pj_then (J_cond1 rfl (J_skip (pj_then (J_block (J_reg (st (s_move rfl) rfl ?_)))))))))
      refine st (s_addN _ 1 rfl rfl (by omega)) rfl (st (s_assign rfl) rfl (Run.nil (pn_block ?_)))
      refine pj_roundM (i + 1) (⟨hi, fun q h => by by_cases h3 : q = i; exact h3 ▸ h0; exact hi2 q (by omega)⟩) (by omega) (by repeat (first | exact SubG.refl _ | exact SubG.nil | refine SubG.cons rfl (VT.le_refl _) ?_ | (refine SubG.cons rfl (one_le ?_) ?_; (congr 1; first | omega | (simp; omega) | simp)))) (.nil)
    · have hs0 : sgnI (a i).num ≠ 0 := fun h => h0 (Rat.num_eq_zero.1 (hs.1 h))
      rw [firstQ_at hi hi2 h0]
      refine J_seq (J_seq (J_reg (st (s_move rfl) rfl (st (s_move rfl) rfl (st (sT (by omega) (s_lt rfl rfl)) rfl (st (s_move rfl) rfl (sg1 rfl rfl (s_move rfl) rfl (sg1 rfl rfl (s_move rfl) rfl (sg1 rfl rfl (s_indexIN rfl rfl (by omega)) rfl ?_)))))))))
      refine sg1 rfl rfl (s_load rfl) rfl ?_
      refine sg1 rfl rfl (s_callk (rqSign_ok _) rfl ⟨VT.le_refl _, trivial⟩) rfl ?_
      refine sg1 rfl rfl (sF (by assumption) (s_eq rfl rfl)) rfl (st (s_pickT rfl rfl) rfl (Run.nil (pj_then (J_cond0 rfl (J_exit (px_then (px_then (px_block (pj_then ?_)))))))))
      refine J_seq (J_reg (st (s_move rfl) rfl (st (s_assign rfl) rfl (Run.nil (pj_then (J_ret ?_))))))
      refine retc1 Tryz.results54 (.tmp rfl (VT.le_refl _))
  · rw [firstQ_none (fun q h => hi2 q (by omega)), show n = i by omega]
    refine J_seq (J_seq (J_reg (st (s_move rfl) rfl (st (s_move rfl) rfl (st (sF (by omega) (s_lt rfl rfl)) rfl (st (s_move rfl) rfl (sn0 rfl rfl rfl rfl rfl (sn0 rfl rfl rfl rfl rfl (sn0 rfl rfl rfl rfl rfl ?_)))))))))
    refine sn0 rfl rfl rfl rfl rfl (sn0 rfl rfl rfl rfl rfl (sn0 rfl rfl rfl rfl rfl (st (s_pickF rfl rfl) rfl (Run.nil (pj_then (J_cond0 rfl (J_exit (px_then (px_then ?_)))))))))
    refine px_block (pj_then (J_seq (J_reg (st (s_move rfl) rfl (st (s_assign rfl) rfl (Run.nil (pj_then (J_ret ?_))))))))
    refine retc1 Tryz.results54 (.tmp rfl (VT.le_refl _))
set_option maxHeartbeats 4000000 in
theorem r8reduced_ok (n m k : Nat) (a : Nat → Rat) (B : Nat → Nat → Rat) (sv : Option Nat) (cap : Nat) (α β : Nat) (hm : m ≤ 1048576) (hn : n ≤ m) (hk : k ≤ 1048576) (ha : ∀ j, qz α (a j)) (hB : ∀ i, i < k → (firstQ (B i) n < n) ∧ ∀ j, qz β (B i j)) (hz : redB α β k ≤ 1099511627700) :
    OkR Tryz.prog 53 [ratF m a, one (slV sv k cap), one (.int .i64 (n : Nat))] [sliO sv 36 .one cap k (fun i => ratF m (B i))] (ratF m (redN B n a k)) := by
  intro g0
  show OkI _ _ _ [xO g0 (sliO sv 36 .one cap k (fun i => ratF m (B i)))] _ (fun _ => [xO g0 (sliO sv 36 .one cap k (fun i => ratF m (B i)))])
  refine OkI.enter Tryz.func53 rfl Tryz.ntmps53 rfl (fun w O => ?_)
  refine J_factM (i := 0) (F := sv = none → k = 0) rfl (fun g h hp he => xO_none hp he) (fun hsv => ?_)
  refine J_seq (J_reg (st (s_assign rfl) rfl (Run.nil (pj_then (J_seq (J_seq (J_reg (st (s_assign rfl) rfl (Run.nil ?_)))))))))
  refine pj_then (J_block (J_sub (Γ' := [(0, _), (1, _), (2, _), (6, _), (7, _)]) (SubG.cons rfl (VT.le_refl _) (SubG.cons rfl (VT.le_refl _) (SubG.cons rfl (VT.le_refl _) (SubG.cons rfl (VT.le_refl _) (SubG.cons rfl (VT.le_refl _) (SubG.nil)))))) (SubM.refl _) ?_))
  refine J_loopA (σ := Nat) (Γk := [(1, _), (2, _), (6, _)]) (SubG.cons rfl (VT.le_refl _) (SubG.cons rfl (VT.le_refl _) (SubG.cons rfl (VT.le_refl _) (SubG.nil)))) (fun i => [(7, one (.int .i64 (i : Nat))), (0, ratF m (redN B n a i))]) (fun i M0 => M0) (fun i => i ≤ k) (fun i => k - i) (0) (Nat.zero_le _) (by repeat (first | exact SubG.refl _ | exact SubG.nil | refine SubG.cons rfl (VT.le_refl _) ?_ | (refine SubG.cons rfl (one_le ?_) ?_; (congr 1; first | omega | (simp; omega) | simp)))) (.keep (Own.le_refl _) (.nil)) (fun i hi => ?_)
  refine J_norm (Γ' := [(7, _), (0, _), (1, _), (2, _), (6, _)]) (M' := [_]) rfl rfl ?_
  by_cases hi : i < k
  · obtain ⟨bs, rfl⟩ := sv_some hsv (by omega)
    obtain ⟨hf, hq⟩ := hB i hi
    have hf0 := (firstQ_lt hf).1
    have hfi := r8first_ok n m (B i) hm hn
    have hr := qz_red k ha hB i (by omega)
    have hm1 : redB α β (i + 1) ≤ 1099511627700 := Nat.le_trans (redB_mono (by omega)) hz
    have hm2 : redB α β (i + 1) = 2 * redB α β i + 2 * β + 1 := rfl
    have ho := rqOver_ok (redN B n a i (firstQ (B i) n)) (B i (firstQ (B i) n)) (redB α β i) β (hr _) (hq _) (by omega) hf0
    have hl := r8less_ok m m (redN B n a i) (B i) (redN B n a i (firstQ (B i) n) / B i (firstQ (B i) n)) (redB α β i) β (redB α β i + β) hm (Nat.le_refl _) (fun j _ => hr j) (fun j _ => hq j) (qz_over (hr _) (hq _) hf0) (by omega)
    unfold ratF at *
    refine J_seq (J_seq (J_reg (st (s_move rfl) rfl (st (s_move rfl) rfl (st (s_lenO rfl) rfl (st (sT (by omega) (s_lt rfl rfl)) rfl (Run.nil (pj_then (J_cond1 rfl ?_)))))))))
    refine J_skip (pj_then (J_seq (J_block (J_seq (J_reg (st (s_move rfl) rfl (st (s_move rfl) rfl (st (s_indexON rfl rfl (by omega)) rfl (st (s_loadEX 0 rfl rfl (by omega)) rfl ?_)))))))))
    refine st (s_move rfl) rfl ?_
    refine st (s_callk (hfi ) rfl ⟨VT.le_refl _, VT.le_refl _, trivial⟩) rfl ?_
    refine st (s_assign rfl) rfl (Run.nil (pj_then (J_regd 18 mixed (by kernel_rfl) (by decide) (st (s_move rfl) rfl (st (s_move rfl) rfl (st (s_move rfl) rfl (st (s_indexON rfl rfl (by omega)) rfl (st (s_loadEX 0 rfl rfl (by omega)) rfl (st (s_move rfl) rfl ?_)))))))))
    refine st (s_move rfl) rfl (st (s_indexIN rfl rfl (by omega)) rfl (st (s_load rfl) rfl (st (s_move rfl) rfl (st (s_move rfl) rfl (st (s_indexON rfl rfl (by omega)) rfl (st (s_loadEX 0 rfl rfl (by omega)) rfl (st (s_move rfl) rfl (st (s_indexIN rfl rfl (by omega)) rfl (st (s_load rfl) rfl ?_)))))))))
    refine st (s_callk (ho ) rfl ⟨VT.le_refl _, VT.le_refl _, trivial⟩) rfl ?_
    refine st (s_callk (hl ) rfl ⟨VT.le_refl _, VT.le_refl _, VT.le_refl _, trivial⟩) rfl ?_
    refine Run.nil (st (s_assign rfl) rfl (Run.nil (pn_block (pj_then (J_reg (st (s_move rfl) rfl (st (s_addN _ 1 rfl rfl (by omega)) rfl (st (s_assign rfl) rfl (Run.nil ?_)))))))))
    refine pj_roundM (i + 1) (hi) (by omega) (by repeat (first | exact SubG.refl _ | exact SubG.nil | refine SubG.cons rfl (VT.le_refl _) ?_ | (refine SubG.cons rfl (one_le ?_) ?_; (congr 1; first | omega | (simp; omega) | simp)))) (.keep (Own.le_refl _) (.nil))
  · have he : i = k := by omega
    subst he
    refine J_seq (J_seq (J_reg (st (s_move rfl) rfl (st (s_move rfl) rfl (st (s_lenO rfl) rfl (st (sF (by omega) (s_lt rfl rfl)) rfl (Run.nil (pj_then (J_cond0 rfl ?_)))))))))
    refine J_exit (px_then (px_then (px_block (pj_then (J_seq (J_reg (st (s_move rfl) rfl (st (s_assign rfl) rfl (Run.nil ?_)))))))))
    refine pj_then (J_ret ?_)
    exact retI1 (σ := Unit) () Tryz.results53 (.tmp rfl (VT.le_refl _)) (SubM.refl _)
end Tor
end
section
namespace Tor
open Go Go.RowKit Go.Proofs
abbrev basF (l : List (Nat → Rat)) : Nat → Nat → Rat := fun k => l.getD k (fun _ => 0)
def newQ (c : Nat) (F : Nat → Nat → Int) : Nat → List Nat × List (Nat → Rat)
  | 0 => ([], [])
  | i + 1 => if firstQ (redN (basF (newQ c F i).2) c (fun j => (F i j : Rat)) (newQ c F i).2.length) c < c then ((newQ c F i).1 ++ [i], (newQ c F i).2 ++ [redN (basF (newQ c F i).2) c (fun j => (F i j : Rat)) (newQ c F i).2.length]) else newQ c F i
def newB (α : Nat) : Nat → Nat
  | 0 => α
  | k + 1 => redB α (newB α k) k
theorem newB_succ (α k : Nat) : newB α k ≤ newB α (k + 1) := by
  show newB α k ≤ redB α (newB α k) k
  cases k with
  | zero => exact Nat.le_refl _
  | succ k =>
    show newB α (k + 1) ≤ 2 * redB α (newB α (k + 1)) k + 2 * newB α (k + 1) + 1
    omega
theorem newB_mono {α i k : Nat} (h : i ≤ k) : newB α i ≤ newB α k := by
  induction k with
  | zero => have : i = 0 := by omega
            subst this; exact Nat.le_refl _
  | succ k ih =>
    by_cases e : i = k + 1
    · rw [e]; exact Nat.le_refl _
    · exact Nat.le_trans (ih (by omega)) (newB_succ α k)
structure NewI (α c i : Nat) (s : List Nat × List (Nat → Rat)) : Prop where
  l1 : s.1.length = s.2.length
  l2 : s.2.length ≤ i
  b : ∀ k, k < s.2.length → firstQ (basF s.2 k) c < c ∧ ∀ j, qz (newB α s.2.length) (basF s.2 k j)
theorem bas_app {l : List (Nat → Rat)} {r : Nat → Rat} {k : Nat} (h : k < l.length) : basF (l ++ [r]) k = basF l k := by
  unfold basF; simp [List.getD, List.getElem?_append_left h]
theorem bas_last (l : List (Nat → Rat)) (r : Nat → Rat) : basF (l ++ [r]) l.length = r := by
  unfold basF; simp [List.getD]
theorem newQ_I {α c : Nat} {F : Nat → Nat → Int} (hF : ∀ i j, lz α (F i j)) (hα : 1 ≤ α) : ∀ i, NewI α c i (newQ c F i)
  | 0 => ⟨rfl, Nat.zero_le _, fun k h => absurd h (Nat.not_lt_zero _)⟩
  | i + 1 => by
    have ih := newQ_I (c := c) hF hα i
    have hr := qz_red (n := c) (newQ c F i).2.length (fun j => qz_int (a := F i j) hα (hF i j)) ih.b (newQ c F i).2.length (Nat.le_refl _)
    show NewI α c (i + 1) (if _ then _ else newQ c F i)
    split
    · rename_i h
      generalize redN (basF (newQ c F i).2) c (fun j => (F i j : Rat)) (newQ c F i).2.length = r at *
      generalize newQ c F i = S at *
      refine ⟨by simp [ih.l1], by have := ih.l2; simp; omega, fun k hk => ?_⟩
      have hl : (S.2 ++ [r]).length = S.2.length + 1 := by simp
      have hk : k < (S.2 ++ [r]).length := hk
      rw [hl] at hk
      show firstQ (basF (S.2 ++ [r]) k) c < c ∧ ∀ j, qz (newB α (S.2 ++ [r]).length) (basF (S.2 ++ [r]) k j)
      rw [hl]
      by_cases h1 : k < S.2.length
      · rw [bas_app h1]
        exact ⟨(ih.b k h1).1, fun j => ((ih.b k h1).2 j).mono (newB_succ _ _)⟩
      · rw [show k = S.2.length by omega, bas_last]
        exact ⟨h, hr⟩
    · exact ⟨ih.l1, by have := ih.l2; omega, ih.b⟩
theorem piv_same {sv : Option Nat} {T : TypeId} {cap : Nat} {l m : List Nat} (h : m = l) : Own.le (sliO sv T .one cap l.length (pivF l)) (sliO sv T .one cap m.length (pivF m)) := h ▸ Own.le_refl _
theorem piv_snoc {sv : Option Nat} {T : TypeId} {cap c : Nat} {l m : List Nat} (h : m = l ++ [c]) : Own.le (sliO sv T .one cap (l.length + 1) (fun q => if q < l.length then pivF l q else one (.int .i64 (c : Nat)))) (sliO sv T .one cap m.length (pivF m)) := by subst h; exact piv_next
theorem bas_snoc {sv : Option Nat} {T : TypeId} {cap c : Nat} {l m : List (Nat → Rat)} {r : Nat → Rat} (h : m = l ++ [r]) : Own.le (sliO sv T .one cap (l.length + 1) (fun q => if q < l.length then ratF c (basF l q) else ratF c r)) (sliO sv T .one cap m.length (fun q => ratF c (basF m q))) := by
  subst h
  refine sliO_len (by simp) (fun q hq => ?_)
  by_cases h1 : q < l.length
  · rw [if_pos h1, bas_app h1]
  · have : q = l.length := by omega
    subst this; rw [if_neg h1, bas_last]
theorem bas_same {sv : Option Nat} {T : TypeId} {cap c : Nat} {l m : List (Nat → Rat)} (h : m = l) : Own.le (sliO sv T .one cap l.length (fun q => ratF c (basF l q))) (sliO sv T .one cap m.length (fun q => ratF c (basF m q))) := h ▸ Own.le_refl _
attribute [local irreducible] Tor.J Tor.PJ Tor.StepO Tor.one Tor.slT Tor.ptrT Tor.aggT Tor.tupT Tor.exT Tor.andT Tor.eP Tor.boxO Tor.sliO Tor.slV Tor.VT.le Tor.Ret Tor.anyT Tor.xO
attribute [local irreducible] bigT ratT ratF rowF
set_option maxHeartbeats 4000000 in
theorem r8New_ok (r c : Nat) (F : Nat → Nat → Int) (α : Nat) (hr : r ≤ 1024) (hc : c ≤ 1024) (hα : 1 ≤ α) (hF : ∀ i j, lz α (F i j)) (hz : newB α r ≤ 1099511627700) : Ok Tryz.prog 46 [matF r c F] (pivT (newQ c F r).1) := by
  unfold matF
  refine Ok.enter Tryz.func46 rfl Tryz.ntmps46 rfl (fun w O => ?_)
  refine J_seq (J_reg ?_)
  refine a_boxS rfl rfl (ltN rfl) (fun b1 => ?_)
  refine st (s_assign rfl) rfl (Run.nil (pj_then (J_seq (J_reg (stSO (n := 0) rfl rfl rfl rfl rfl ?_)))))
  refine PartsK.nil (fun bl => ?_)
  refine stSO (n := 0) rfl rfl rfl rfl rfl ?_
  refine PartsK.nil (fun bl => ?_)
  refine st (s_assign rfl) rfl (st (s_assign rfl) rfl (Run.nil (pj_then (J_seq (J_seq (J_reg (st (s_assign rfl) rfl (Run.nil (pj_then ?_)))))))))
  refine J_block ?_
  rename_i blo
  generalize hQ : newQ c F = Q at *
  have hQ0 : Q 0 = ([], []) := by rw [← hQ]; rfl
  refine J_sub (Γ' := [(1, _), (2, _), (3, _), (4, _), (5, _)]) (SubG.cons rfl (VT.le_refl _) (SubG.cons rfl (VT.le_refl _) (SubG.cons rfl (VT.le_refl _) (SubG.cons rfl (VT.le_refl _) (SubG.cons rfl (VT.le_refl _) (SubG.nil)))))) (SubM.refl _) ?_
  refine J_loopA (σ := Nat × Option Nat × Nat × Option Nat × Nat) (Γk := [(1, _), (2, _)]) (SubG.cons rfl (VT.le_refl _) (SubG.cons rfl (VT.le_refl _) (SubG.nil))) (fun s => [(5, one (.int .i64 (s.1 : Nat))), (3, one (slV s.2.1 (Q s.1).1.length s.2.2.1)), (4, one (slV s.2.2.2.1 (Q s.1).2.length s.2.2.2.2))]) (fun s M0 => ((M0.set 1 (sliO s.2.1 3 .one s.2.2.1 (Q s.1).1.length (pivF (Q s.1).1))).set 0 (sliO s.2.2.2.1 36 .one s.2.2.2.2 (Q s.1).2.length (fun q => ratF c (basF (Q s.1).2 q))))) (fun s => s.1 ≤ r) (fun s => r - s.1) ((0, some blo, 0, some bl, 0)) (Nat.zero_le _) (by (repeat (first | exact SubG.nil | refine SubG.cons rfl (VT.le_refl _) ?_ | refine SubG.cons rfl (slV_len (by dsimp only; rw [hQ0]; rfl)) ?_))) (.keep (sliO_len (by dsimp only; rw [hQ0]; rfl) (fun q hq => absurd hq (Nat.not_lt_zero _))) (.keep (sliO_len (by dsimp only; rw [hQ0]; rfl) (fun q hq => absurd hq (Nat.not_lt_zero _))) (.keep (Own.le_refl _) (.nil)))) (fun s hs => ?_)
  refine J_norm (Γ' := [(5, _), (3, _), (4, _), (1, _), (2, _)]) (M' := [_, _, _]) rfl rfl ?_
  obtain ⟨i, svo, capo, svb, capb⟩ := s
  dsimp only at hs ⊢
  have hI : NewI α c i (Q i) := by rw [← hQ]; exact newQ_I (c := c) hF hα i
  have hsucc : Q (i + 1) = if firstQ (redN (basF (Q i).2) c (fun j => (F i j : Rat)) (Q i).2.length) c < c then ((Q i).1 ++ [i], (Q i).2 ++ [redN (basF (Q i).2) c (fun j => (F i j : Rat)) (Q i).2.length]) else Q i := by rw [← hQ]; rfl
  generalize hS : Q i = S at *
  have hl1 := hI.l1
  have hl2 := hI.l2
  by_cases hi : i < r
  · have hrat := r8Rationals_ok c (F i) (by omega)
    have hz1 : newB α (S.2.length + 1) ≤ 1099511627700 := Nat.le_trans (newB_mono (by omega)) hz
    have hred := r8reduced_ok c c S.2.length (fun j => (F i j : Rat)) (basF S.2) svb capb α (newB α S.2.length) (by omega) (Nat.le_refl _) (by omega) (fun j => qz_int hα (hF i j)) hI.b hz1
    have hfi := r8first_ok c c (redN (basF S.2) c (fun j => (F i j : Rat)) S.2.length) (by omega) (Nat.le_refl _)
    generalize redN (basF S.2) c (fun j => (F i j : Rat)) S.2.length = R at *
    refine J_seq (J_seq (J_reg (st (s_move rfl) rfl (st (s_fieldAddr rfl) rfl (st (s_loadB 2 rfl rfl rfl) rfl (st (sT (by omega) (s_lt rfl rfl)) rfl (Run.nil (pj_then (J_cond1 rfl ?_)))))))))
    refine J_skip (pj_then (J_seq (J_block (J_seq (J_regd 10 mixed (by kernel_rfl) (by decide) (st (s_fieldAddr rfl) rfl (st (s_loadB 2 rfl rfl rfl) rfl (st (s_move rfl) rfl (st (s_indexIN rfl rfl (by omega)) rfl ?_)))))))))
    refine st (s_load rfl) rfl ?_
    refine st (s_callk (hrat ) rfl ⟨VT.le_refl _, trivial⟩) rfl ?_
    refine st (s_move rfl) rfl (st (s_fieldAddr rfl) rfl (st (s_loadB 2 rfl rfl rfl) rfl ?_))
    refine st (s_callR (Min := [_]) (Kp := [_, _]) hred rfl ⟨VT.le_refl _, VT.le_refl _, VT.le_refl _, trivial⟩ (List.Perm.refl _)) rfl ?_
    by_cases hf : firstQ R c < c
    · rw [if_pos hf] at hsucc
      have e1 := congrArg Prod.fst hsucc
      have e2 := congrArg Prod.snd hsucc
      have l1 : (Q (i + 1)).1.length = S.1.length + 1 := by rw [e1]; simp
      have l2 : (Q (i + 1)).2.length = S.2.length + 1 := by rw [e2]; simp
      refine Run.nil (st (s_assign rfl) rfl (Run.nil (pj_then (J_seq (J_regd 7 mixed (by kernel_rfl) (by decide) (st (s_move rfl) rfl (st (s_fieldAddr rfl) rfl (st (s_loadB 2 rfl rfl rfl) rfl ?_))))))))
      refine st (s_callk (hfi ) rfl ⟨VT.le_refl _, VT.le_refl _, trivial⟩) rfl ?_
      refine st (s_fieldAddr rfl) rfl (st (s_loadB 2 rfl rfl rfl) rfl (st (sT (by omega) (s_lt rfl rfl)) rfl (Run.nil (Run.nil (pj_then (J_cond1 rfl (J_seq (J_reg (st (s_move rfl) rfl ?_)))))))))
      refine st (s_move rfl) rfl (stS1 rfl rfl rfl rfl ?_)
      (refine a_append 1 rfl rfl rfl (leN rfl) ?_ ?_ rfl (ltN rfl) (fun sv35 cap35 => ?_); omega; omega)
      refine st (s_assign rfl) rfl (Run.nil (pj_then (J_reg (st (s_move rfl) rfl (st (s_move rfl) rfl (stS1 rfl rfl rfl rfl ?_))))))
      (refine a_append 0 rfl rfl rfl (leN rfl) ?_ ?_ rfl (ltN rfl) (fun sv39 cap39 => ?_); omega; omega)
      refine st (s_assign rfl) rfl (Run.nil (pn_block (pj_then (J_reg (st (s_move rfl) rfl (st (s_addN _ 1 rfl rfl (by omega)) rfl (st (s_assign rfl) rfl (Run.nil ?_))))))))
      refine pj_roundM ((i + 1, sv35, cap35, sv39, cap39)) (hi) (by omega) (by (repeat (first | exact SubG.nil | refine SubG.cons rfl (VT.le_refl _) ?_ | refine SubG.cons rfl (slV_len (by dsimp only; omega)) ?_))) (.keep (bas_snoc e2) (.keep (piv_snoc e1) (.keep (Own.le_refl _) (.nil))))
    · rw [if_neg hf] at hsucc
      have e1 := congrArg Prod.fst hsucc
      have e2 := congrArg Prod.snd hsucc
      have l1 := congrArg List.length e1
      have l2 := congrArg List.length e2
      refine Run.nil (st (s_assign rfl) rfl (Run.nil (pj_then (J_seq (J_regd 7 mixed (by kernel_rfl) (by decide) (st (s_move rfl) rfl (st (s_fieldAddr rfl) rfl (st (s_loadB 2 rfl rfl rfl) rfl ?_))))))))
      refine st (s_callk (hfi ) rfl ⟨VT.le_refl _, VT.le_refl _, trivial⟩) rfl ?_
      refine st (s_fieldAddr rfl) rfl (st (s_loadB 2 rfl rfl rfl) rfl (st (sF (by omega) (s_lt rfl rfl)) rfl (Run.nil (Run.nil (pj_then (J_cond0 rfl (J_skip (pn_block (pj_then ?_)))))))))
      refine J_reg (st (s_move rfl) rfl (st (s_addN _ 1 rfl rfl (by omega)) rfl (st (s_assign rfl) rfl (Run.nil ?_))))
      refine pj_roundM ((i + 1, svo, capo, svb, capb)) (hi) (by omega) (by (repeat (first | exact SubG.nil | refine SubG.cons rfl (VT.le_refl _) ?_ | refine SubG.cons rfl (slV_len (by dsimp only; omega)) ?_))) (.keep (bas_same e2) (.keep (piv_same e1) (.keep (Own.le_refl _) (.nil))))
  · have he : i = r := by omega
    subst he
    rw [hS]
    refine J_seq (J_seq (J_reg (st (s_move rfl) rfl (st (s_fieldAddr rfl) rfl (st (s_loadB 2 rfl rfl rfl) rfl (st (sF (by omega) (s_lt rfl rfl)) rfl (Run.nil (pj_then (J_cond0 rfl ?_)))))))))
    refine J_exit (px_then (px_then (px_block (pj_then (J_seq (J_reg (st (s_move rfl) rfl (st (s_assign rfl) rfl (Run.nil ?_)))))))))
    refine pj_then (J_ret (PJ_freeze (t := 2) (i := 1) rfl rfl ?_))
    refine retc1 Tryz.results46 (.tmp rfl (VT.le_refl _))
set_option maxHeartbeats 4000000 in
theorem r8Rank_ok (r c : Nat) (F : Nat → Nat → Int) (α : Nat) (hr : r ≤ 1024) (hc : c ≤ 1024) (hα : 1 ≤ α) (hF : ∀ i j, lz α (F i j)) (hz : newB α r ≤ 1099511627700) (hz' : newB α c ≤ 1099511627700) :
    Ok Tryz.prog 12 [matF r c F] (tupT [pivT (newQ c F r).1, pivT (newQ r (fun i j => F j i) c).1]) := by
  have h1 := r8New_ok r c F α hr hc hα hF hz
  have h2 := r8New_ok c r (fun i j => F j i) α hc hr hα (fun i j => hF j i) hz'
  have ht := rTranspose_ok r c F (by omega) (by omega)
  refine Ok.enter Tryz.func12 rfl Tryz.ntmps12 rfl (fun w O => ?_)
  refine J_seq (J_reg ?_)
  refine a_boxS rfl rfl (ltN rfl) (fun b1 => ?_)
  refine st (s_assign rfl) rfl (st (s_assign rfl) rfl (Run.nil (pj_then (J_seq (J_regd 6 mixed (by kernel_rfl) (by decide) (st (s_loadW 0 rfl rfl) rfl ?_))))))
  refine st (s_callk (h1 ) rfl ⟨VT.le_refl _, trivial⟩) rfl ?_
  refine st (s_loadW 0 rfl rfl) rfl ?_
  refine st (s_callk (ht ) rfl ⟨VT.le_refl _, trivial⟩) rfl ?_
  refine st (s_callk (h2 ) rfl ⟨VT.le_refl _, trivial⟩) rfl ?_
  refine st (s_assign rfl) rfl (Run.nil (st (s_assign rfl) rfl (Run.nil (pj_then (J_ret ?_)))))
  refine retc2 Tryz.results12 (.tmp rfl (VT.le_refl _)) (.tmp rfl (VT.le_refl _))
end Tor
end
section
namespace Tor
open Go Go.RowKit Go.Proofs
theorem choose_below {α : Type} [Inhabited α] {n : Nat} {P : Nat → α → Prop} (h : ∀ t, t < n → ∃ z, P t z) : ∃ Z : Nat → α, ∀ t, t < n → P t (Z t) := by
  refine ⟨fun t => if h' : t < n then Classical.choose (h t h') else default, fun t ht => ?_⟩
  have := Classical.choose_spec (h t ht)
  dsimp only
  rw [dif_pos ht]; exact this
def Ech (B : Nat → Nat → Rat) (n k : Nat) : Prop := (∀ i, i < k → firstQ (B i) n < n) ∧ ∀ i j, i < j → j < k → B j (firstQ (B i) n) = 0
theorem red_zero {B : Nat → Nat → Rat} {n k : Nat} (h : Ech B n k) (a : Nat → Rat) : ∀ i, i ≤ k → ∀ t, t < i → redN B n a i (firstQ (B t) n) = 0
  | 0, _, t, ht => absurd ht (Nat.not_lt_zero _)
  | i + 1, hi, t, ht => by
    show redN B n a i (firstQ (B t) n) - redN B n a i (firstQ (B i) n) / B i (firstQ (B i) n) * B i (firstQ (B t) n) = 0
    by_cases e : t = i
    · subst e
      have h0 := (firstQ_lt (h.1 t (by omega))).1
      grind
    · rw [red_zero h a i (by omega) t (by omega), h.2 t i (by omega) (by omega)]; grind
theorem red_span (B : Nat → Nat → Rat) (n : Nat) (a : Nat → Rat) : ∀ i j, redN B n a i j = a j - Lin.sm i (fun t => redN B n a t (firstQ (B t) n) / B t (firstQ (B t) n) * B t j)
  | 0, j => by show a j = a j - 0; grind
  | i + 1, j => by
    show redN B n a i j - redN B n a i (firstQ (B i) n) / B i (firstQ (B i) n) * B i j = a j - (Lin.sm i _ + _)
    rw [red_span B n a i j]; grind
theorem ech_zero {B : Nat → Nat → Rat} {n k : Nat} (h : Ech B n k) {g : Nat → Rat} (h0 : ∀ t, t < k → Lin.sm k (fun s => g s * B s (firstQ (B t) n)) = 0) : ∀ t, t < k → g t = 0 := by
  intro t
  induction t using Nat.strongRecOn with
  | _ t ih =>
    intro ht
    have z := h0 t ht
    rw [Lin.sm_one ht (fun i hi hne => by
      rcases Nat.lt_or_ge i t with h1 | h1
      · rw [ih i h1 hi]; exact Rat.zero_mul _
      · rw [h.2 t i (by omega) hi]; exact Rat.mul_zero _)] at z
    have hb := (firstQ_lt (h.1 t ht)).1
    rcases Rat.mul_eq_zero.1 z with h1 | h1
    · exact h1
    · exact absurd h1 hb
theorem ech_snoc {l : List (Nat → Rat)} {n : Nat} {R : Nat → Rat} (h : Ech (basF l) n l.length) (h1 : firstQ R n < n) (h2 : ∀ t, t < l.length → R (firstQ (basF l t) n) = 0) : Ech (basF (l ++ [R])) n (l ++ [R]).length := by
  have hl : (l ++ [R]).length = l.length + 1 := by simp
  rw [hl]
  refine ⟨fun i hi => ?_, fun i j hij hj => ?_⟩
  · by_cases e : i < l.length
    · rw [bas_app e]; exact h.1 i e
    · rw [show i = l.length by omega, bas_last]; exact h1
  · rw [bas_app (show i < l.length by omega)]
    by_cases e : j < l.length
    · rw [bas_app e]; exact h.2 i j hij e
    · rw [show j = l.length by omega, bas_last]; exact h2 i (by omega)
structure NewJ (r c : Nat) (F : Nat → Nat → Int) (i : Nat) (s : List Nat × List (Nat → Rat)) : Prop where
  ech : Ech (basF s.2) c s.2.length
  sp : ∀ i', i' < i → ∃ y : Nat → Rat, ∀ j, (F i' j : Rat) - Lin.sm s.2.length (fun t => y t * basF s.2 t j) = 0 ∨ c ≤ j
  cb : ∀ t, t < s.2.length → ∃ z : Nat → Rat, (∀ q, i ≤ q → z q = 0) ∧ ∀ j, basF s.2 t j = Lin.sm r (fun q => z q * (F q j : Rat))
  nw : s.1 = Lin.newL c r (fun i j => F j i) i
theorem sm_snocB {l : List (Nat → Rat)} {R : Nat → Rat} {y : Nat → Rat} {j : Nat} : Lin.sm (l ++ [R]).length (fun t => y t * basF (l ++ [R]) t j) = Lin.sm l.length (fun t => y t * basF l t j) + y l.length * R j := by
  rw [show (l ++ [R]).length = l.length + 1 by simp, Lin.sm, bas_last]
  congr 1
  exact Lin.sm_congr fun t ht => by rw [bas_app ht]
theorem newQ_J {r c : Nat} {F : Nat → Nat → Int} : ∀ i, i ≤ r → NewJ r c F i (newQ c F i)
  | 0, _ => ⟨⟨fun i h => absurd h (Nat.not_lt_zero _), fun i j _ h => absurd h (Nat.not_lt_zero _)⟩, fun i h => absurd h (Nat.not_lt_zero _), fun t h => absurd h (Nat.not_lt_zero _), rfl⟩
  | i + 1, hi => by
    have ih := newQ_J (r := r) (c := c) (F := F) i (by omega)
    show NewJ r c F (i + 1) (if _ then _ else newQ c F i)
    have hz := red_zero ih.ech (fun j => (F i j : Rat)) _ (Nat.le_refl _)
    obtain ⟨co, hsp⟩ : ∃ co : Nat → Rat, ∀ j, redN (basF (newQ c F i).2) c (fun j => (F i j : Rat)) (newQ c F i).2.length j = (F i j : Rat) - Lin.sm (newQ c F i).2.length (fun t => co t * basF (newQ c F i).2 t j) := ⟨_, fun j => red_span (basF (newQ c F i).2) c (fun j => (F i j : Rat)) (newQ c F i).2.length j⟩
    generalize hR : redN (basF (newQ c F i).2) c (fun j => (F i j : Rat)) (newQ c F i).2.length = R at *
    clear hR
    generalize newQ c F i = S at *
    -- a row of the basis and the row i as combinations of the rows
    have hcR : ∃ z : Nat → Rat, z i = 1 ∧ (∀ q, i < q → z q = 0) ∧ ∀ j, R j = Lin.sm r (fun q => z q * (F q j : Rat)) := by
      have hch := choose_below ih.cb
      obtain ⟨Z, hZ⟩ := hch
      refine ⟨fun q => (if q = i then 1 else 0) - Lin.sm S.2.length (fun t => co t * Z t q), ?_, fun q hq => ?_, fun j => ?_⟩
      · show (if i = i then (1 : Rat) else 0) - _ = 1
        rw [if_pos rfl, Lin.sm_all0 (fun t ht => by rw [(hZ t ht).1 i (Nat.le_refl _)]; exact Rat.mul_zero _)]; grind
      · show (if q = i then (1 : Rat) else 0) - _ = 0
        rw [if_neg (by omega), Lin.sm_all0 (fun t ht => by rw [(hZ t ht).1 q (by omega)]; exact Rat.mul_zero _)]; grind
      · rw [hsp j]
        rw [Lin.sm_congr (f := fun q => ((if q = i then 1 else 0) - Lin.sm S.2.length (fun t => co t * Z t q)) * (F q j : Rat)) (g := fun q => (if q = i then (F q j : Rat) else 0) - Lin.sm S.2.length (fun t => co t * (Z t q * (F q j : Rat)))) (fun q _ => by
          have e : Lin.sm S.2.length (fun t => co t * (Z t q * (F q j : Rat))) = Lin.sm S.2.length (fun t => co t * Z t q) * (F q j : Rat) := by
            rw [← Lin.sm_mulr]; exact Lin.sm_congr fun t _ => by grind
          rw [e]; split <;> grind), Lin.sm_sub, Lin.sm_ite (by omega), Lin.sm_swap]
        congr 1
        exact Lin.sm_congr fun t ht => by
          rw [(hZ t ht).2 j, Rat.mul_comm, ← Lin.sm_mulr]
          exact Lin.sm_congr fun q _ => by grind
    by_cases hf : firstQ R c < c
    · rw [if_pos hf]
      refine ⟨ech_snoc ih.ech hf hz, fun i' hi' => ?_, fun t ht => ?_, ?_⟩
      · by_cases e : i' = i
        · subst e
          refine ⟨fun t => if t < S.2.length then co t else 1, fun j => .inl ?_⟩
          show _ - Lin.sm (S.2 ++ [R]).length (fun t => (if t < S.2.length then co t else 1) * basF (S.2 ++ [R]) t j) = 0
          rw [sm_snocB (y := fun t => if t < S.2.length then co t else 1), if_neg (Nat.lt_irrefl _), hsp j, Lin.sm_congr (g := fun t => co t * basF S.2 t j) (fun t ht => by rw [if_pos ht])]
          grind
        · obtain ⟨y, hy⟩ := ih.sp i' (by omega)
          refine ⟨fun t => if t < S.2.length then y t else 0, fun j => (hy j).imp (fun h => ?_) id⟩
          show _ - Lin.sm (S.2 ++ [R]).length (fun t => (if t < S.2.length then y t else 0) * basF (S.2 ++ [R]) t j) = 0
          rw [sm_snocB (y := fun t => if t < S.2.length then y t else 0), if_neg (Nat.lt_irrefl _), Lin.sm_congr (g := fun t => y t * basF S.2 t j) (fun t ht => by rw [if_pos ht])]
          grind
      · have hl : (S.2 ++ [R]).length = S.2.length + 1 := by simp
        have ht : t < (S.2 ++ [R]).length := ht
        show ∃ z : Nat → Rat, (∀ q, i + 1 ≤ q → z q = 0) ∧ ∀ j, basF (S.2 ++ [R]) t j = Lin.sm r (fun q => z q * (F q j : Rat))
        by_cases e : t < S.2.length
        · obtain ⟨z, z1, z2⟩ := ih.cb t e
          exact ⟨z, fun q hq => z1 q (by omega), fun j => by rw [bas_app e]; exact z2 j⟩
        · obtain ⟨z, _, z1, z2⟩ := hcR
          exact ⟨z, fun q hq => z1 q (by omega), fun j => by rw [show t = S.2.length by omega, bas_last]; exact z2 j⟩
      · show S.1 ++ [i] = _
        rw [Lin.newL_succ_new, ← ih.nw]
        rintro ⟨y, y1, y2, y3⟩
        have hch := choose_below ih.sp
        obtain ⟨Y, hY⟩ := hch
        -- the row i is a combination of the basis
        have e1 : ∀ j, j < c → R j = Lin.sm S.2.length (fun t => (- Lin.sm i (fun q => y q * Y q t) - co t) * basF S.2 t j) := fun j hj => by
          have z := y3 j hj
          rw [Lin.sm_trunc (show i + 1 ≤ r by omega) (fun q h1 _ => by rw [y2 q (by omega)]; exact Rat.zero_mul _), Lin.sm, y1] at z
          rw [Lin.sm_congr (g := fun t => (-1 : Rat) * (Lin.sm i (fun q => y q * Y q t) * basF S.2 t j) + (-1 : Rat) * (co t * basF S.2 t j)) (fun t _ => by grind), Lin.sm_lin, hsp j]
          have e2 : Lin.sm S.2.length (fun t => Lin.sm i (fun q => y q * Y q t) * basF S.2 t j) = Lin.sm i (fun q => y q * (F q j : Rat)) := by
            rw [Lin.sm_congr (g := fun t => Lin.sm i (fun q => y q * Y q t * basF S.2 t j)) (fun t _ => by rw [Lin.sm_mulr]), Lin.sm_swap]
            refine Lin.sm_congr fun q hq => ?_
            rcases hY q hq j with h | h
            · have h : (F q j : Rat) = Lin.sm S.2.length (fun t => Y q t * basF S.2 t j) := by grind
              rw [h, Rat.mul_comm, ← Lin.sm_mulr]
              exact Lin.sm_congr fun t _ => by grind
            · omega
          rw [e2]
          have z : Lin.sm i (fun j_1 => y j_1 * (F j_1 j : Rat)) + 1 * (F i j : Rat) = 0 := z
          grind
        have g0 := ech_zero ih.ech (g := fun t => - Lin.sm i (fun q => y q * Y q t) - co t) (fun t ht => by
          have hlt := ih.ech.1 t ht
          rw [← e1 _ hlt]; exact hz t ht)
        have : R (firstQ R c) = 0 := by
          rw [e1 _ hf]
          exact Lin.sm_all0 fun t ht => by rw [g0 t ht]; exact Rat.zero_mul _
        exact (firstQ_lt hf).1 this
    · rw [if_neg hf]
      have hR0 : ∀ j, j < c → R j = 0 := by
        rcases firstQ_cases R c with ⟨_, h⟩ | ⟨h, _⟩
        · exact h
        · exact absurd h hf
      refine ⟨ih.ech, fun i' hi' => ?_, fun t ht => ?_, ?_⟩
      · by_cases e : i' = i
        · subst e
          refine ⟨co, fun j => ?_⟩
          by_cases hj : j < c
          · exact .inl (by rw [← hsp j]; exact hR0 j hj)
          · exact .inr (by omega)
        · exact ih.sp i' (by omega)
      · obtain ⟨z, z1, z2⟩ := ih.cb t ht
        exact ⟨z, fun q hq => z1 q (by omega), z2⟩
      · rw [Lin.newL_succ_old, ← ih.nw]
        obtain ⟨z, z0, z1, z2⟩ := hcR
        exact Classical.not_not.2 ⟨z, z0, z1, fun j hj => by
          have := z2 j
          rw [hR0 j hj] at this
          exact this.symm⟩
theorem newQ_newL {r c i : Nat} {F : Nat → Nat → Int} (h : i ≤ r) : (newQ c F i).1 = Lin.newL c r (fun i j => F j i) i := (newQ_J i h).nw
end Tor
end
section
namespace Tor.Lin
theorem det_clear (m : Nat) (B : Nat → Nat → Rat) (c : Nat → Rat) : det m (fun i j => if 0 < i then B i j - c i * B 0 j else B i j) = det m B := by
  have key : ∀ t, t ≤ m → det m (fun i j => if 0 < i ∧ i < t then B i j - c i * B 0 j else B i j) = det m B := by
    intro t
    induction t with
    | zero => intro _; exact det_congr fun i j _ _ => by rw [if_neg (by omega)]
    | succ t ih =>
      intro ht
      by_cases h0 : t = 0
      · subst h0; exact det_congr fun i j _ _ => by rw [if_neg (by omega)]
      · rw [← ih (by omega), ← det_rowop two_rat (p := t) (q := 0) h0 (by omega) (by omega) (- c t) (fun i j => if 0 < i ∧ i < t then B i j - c i * B 0 j else B i j)]
        exact det_congr fun i j _ _ => by
          by_cases h1 : i = t
          · subst h1
            rw [if_pos (by omega), if_pos rfl, if_neg (by omega), if_neg (by omega)]; grind
          · rw [if_neg h1]
            by_cases h2 : 0 < i ∧ i < t
            · rw [if_pos (by omega), if_pos h2]
            · rw [if_neg (by omega), if_neg h2]
  rw [← key m (Nat.le_refl _)]
  exact det_congr fun i j hi _ => by
    by_cases h : 0 < i
    · rw [if_pos h, if_pos ⟨h, hi⟩]
    · rw [if_neg h, if_neg (fun k => h k.1)]
def DetI (n k : Nat) (F : Nat → Nat → Int) (R : Nat → Nat → Rat) (o : Rat) : Prop := det n (fun i j => (F i j : Rat)) = o * det (n - k) (fun i j => R (k + i) (k + j))
theorem DetI.start (n : Nat) (F : Nat → Nat → Int) : DetI n 0 F (fun i j => (F i j : Rat)) 1 := by
  show _ = (1 : Rat) * det (n - 0) (fun i j => ((F (0 + i) (0 + j) : Int) : Rat))
  rw [Nat.sub_zero, det_congr (F := fun i j => ((F (0 + i) (0 + j) : Int) : Rat)) (G := fun i j => (F i j : Rat)) (fun i j _ _ => by simp only [Nat.zero_add])]; grind
theorem DetI.done {n : Nat} {F : Nat → Nat → Int} {R : Nat → Nat → Rat} {o : Rat} (h : DetI n n F R o) : o = ((detZ n F : Int) : Rat) := by
  rw [detZ_cast, h, Nat.sub_self]
  show o = o * 1
  grind
theorem DetI.zero {n k : Nat} {F : Nat → Nat → Int} {R : Nat → Nat → Rat} {o : Rat} (h : DetI n k F R o) (hk : k < n) (h0 : ∀ i, k ≤ i → i < n → R i k = 0) : detZ n F = 0 := by
  have : ((detZ n F : Int) : Rat) = ((0 : Int) : Rat) := by
    rw [detZ_cast, h, det_zcol (p := 0) (by omega) (fun i hi => by rw [Nat.add_zero]; exact h0 _ (by omega) (by omega))]
    have : ((0 : Int) : Rat) = 0 := rfl
    rw [this]; grind
  exact_mod_cast this
theorem DetI.swap {n k a : Nat} {F : Nat → Nat → Int} {R : Nat → Nat → Rat} {o : Rat} (h : DetI n k F R o) (hk : k < n) (ha : k ≤ a) (han : a < n) : DetI n k F (Tor.swp a k R) (if a = k then o else -o) := by
  unfold DetI at *
  by_cases e : a = k
  · subst e; rw [swp_self, if_pos rfl]; exact h
  · rw [if_neg e, h]
    have hsw := det_swap two_rat (n := n - k) (p := a - k) (q := 0) (by omega) (by omega) (by omega) (fun i j => R (k + i) (k + j))
    have e2 : det (n - k) (tw (fun i j => R (k + i) (k + j)) (a - k) 0 ((fun i j => R (k + i) (k + j)) 0) ((fun i j => R (k + i) (k + j)) (a - k))) = det (n - k) (fun i j => Tor.swp a k R (k + i) (k + j)) := det_congr fun i j _ _ => by
      unfold tw Tor.swp
      by_cases h1 : i = a - k
      · rw [if_pos h1, if_pos (show k + i = a by omega)]; rfl
      · rw [if_neg h1, if_neg (show ¬ k + i = a by omega)]
        by_cases h2 : i = 0
        · rw [if_pos h2, if_pos (show k + i = k by omega)]; show R (k + (a - k)) (k + j) = _; rw [show k + (a - k) = a by omega]
        · rw [if_neg h2, if_neg (show ¬ k + i = k by omega)]
    rw [e2] at hsw
    rw [hsw]; grind
theorem DetI.step {n k : Nat} {F : Nat → Nat → Int} {R : Nat → Nat → Rat} {o : Rat} (h : DetI n k F R o) (hk : k < n) (hn : R k k ≠ 0) : DetI n (k + 1) F (fun i j => if k < i then R i j - R i k / R k k * R k j else R i j) (o * R k k) := by
  unfold DetI at *
  rw [h, ← det_clear (n - k) (fun i j => R (k + i) (k + j)) (fun i => R (k + i) k / R k k)]
  have hm : n - k = (n - (k + 1)) + 1 := by omega
  rw [hm, det_first (fun i hi => by
    show (if 0 < i + 1 then R (k + (i + 1)) (k + 0) - R (k + (i + 1)) k / R k k * R (k + 0) (k + 0) else R (k + (i + 1)) (k + 0)) = 0
    rw [if_pos (by omega), Nat.add_zero]; grind)]
  have e1 : (if 0 < 0 then R (k + 0) (k + 0) - R (k + 0) k / R k k * R (k + 0) (k + 0) else R (k + 0) (k + 0)) = R k k := by rw [if_neg (by omega), Nat.add_zero]
  have e2 : det (n - (k + 1)) (fun i j => if 0 < i + 1 then R (k + (i + 1)) (k + (j + 1)) - R (k + (i + 1)) k / R k k * R (k + 0) (k + (j + 1)) else R (k + (i + 1)) (k + (j + 1))) = det (n - (k + 1)) (fun i j => if k < k + 1 + i then R (k + 1 + i) (k + 1 + j) - R (k + 1 + i) k / R k k * R k (k + 1 + j) else R (k + 1 + i) (k + 1 + j)) := det_congr fun i j _ _ => by
    rw [if_pos (by omega), if_pos (by omega), show k + (i + 1) = k + 1 + i by omega, show k + (j + 1) = k + 1 + j by omega]
    simp only [Nat.add_zero]
  show o * ((if 0 < 0 then R (k + 0) (k + 0) - R (k + 0) k / R k k * R (k + 0) (k + 0) else R (k + 0) (k + 0)) * det (n - (k + 1)) (fun i j => if 0 < i + 1 then R (k + (i + 1)) (k + (j + 1)) - R (k + (i + 1)) k / R k k * R (k + 0) (k + (j + 1)) else R (k + (i + 1)) (k + (j + 1)))) = _
  rw [e1, e2]; grind
end Tor.Lin
end
section
namespace Tor
open Go Go.RowKit Go.Proofs
def rdB (α : Nat) : Nat → Nat
  | 0 => α
  | k + 1 => 4 * rdB α k + 1
theorem rdB_mono {α i k : Nat} (h : i ≤ k) : rdB α i ≤ rdB α k := by
  induction k with
  | zero => have : i = 0 := by omega
            subst this; exact Nat.le_refl _
  | succ k ih =>
    by_cases e : i = k + 1
    · rw [e]; exact Nat.le_refl _
    · have := ih (by omega)
      show rdB α i ≤ 4 * rdB α k + 1
      omega
def clrR (k i : Nat) (R : Nat → Nat → Rat) : Nat → Nat → Rat := fun q j => if k < q ∧ q < i then R q j - R q k / R k k * R k j else R q j
theorem clr_upd {sv : Option Nat} {T : TypeId} {cap n k i : Nat} {R : Nat → Nat → Rat} (h : k < i) : Own.le (sliO sv T .one cap n (upd (fun q => ratF n (clrR k i R q)) i (ratF n (fun j => R i j - R i k / R k k * R k j)))) (sliO sv T .one cap n (fun q => ratF n (clrR k (i + 1) R q))) := sliO_eq fun q hq => by
  show (if q = i then ratF n (fun j => R i j - R i k / R k k * R k j) else ratF n (clrR k i R q)) = _
  by_cases c : q = i
  · subst c; rw [if_pos rfl]; congr 1; funext j; unfold clrR; rw [if_pos (by omega)]
  · rw [if_neg c]; congr 1; funext j; unfold clrR
    by_cases c2 : k < q ∧ q < i
    · rw [if_pos c2, if_pos (by omega)]
    · rw [if_neg c2, if_neg (by omega)]
theorem clr_at {k i : Nat} {R : Nat → Nat → Rat} : clrR k i R i = R i := by funext j; unfold clrR; rw [if_neg (by omega)]
theorem clr_k {k i : Nat} {R : Nat → Nat → Rat} : clrR k i R k = R k := by funext j; unfold clrR; rw [if_neg (by omega)]
theorem clr_start {k : Nat} {R : Nat → Nat → Rat} : clrR k (k + 1) R = R := by funext q j; unfold clrR; rw [if_neg (by omega)]
theorem clr_end {k n : Nat} {F : Nat → Nat → Int} {R : Nat → Nat → Rat} {o : Rat} (h : Lin.DetI n (k + 1) F (fun i j => if k < i then R i j - R i k / R k k * R k j else R i j) o) : Lin.DetI n (k + 1) F (clrR k n R) o := by
  unfold Lin.DetI at *
  rw [h]; congr 1
  exact Lin.det_congr fun i j hi hj => by
    unfold clrR
    show (if k < k + 1 + i then _ else _) = _
    rw [if_pos (by omega), if_pos (by omega)]
theorem qz_clr {β k i : Nat} {R : Nat → Nat → Rat} (h : ∀ q j, qz β (R q j)) (h0 : R k k ≠ 0) : ∀ q j, qz (4 * β + 1) (clrR k i R q j) := fun q j => by
  unfold clrR; split
  · exact (qz_sub (h q j) (qz_mul (qz_over (h q k) (h k k) h0) (h k j))).mono (by omega)
  · exact (h q j).mono (by omega)
theorem qz_swp {β i k : Nat} {R : Nat → Nat → Rat} (h : ∀ q j, qz β (R q j)) : ∀ q j, qz β (swp i k R q j) := fun q j => by
  unfold swp; split
  · exact h _ _
  · split
    · exact h _ _
    · exact h _ _
structure RdI (α n k : Nat) (F : Nat → Nat → Int) (R : Nat → Nat → Rat) (o : Rat) : Prop where
  d : Lin.DetI n k F R o
  q : ∀ i j, qz (rdB α k) (R i j)
  o : qz (rdB α k) o
theorem RdI.next {α n k a : Nat} {F : Nat → Nat → Int} {R : Nat → Nat → Rat} {o : Rat} (h : RdI α n k F R o) (hα : 1 ≤ α) (hk : k < n) (ha : k ≤ a) (han : a < n) (h0 : R a k ≠ 0) : RdI α n (k + 1) F (clrR k n (swp a k R)) ((if a = k then o else -o) * R a k) := by
  have hs := h.d.swap hk ha han
  have hkk : swp a k R k k ≠ 0 := by rw [swp_at]; exact h0
  have ht := hs.step hk hkk
  rw [swp_at] at ht
  refine ⟨clr_end (by rw [swp_at]; exact ht), fun i j => qz_clr (qz_swp h.q) hkk i j, ?_⟩
  have ho : qz (rdB α k) (if a = k then o else -o) := by split; exact h.o; exact qz_neg h.o
  exact (qz_mul ho (h.q a k)).mono (by show rdB α k + rdB α k ≤ 4 * rdB α k + 1; omega)
theorem rat_swp {sv : Option Nat} {T : TypeId} {cap n a k : Nat} {R : Nat → Nat → Rat} (h : a ≠ k) : Own.le (sliO sv T .one cap n (upd (upd (fun q => ratF n (R q)) k (ratF n (R a))) a (ratF n (R k)))) (sliO sv T .one cap n (fun q => ratF n (swp a k R q))) := sliO_eq fun q hq => by
  show (if q = a then ratF n (R k) else (if q = k then ratF n (R a) else ratF n (R q))) = ratF n (if q = a then R k else if q = k then R a else R q)
  split
  · rfl
  · split <;> rfl
theorem row_snoc {sv : Option Nat} {T : TypeId} {cap n i : Nat} {R : Nat → Nat → Rat} {f : Nat → Rat} (h : f = R i) : Own.le (sliO sv T .one cap (i + 1) (fun q => if q < i then ratF n (R q) else ratF n f)) (sliO sv T .one cap (i + 1) (fun q => ratF n (R q))) := sliO_eq fun q hq => by
  subst h
  by_cases c : q < i
  · rw [if_pos c]
  · rw [if_neg c, show q = i by omega]
attribute [local irreducible] Tor.J Tor.PJ Tor.StepO Tor.one Tor.slT Tor.ptrT Tor.aggT Tor.tupT Tor.exT Tor.andT Tor.eP Tor.boxO Tor.sliO Tor.slV Tor.VT.le Tor.Ret Tor.anyT Tor.xO
attribute [local irreducible] bigT ratT
set_option maxHeartbeats 4000000 in
theorem r8Det_ok (n : Nat) (F : Nat → Nat → Int) (α : Nat) (hn : n ≤ 1024) (hα : 1 ≤ α) (hF : ∀ i j, lz α (F i j)) (hz : rdB α n ≤ 1099511627700) : Ok Tryz.prog 18 [matF n n F] (tupT [bigT (Lin.detZ n F), one (.int .i64 0)]) := by
  have hone := rqNumber_ok 1 (by decide) (by decide)
  unfold matF
  refine Ok.enter Tryz.func18 rfl Tryz.ntmps18 rfl (fun w O => ?_)
  refine J_seq (J_reg ?_)
  refine a_boxS rfl rfl (ltN rfl) (fun b1 => ?_)
  refine a_alloc (T := 43) rfl (ltN rfl) (fun b2 => ?_)
  refine st (s_assign rfl) rfl (Run.nil (pj_then (J_seq (J_seq (J_reg (st (s_fieldAddr rfl) rfl (st (s_loadB 1 rfl rfl rfl) rfl (st (s_fieldAddr rfl) rfl (st (s_loadB 1 rfl rfl rfl) rfl ?_)))))))))
  refine st (sF (by omega) (s_ne rfl rfl)) rfl (Run.nil (pj_then (J_cond0 rfl (J_skip (pj_then (J_seq (J_reg (stSO (n := 0) rfl rfl rfl rfl rfl ?_))))))))
  refine PartsK.nil (fun bl => ?_)
  refine st (s_callk (hone ) rfl ⟨VT.le_refl _, trivial⟩) rfl ?_
  refine a_allocS (T := 63) rfl rfl rfl (fun b5 => ?_)
  refine st (s_assign rfl) rfl (a_storeV 0 rfl rfl rfl rfl (Run.nil (pj_then (J_seq (J_seq (J_reg (st (s_assign rfl) rfl (Run.nil (pj_then ?_)))))))))
  refine J_block (J_sub (Γ' := [(1, _), (2, _), (3, _), (4, _), (5, _), (6, _)]) (SubG.cons rfl (VT.le_refl _) (SubG.cons rfl (VT.le_refl _) (SubG.cons rfl (VT.le_refl _) (SubG.cons rfl (VT.le_refl _) (SubG.cons rfl (VT.le_refl _) (SubG.cons rfl (VT.le_refl _) (SubG.nil))))))) (SubM.refl _) ?_)
  refine J_loopA (σ := Nat × Option Nat × Nat) (Γk := [(1, _), (2, _), (3, _), (5, _)]) (SubG.cons rfl (VT.le_refl _) (SubG.cons rfl (VT.le_refl _) (SubG.cons rfl (VT.le_refl _) (SubG.cons rfl (VT.le_refl _) (SubG.nil))))) (fun s => [(6, one (.int .i64 (s.1 : Nat))), (4, one (slV s.2.1 s.1 s.2.2))]) (fun s M0 => (M0.set 1 (sliO s.2.1 36 .one s.2.2 s.1 (fun q => ratF n (fun j => (F q j : Rat)))))) (fun s => s.1 ≤ n) (fun s => n - s.1) ((0, some bl, 0)) (Nat.zero_le _) (by repeat (first | exact SubG.refl _ | exact SubG.nil | refine SubG.cons rfl (VT.le_refl _) ?_ | (refine SubG.cons rfl (one_le ?_) ?_; (congr 1; first | omega | (simp; omega) | simp)))) (.keep (Own.le_refl _) (.keep (sliO_eq (fun q hq => absurd hq (Nat.not_lt_zero _))) (.keep (Own.le_refl _) (.keep (Own.le_refl _) (.nil))))) (fun s hs => ?_)
  refine J_norm (Γ' := [(6, _), (4, _), (1, _), (2, _), (3, _), (5, _)]) (M' := [_, _, _, _]) rfl rfl ?_
  obtain ⟨i, sv, cap⟩ := s
  dsimp only at hs ⊢
  by_cases hi : i < n
  · have hrat := r8Rationals_ok n (F i) (by omega)
    refine J_seq (J_seq (J_reg (st (s_move rfl) rfl (st (s_fieldAddr rfl) rfl (st (s_loadB 3 rfl rfl rfl) rfl (st (sT (by omega) (s_lt rfl rfl)) rfl (Run.nil (pj_then (J_cond1 rfl ?_)))))))))
    refine J_skip (pj_then (J_seq (J_block (J_reg (st (s_move rfl) rfl (st (s_fieldAddr rfl) rfl (st (s_loadB 3 rfl rfl rfl) rfl (st (s_move rfl) rfl (st (s_indexIN rfl rfl (by omega)) rfl ?_)))))))))
    refine st (s_load rfl) rfl ?_
    refine st (s_callk (hrat ) rfl ⟨VT.le_refl _, trivial⟩) rfl ?_
    refine stS1 rfl rfl rfl rfl ?_
    (refine a_append 1 rfl rfl rfl (leN rfl) ?_ ?_ rfl (ltN rfl) (fun sv32 cap32 => ?_); omega; omega)
    refine st (s_assign rfl) rfl (Run.nil (pn_block (pj_then (J_reg (st (s_move rfl) rfl (st (s_addN _ 1 rfl rfl (by omega)) rfl (st (s_assign rfl) rfl (Run.nil ?_))))))))
    refine pj_roundM ((i + 1, sv32, cap32)) (hi) (by omega) (by repeat (first | exact SubG.refl _ | exact SubG.nil | refine SubG.cons rfl (VT.le_refl _) ?_ | (refine SubG.cons rfl (one_le ?_) ?_; (congr 1; first | omega | (simp; omega) | simp)))) (.keep (Own.le_refl _) (.keep (row_snoc (R := fun q j => (F q j : Rat)) rfl) (.keep (Own.le_refl _) (.keep (Own.le_refl _) (.nil)))))
  · have he : i = n := by omega
    subst he
    refine J_seq (J_seq (J_reg (st (s_move rfl) rfl (st (s_fieldAddr rfl) rfl (st (s_loadB 3 rfl rfl rfl) rfl (st (sF (by omega) (s_lt rfl rfl)) rfl (Run.nil (pj_then (J_cond0 rfl ?_)))))))))
    refine J_exit (px_then (px_then (px_block (pj_then (J_seq (J_seq (J_reg (st (s_assign rfl) rfl (Run.nil ?_)))))))))
    refine pj_then (J_block (J_sub (Γ' := [(2, _), (3, _), (4, _), (5, _), (7, _)]) (SubG.cons rfl (VT.le_refl _) (SubG.cons rfl (VT.le_refl _) (SubG.cons rfl (VT.le_refl _) (SubG.cons rfl (VT.le_refl _) (SubG.cons rfl (VT.le_refl _) (SubG.nil)))))) (SubM.refl _) ?_))
    refine J_loopA (σ := Nat × (Nat → Nat → Rat) × Rat) (Γk := [(2, _), (4, _), (5, _)]) (SubG.cons rfl (VT.le_refl _) (SubG.cons rfl (VT.le_refl _) (SubG.cons rfl (VT.le_refl _) (SubG.nil)))) (fun s => [(7, one (.int .i64 (s.1 : Nat)))]) (fun s M0 => ((M0.set 1 (sliO sv 36 .one cap i (fun q => ratF i (s.2.1 q)))).set 0 (boxO b5 63 4 [(0, .agg 4, ratT s.2.2)]))) (fun s => s.1 ≤ i ∧ RdI α i s.1 F s.2.1 s.2.2) (fun s => i - s.1) ((0, fun q j => (F q j : Rat), ((1 : Int) : Rat))) (⟨Nat.zero_le _, Lin.DetI.start i F, fun a b => qz_int hα (hF a b), qz_int hα (lz_one hα)⟩) (by repeat (first | exact SubG.refl _ | exact SubG.nil | refine SubG.cons rfl (VT.le_refl _) ?_ | (refine SubG.cons rfl (one_le ?_) ?_; (congr 1; first | omega | (simp; omega) | simp)))) (.keep (Own.le_refl _) (.keep (Own.le_refl _) (.keep (Own.le_refl _) (.keep (Own.le_refl _) (.nil))))) (fun s hs => ?_)
    refine J_norm (Γ' := [(7, _), (2, _), (4, _), (5, _)]) (M' := [_, _, _, _]) rfl rfl ?_
    obtain ⟨k, R, o⟩ := s
    obtain ⟨hk, hI⟩ := hs
    dsimp only at hk hI ⊢
    refine J_factM (i := 1) (F := sv = none → i = 0) rfl (fun g h hp he => sliO_none hp he) (fun hsv => ?_)
    by_cases hki : k < i
    · obtain ⟨bs, rfl⟩ := sv_some hsv (by omega)
      have hz2 : rdB α (k + 1) ≤ 1099511627700 := Nat.le_trans (rdB_mono (by omega)) hz
      have hz3 : rdB α (k + 1) = 4 * rdB α k + 1 := rfl
      refine J_seq (J_seq (J_reg (st (s_move rfl) rfl (st (s_move rfl) rfl (st (s_lenO rfl) rfl (st (sT (by omega) (s_lt rfl rfl)) rfl (Run.nil (pj_then (J_cond1 rfl ?_)))))))))
      refine J_skip (pj_then (J_seq (J_block (J_seq (J_reg (st (s_move rfl) rfl (st (s_assign rfl) rfl (Run.nil (pj_then ?_)))))))))
      refine J_seq (J_block (J_sub (Γ' := [(2, _), (4, _), (5, _), (7, _), (8, _)]) (SubG.cons rfl (VT.le_refl _) (SubG.cons rfl (VT.le_refl _) (SubG.cons rfl (VT.le_refl _) (SubG.cons rfl (VT.le_refl _) (SubG.cons rfl (VT.le_refl _) (SubG.nil)))))) (SubM.refl _) ?_))
      refine J_loopA (σ := Nat) (Γk := [(2, _), (4, _), (5, _), (7, _)]) (SubG.cons rfl (VT.le_refl _) (SubG.cons rfl (VT.le_refl _) (SubG.cons rfl (VT.le_refl _) (SubG.cons rfl (VT.le_refl _) (SubG.nil))))) (fun a => [(8, one (.int .i64 (a : Nat)))]) (fun a M0 => M0) (fun a => k ≤ a ∧ a ≤ i ∧ ∀ q, k ≤ q → q < a → R q k = 0) (fun a => i - a) (k) (⟨Nat.le_refl _, hk, fun q h1 h2 => absurd h2 (by omega)⟩) (by repeat (first | exact SubG.refl _ | exact SubG.nil | refine SubG.cons rfl (VT.le_refl _) ?_ | (refine SubG.cons rfl (one_le ?_) ?_; (congr 1; first | omega | (simp; omega) | simp)))) (.keep (Own.le_refl _) (.keep (Own.le_refl _) (.keep (Own.le_refl _) (.keep (Own.le_refl _) (.nil))))) (fun a ha => ?_)
      refine J_norm (Γ' := [(8, _), (2, _), (4, _), (5, _), (7, _)]) (M' := [_, _, _, _]) rfl rfl ?_
      obtain ⟨ha1, ha2, ha3⟩ := ha
      unfold ratF
      by_cases hai : a < i
      · have hsg := sgnI_zero (R a k).num
        by_cases h0 : R a k = 0
        · have hs0 := hsg.2 (Rat.num_eq_zero.2 h0)
          refine J_seq (J_seq (J_reg (st (s_move rfl) rfl (st (s_move rfl) rfl (st (s_lenO rfl) rfl (st (sT (by omega) (s_lt rfl rfl)) rfl (st (s_move rfl) rfl (sg1 rfl rfl (s_move rfl) rfl (sg1 rfl rfl (s_move rfl) rfl ?_)))))))))
          refine sg1 rfl rfl (s_indexON rfl rfl (by omega)) rfl (sg1 rfl rfl (s_loadE 1 rfl rfl (by omega)) rfl (sg1 rfl rfl (s_move rfl) rfl (sg1 rfl rfl (s_indexIN rfl rfl (by omega)) rfl (sg1 rfl rfl (s_load rfl) rfl ?_))))
          refine sg1 rfl rfl (s_callk (rqSign_ok _) rfl ⟨VT.le_refl _, trivial⟩) rfl ?_
          refine sg1 rfl rfl (sT (by assumption) (s_eq rfl rfl)) rfl (st (s_pickT rfl rfl) rfl (Run.nil (pj_then (J_cond1 rfl (J_skip (pj_then (J_block (J_reg (st (s_move rfl) rfl ?_)))))))))
          refine st (s_addN _ 1 rfl rfl (by omega)) rfl (st (s_assign rfl) rfl (Run.nil (pn_block ?_)))
          refine pj_roundM (a + 1) (⟨by omega, hai, fun q h1 h2 => by by_cases h3 : q = a; exact h3 ▸ h0; exact ha3 q h1 (by omega)⟩) (by omega) (by repeat (first | exact SubG.refl _ | exact SubG.nil | refine SubG.cons rfl (VT.le_refl _) ?_ | (refine SubG.cons rfl (one_le ?_) ?_; (congr 1; first | omega | (simp; omega) | simp)))) (.keep (Own.le_refl _) (.keep (Own.le_refl _) (.keep (Own.le_refl _) (.keep (Own.le_refl _) (.nil)))))
        · have hs0 : sgnI (R a k).num ≠ 0 := fun h => h0 (Rat.num_eq_zero.1 (hsg.1 h))
          have hnx := hI.next hα hki ha1 hai h0
          by_cases hak : a = k
          · have hnx' : RdI α i (k + 1) F (clrR k i R) (o * R k k) := by rw [hak, swp_self, if_pos rfl] at hnx; exact hnx
            have hkk : R k k ≠ 0 := by rw [← hak]; rw [hak] at h0 ⊢; exact h0
            have hq1 := hI.q
            have hq2 := hI.o
            have hmul := rqMul_ok o (R k k) (rdB α k) (rdB α k) hq2 (hq1 k k) (by omega)
            refine J_seq (J_seq (J_reg (st (s_move rfl) rfl (st (s_move rfl) rfl (st (s_lenO rfl) rfl (st (sT (by omega) (s_lt rfl rfl)) rfl (st (s_move rfl) rfl (sg1 rfl rfl (s_move rfl) rfl (sg1 rfl rfl (s_move rfl) rfl ?_)))))))))
            refine sg1 rfl rfl (s_indexON rfl rfl (by omega)) rfl (sg1 rfl rfl (s_loadE 1 rfl rfl (by omega)) rfl (sg1 rfl rfl (s_move rfl) rfl (sg1 rfl rfl (s_indexIN rfl rfl (by omega)) rfl (sg1 rfl rfl (s_load rfl) rfl ?_))))
            refine sg1 rfl rfl (s_callk (rqSign_ok _) rfl ⟨VT.le_refl _, trivial⟩) rfl ?_
            refine sg1 rfl rfl (sF (by assumption) (s_eq rfl rfl)) rfl (st (s_pickT rfl rfl) rfl (Run.nil (pj_then (J_cond0 rfl (J_exit (px_then (px_then (px_block (pj_then ?_)))))))))
            refine J_seq (J_seq (J_reg (st (s_move rfl) rfl (st (s_move rfl) rfl (st (s_lenO rfl) rfl (st (sF (by omega) (s_eq rfl rfl)) rfl (Run.nil (pj_then (J_cond0 rfl ?_)))))))))
            refine J_skip (pj_then (J_seq (J_seq (J_reg (st (s_move rfl) rfl (st (s_move rfl) rfl (st (sF (by omega) (s_ne rfl rfl)) rfl (Run.nil (pj_then ?_)))))))))
            refine J_cond0 rfl (J_skip (pj_then (J_seq (J_regd 9 mixed (by kernel_rfl) (by decide) (st (s_loadB 0 rfl rfl rfl) rfl (st (s_move rfl) rfl (st (s_move rfl) rfl (st (s_indexON rfl rfl (by omega)) rfl (st (s_loadE 1 rfl rfl (by omega)) rfl ?_)))))))))
            refine st (s_move rfl) rfl (st (s_indexIN rfl rfl (by omega)) rfl (st (s_load rfl) rfl ?_))
            refine st (s_callk (hmul ) rfl ⟨VT.le_refl _, VT.le_refl _, trivial⟩) rfl ?_
            refine Run.nil (a_storeB 0 rfl rfl rfl rfl rfl (leN rfl) rfl (Run.nil (pj_then (J_seq (J_reg (st (s_move rfl) rfl (st (s_addN _ 1 rfl rfl (by omega)) rfl (st (s_assign rfl) rfl (Run.nil ?_)))))))))
            refine pj_then (J_block (J_sub (Γ' := [(2, _), (4, _), (5, _), (7, _), (9, _)]) (SubG.cons rfl (VT.le_refl _) (SubG.cons rfl (VT.le_refl _) (SubG.cons rfl (VT.le_refl _) (SubG.cons rfl (VT.le_refl _) (SubG.cons rfl (VT.le_refl _) (SubG.nil)))))) (SubM.refl _) ?_))
            refine J_loopA (σ := Nat) (Γk := [(2, _), (4, _), (5, _), (7, _)]) (SubG.cons rfl (VT.le_refl _) (SubG.cons rfl (VT.le_refl _) (SubG.cons rfl (VT.le_refl _) (SubG.cons rfl (VT.le_refl _) (SubG.nil))))) (fun j => [(9, one (.int .i64 (j : Nat)))]) (fun j M0 => (M0.set 1 (sliO (some bs) 36 .one cap i (fun q => ratF i (clrR k j R q))))) (fun j => k + 1 ≤ j ∧ j ≤ i) (fun j => i - j) (k + 1) (⟨Nat.le_refl _, hki⟩) (by repeat (first | exact SubG.refl _ | exact SubG.nil | refine SubG.cons rfl (VT.le_refl _) ?_ | (refine SubG.cons rfl (one_le ?_) ?_; (congr 1; first | omega | (simp; omega) | simp)))) (.keep (Own.le_refl _) (.keep (by (rw [clr_start]; exact Own.le_refl _)) (.keep (Own.le_refl _) (.keep (Own.le_refl _) (.nil))))) (fun j hj => ?_)
            refine J_norm (Γ' := [(9, _), (2, _), (4, _), (5, _), (7, _)]) (M' := [_, _, _, _]) rfl rfl ?_
            obtain ⟨hj1, hj2⟩ := hj
            by_cases hji : j < i
            · have hov := rqOver_ok (R j k) (R k k) (rdB α k) (rdB α k) (hq1 j k) (hq1 k k) (by omega) hkk
              have hl := r8less_ok i i (R j) (R k) (R j k / R k k) (rdB α k) (rdB α k) (rdB α k + rdB α k) (by omega) (Nat.le_refl _) (fun q _ => hq1 j q) (fun q _ => hq1 k q) (qz_over (hq1 j k) (hq1 k k) hkk) (by omega)
              unfold ratF at hl ⊢
              refine J_seq (J_seq (J_reg (st (s_move rfl) rfl (st (s_move rfl) rfl (st (s_lenO rfl) rfl (st (sT (by omega) (s_lt rfl rfl)) rfl (Run.nil (pj_then (J_cond1 rfl ?_)))))))))
              refine J_skip (pj_then (J_seq (J_block (J_regd 26 mixed (by kernel_rfl) (by decide) (st (s_move rfl) rfl (st (s_move rfl) rfl (st (s_move rfl) rfl (st (s_move rfl) rfl (st (s_indexON rfl rfl (by omega)) rfl ?_)))))))))
              refine st (s_loadE 1 rfl rfl (by omega)) rfl (st (s_move rfl) rfl (st (s_move rfl) rfl (st (s_indexON rfl rfl (by omega)) rfl (st (s_loadE 1 rfl rfl (by omega)) rfl (st (s_move rfl) rfl (st (s_move rfl) rfl (st (s_indexON rfl rfl (by omega)) rfl (st (s_loadE 1 rfl rfl (by omega)) rfl (st (s_move rfl) rfl ?_)))))))))
              refine st (s_indexIN rfl rfl (by omega)) rfl (st (s_load rfl) rfl (st (s_move rfl) rfl (st (s_move rfl) rfl (st (s_indexON rfl rfl (by omega)) rfl (st (s_loadE 1 rfl rfl (by omega)) rfl (st (s_move rfl) rfl (st (s_indexIN rfl rfl (by omega)) rfl (st (s_load rfl) rfl ?_))))))))
              refine st (s_callk (hov ) rfl ⟨(by (simp only [clr_at, clr_k]; exact VT.le_refl _)), (by (simp only [clr_at, clr_k]; exact VT.le_refl _)), trivial⟩) rfl ?_
              refine st (s_callk (hl ) rfl ⟨(by (simp only [clr_at, clr_k]; exact VT.le_refl _)), (by (simp only [clr_at, clr_k]; exact VT.le_refl _)), VT.le_refl _, trivial⟩) rfl ?_
              refine Run.nil (st (s_indexON rfl rfl (by omega)) rfl ?_)
              (refine a_storeE 1 rfl rfl rfl ?_ rfl ?_; omega)
              refine Run.nil (pn_block (pj_then (J_reg (st (s_move rfl) rfl (st (s_addN _ 1 rfl rfl (by omega)) rfl (st (s_assign rfl) rfl (Run.nil ?_)))))))
              refine pj_roundM (j + 1) (⟨by omega, hji⟩) (by omega) (by repeat (first | exact SubG.refl _ | exact SubG.nil | refine SubG.cons rfl (VT.le_refl _) ?_ | (refine SubG.cons rfl (one_le ?_) ?_; (congr 1; first | omega | (simp; omega) | simp)))) (.keep (Own.le_refl _) (.keep (clr_upd (by omega)) (.keep (Own.le_refl _) (.keep (Own.le_refl _) (.nil)))))
            · have hjn : j = i := by omega
              rw [hjn]
              refine J_seq (J_seq (J_reg (st (s_move rfl) rfl (st (s_move rfl) rfl (st (s_lenO rfl) rfl (st (sF (by omega) (s_lt rfl rfl)) rfl (Run.nil (pj_then (J_cond0 rfl ?_)))))))))
              refine J_exit (px_then (px_then (px_block (pn_block (pj_then (J_reg (st (s_move rfl) rfl (st (s_addN _ 1 rfl rfl (by omega)) rfl (st (s_assign rfl) rfl ?_)))))))))
              refine Run.nil ?_
              refine pj_roundM ((k + 1, clrR k i R, o * R k k)) (⟨hki, hnx'⟩) (by omega) (by repeat (first | exact SubG.refl _ | exact SubG.nil | refine SubG.cons rfl (VT.le_refl _) ?_ | (refine SubG.cons rfl (one_le ?_) ?_; (congr 1; first | omega | (simp; omega) | simp)))) (.keep (Own.le_refl _) (.keep (Own.le_refl _) (.keep (Own.le_refl _) (.keep (Own.le_refl _) (.nil)))))
          · refine J_seq (J_seq (J_reg (st (s_move rfl) rfl (st (s_move rfl) rfl (st (s_lenO rfl) rfl (st (sT (by omega) (s_lt rfl rfl)) rfl (st (s_move rfl) rfl (sg1 rfl rfl (s_move rfl) rfl (sg1 rfl rfl (s_move rfl) rfl ?_)))))))))
            refine sg1 rfl rfl (s_indexON rfl rfl (by omega)) rfl (sg1 rfl rfl (s_loadE 1 rfl rfl (by omega)) rfl (sg1 rfl rfl (s_move rfl) rfl (sg1 rfl rfl (s_indexIN rfl rfl (by omega)) rfl (sg1 rfl rfl (s_load rfl) rfl ?_))))
            refine sg1 rfl rfl (s_callk (rqSign_ok _) rfl ⟨VT.le_refl _, trivial⟩) rfl ?_
            refine sg1 rfl rfl (sF (by assumption) (s_eq rfl rfl)) rfl (st (s_pickT rfl rfl) rfl (Run.nil (pj_then (J_cond0 rfl (J_exit (px_then (px_then (px_block (pj_then ?_)))))))))
            refine J_seq (J_seq (J_reg (st (s_move rfl) rfl (st (s_move rfl) rfl (st (s_lenO rfl) rfl (st (sF (by omega) (s_eq rfl rfl)) rfl (Run.nil (pj_then (J_cond0 rfl ?_)))))))))
            refine J_skip (pj_then (J_seq (J_seq (J_reg (st (s_move rfl) rfl (st (s_move rfl) rfl (st (sT (by omega) (s_ne rfl rfl)) rfl (Run.nil (pj_then ?_)))))))))
            refine J_cond1 rfl (J_seq ?_)
            apply J_regG (Γ1 := [(2, _), (4, _), (5, _), (7, _)]) (M1 := [_, _, _, _]) 12 7 [2, 3] [] mixed (by kernel_rfl) (by decide)
            · refine st (s_move rfl) rfl (st (s_move rfl) rfl (st (s_move rfl) rfl (st (s_move rfl) rfl (st (s_move rfl) rfl (st (s_move rfl) rfl (st (s_indexON rfl rfl (by omega)) rfl (st (s_loadE 1 rfl rfl (by omega)) rfl (st (s_move rfl) rfl (st (s_move rfl) rfl ?_)))))))))
              refine st (s_indexON rfl rfl (by omega)) rfl (st (s_loadE 1 rfl rfl (by omega)) rfl (Run.nil ?_))
              refine entry2 (Γa := [(2, _), (4, _), (5, _), (7, _), (8, _), (65, _), (66, _), (72, _), (76, _)]) (Γb := [(2, _), (4, _), (5, _), (7, _), (8, _), (65, _), (66, _), (72, _), (76, _), (68, _)]) (Γc := [(2, _), (4, _), (5, _), (7, _), (8, _), (65, _), (66, _), (72, _), (76, _), (67, _)]) (Γd := [(2, _), (4, _), (5, _), (7, _), (8, _), (65, _), (66, _), (72, _), (76, _), (67, _), (68, _)]) (rem := [12, 13, 14, 15]) rfl (by repeat (first | exact SubG.nil | refine SubG.cons rfl (VT.le_refl _) ?_)) rfl (by repeat (first | exact SubG.nil | refine SubG.cons rfl (VT.le_refl _) ?_)) rfl (by repeat (first | exact SubG.nil | refine SubG.cons rfl (VT.le_refl _) ?_)) rfl (by repeat (first | exact SubG.nil | refine SubG.cons rfl (VT.le_refl _) ?_)) rfl ?_ ?_ ?_ ?_
              · refine game_three (r1 := [3, 12, 13, 14, 15]) (r2 := [2, 12, 13, 14, 15]) (r3 := [2, 3, 13, 14, 15]) (i := 2) (j := 3) (k := 12) (by kernel_rfl) rfl rfl rfl rfl rfl rfl ?_ ?_ ?_ DeadOk.nil
                refine st (s_move rfl) rfl (Run.nil ?_)
                refine ⟨rfl, ?_⟩
                refine game_two (rem' := [12, 13, 14, 15]) (rem'' := [3, 13, 14, 15]) (i := 3) (j := 12) (by kernel_rfl) rfl rfl rfl rfl ?_ ?_ DeadOk.nil
                refine st (s_move rfl) rfl (Run.nil ?_)
                refine ⟨rfl, ?_⟩
                refine game_one (rem' := [13, 14, 15]) (i := 12) (by kernel_rfl) rfl rfl ?_ DeadOk.nil
                refine st (s_indexON rfl rfl (by omega)) rfl (Run.nil ?_)
                refine ⟨rfl, ?_⟩
                refine game_one (rem' := [14, 15]) (i := 13) (by kernel_rfl) rfl rfl ?_ DeadOk.nil
                (refine a_storeE 1 rfl rfl rfl ?_ rfl ?_; omega)
                refine Run.nil ?_
                refine ⟨rfl, ?_⟩
                refine game_one (rem' := [15]) (i := 14) (by kernel_rfl) rfl rfl ?_ DeadOk.nil
                refine st (s_indexON rfl rfl (by omega)) rfl (Run.nil ?_)
                refine ⟨rfl, ?_⟩
                refine game_one (rem' := []) (i := 15) (by kernel_rfl) rfl rfl ?_ DeadOk.nil
                (refine a_storeE 1 rfl rfl rfl ?_ rfl ?_; omega)
                refine Run.nil ?_
                refine ⟨rfl, ?_⟩
                refine game_end (by repeat (first | exact SubG.nil | refine SubG.cons rfl (VT.le_refl _) ?_)) (SubM.refl _) DeadOk.nil
                refine st (s_indexON rfl rfl (by omega)) rfl (Run.nil ?_)
                refine ⟨rfl, ?_⟩
                refine game_two (rem' := [13, 14, 15]) (rem'' := [3, 14, 15]) (i := 3) (j := 13) (by kernel_rfl) rfl rfl rfl rfl ?_ ?_ DeadOk.nil
                refine st (s_move rfl) rfl (Run.nil ?_)
                refine ⟨rfl, ?_⟩
                refine game_one (rem' := [14, 15]) (i := 13) (by kernel_rfl) rfl rfl ?_ DeadOk.nil
                (refine a_storeE 1 rfl rfl rfl ?_ rfl ?_; omega)
                refine Run.nil ?_
                refine ⟨rfl, ?_⟩
                refine game_one (rem' := [15]) (i := 14) (by kernel_rfl) rfl rfl ?_ DeadOk.nil
                refine st (s_indexON rfl rfl (by omega)) rfl (Run.nil ?_)
                refine ⟨rfl, ?_⟩
                refine game_one (rem' := []) (i := 15) (by kernel_rfl) rfl rfl ?_ DeadOk.nil
                (refine a_storeE 1 rfl rfl rfl ?_ rfl ?_; omega)
                refine Run.nil ?_
                refine ⟨rfl, ?_⟩
                refine game_end (by repeat (first | exact SubG.nil | refine SubG.cons rfl (VT.le_refl _) ?_)) (SubM.refl _) DeadOk.nil
                (refine a_storeE 1 rfl rfl rfl ?_ rfl ?_; omega)
                refine Run.nil ?_
                refine ⟨rfl, ?_⟩
                refine game_one (rem' := [14, 15]) (i := 3) (by kernel_rfl) rfl rfl ?_ DeadOk.nil
                refine st (s_move rfl) rfl (Run.nil ?_)
                refine ⟨rfl, ?_⟩
                refine game_one (rem' := [15]) (i := 14) (by kernel_rfl) rfl rfl ?_ DeadOk.nil
                refine st (s_indexON rfl rfl (by omega)) rfl (Run.nil ?_)
                refine ⟨rfl, ?_⟩
                refine game_one (rem' := []) (i := 15) (by kernel_rfl) rfl rfl ?_ DeadOk.nil
                (refine a_storeE 1 rfl rfl rfl ?_ rfl ?_; omega)
                refine Run.nil ?_
                refine ⟨rfl, ?_⟩
                refine game_end (by repeat (first | exact SubG.nil | refine SubG.cons rfl (VT.le_refl _) ?_)) (SubM.refl _) DeadOk.nil
                refine st (s_move rfl) rfl (Run.nil ?_)
                refine ⟨rfl, ?_⟩
                refine game_two (rem' := [12, 13, 14, 15]) (rem'' := [2, 13, 14, 15]) (i := 2) (j := 12) (by kernel_rfl) rfl rfl rfl rfl ?_ ?_ DeadOk.nil
                refine st (s_move rfl) rfl (Run.nil ?_)
                refine ⟨rfl, ?_⟩
                refine game_one (rem' := [13, 14, 15]) (i := 12) (by kernel_rfl) rfl rfl ?_ DeadOk.nil
                refine st (s_indexON rfl rfl (by omega)) rfl (Run.nil ?_)
                refine ⟨rfl, ?_⟩
                refine game_one (rem' := [14, 15]) (i := 13) (by kernel_rfl) rfl rfl ?_ DeadOk.nil
                (refine a_storeE 1 rfl rfl rfl ?_ rfl ?_; omega)
                refine Run.nil ?_
                refine ⟨rfl, ?_⟩
                refine game_one (rem' := [15]) (i := 14) (by kernel_rfl) rfl rfl ?_ DeadOk.nil
                refine st (s_indexON rfl rfl (by omega)) rfl (Run.nil ?_)
                refine ⟨rfl, ?_⟩
                refine game_one (rem' := []) (i := 15) (by kernel_rfl) rfl rfl ?_ DeadOk.nil
                (refine a_storeE 1 rfl rfl rfl ?_ rfl ?_; omega)
                refine Run.nil ?_
                refine ⟨rfl, ?_⟩
                refine game_end (by repeat (first | exact SubG.nil | refine SubG.cons rfl (VT.le_refl _) ?_)) (SubM.refl _) DeadOk.nil
                refine st (s_indexON rfl rfl (by omega)) rfl (Run.nil ?_)
                refine ⟨rfl, ?_⟩
                refine game_two (rem' := [13, 14, 15]) (rem'' := [2, 14, 15]) (i := 2) (j := 13) (by kernel_rfl) rfl rfl rfl rfl ?_ ?_ DeadOk.nil
                refine st (s_move rfl) rfl (Run.nil ?_)
                refine ⟨rfl, ?_⟩
                refine game_one (rem' := [14, 15]) (i := 13) (by kernel_rfl) rfl rfl ?_ DeadOk.nil
                (refine a_storeE 1 rfl rfl rfl ?_ rfl ?_; omega)
                refine Run.nil ?_
                refine ⟨rfl, ?_⟩
                refine game_one (rem' := [15]) (i := 14) (by kernel_rfl) rfl rfl ?_ DeadOk.nil
                refine st (s_indexON rfl rfl (by omega)) rfl (Run.nil ?_)
                refine ⟨rfl, ?_⟩
                refine game_one (rem' := []) (i := 15) (by kernel_rfl) rfl rfl ?_ DeadOk.nil
                (refine a_storeE 1 rfl rfl rfl ?_ rfl ?_; omega)
                refine Run.nil ?_
                refine ⟨rfl, ?_⟩
                refine game_end (by repeat (first | exact SubG.nil | refine SubG.cons rfl (VT.le_refl _) ?_)) (SubM.refl _) DeadOk.nil
                (refine a_storeE 1 rfl rfl rfl ?_ rfl ?_; omega)
                refine Run.nil ?_
                refine ⟨rfl, ?_⟩
                refine game_one (rem' := [14, 15]) (i := 2) (by kernel_rfl) rfl rfl ?_ DeadOk.nil
                refine st (s_move rfl) rfl (Run.nil ?_)
                refine ⟨rfl, ?_⟩
                refine game_one (rem' := [15]) (i := 14) (by kernel_rfl) rfl rfl ?_ DeadOk.nil
                refine st (s_indexON rfl rfl (by omega)) rfl (Run.nil ?_)
                refine ⟨rfl, ?_⟩
                refine game_one (rem' := []) (i := 15) (by kernel_rfl) rfl rfl ?_ DeadOk.nil
                (refine a_storeE 1 rfl rfl rfl ?_ rfl ?_; omega)
                refine Run.nil ?_
                refine ⟨rfl, ?_⟩
                refine game_end (by repeat (first | exact SubG.nil | refine SubG.cons rfl (VT.le_refl _) ?_)) (SubM.refl _) DeadOk.nil
                refine st (s_indexON rfl rfl (by omega)) rfl (Run.nil ?_)
                refine ⟨rfl, ?_⟩
                refine game_three (r1 := [3, 13, 14, 15]) (r2 := [2, 13, 14, 15]) (r3 := [2, 3, 14, 15]) (i := 2) (j := 3) (k := 13) (by kernel_rfl) rfl rfl rfl rfl rfl rfl ?_ ?_ ?_ DeadOk.nil
                refine st (s_move rfl) rfl (Run.nil ?_)
                refine ⟨rfl, ?_⟩
                refine game_two (rem' := [13, 14, 15]) (rem'' := [3, 14, 15]) (i := 3) (j := 13) (by kernel_rfl) rfl rfl rfl rfl ?_ ?_ DeadOk.nil
                refine st (s_move rfl) rfl (Run.nil ?_)
                refine ⟨rfl, ?_⟩
                refine game_one (rem' := [14, 15]) (i := 13) (by kernel_rfl) rfl rfl ?_ DeadOk.nil
                (refine a_storeE 1 rfl rfl rfl ?_ rfl ?_; omega)
                refine Run.nil ?_
                refine ⟨rfl, ?_⟩
                refine game_one (rem' := [15]) (i := 14) (by kernel_rfl) rfl rfl ?_ DeadOk.nil
                refine st (s_indexON rfl rfl (by omega)) rfl (Run.nil ?_)
                refine ⟨rfl, ?_⟩
                refine game_one (rem' := []) (i := 15) (by kernel_rfl) rfl rfl ?_ DeadOk.nil
                (refine a_storeE 1 rfl rfl rfl ?_ rfl ?_; omega)
                refine Run.nil ?_
                refine ⟨rfl, ?_⟩
                refine game_end (by repeat (first | exact SubG.nil | refine SubG.cons rfl (VT.le_refl _) ?_)) (SubM.refl _) DeadOk.nil
                (refine a_storeE 1 rfl rfl rfl ?_ rfl ?_; omega)
                refine Run.nil ?_
                refine ⟨rfl, ?_⟩
                refine game_one (rem' := [14, 15]) (i := 3) (by kernel_rfl) rfl rfl ?_ DeadOk.nil
                refine st (s_move rfl) rfl (Run.nil ?_)
                refine ⟨rfl, ?_⟩
                refine game_one (rem' := [15]) (i := 14) (by kernel_rfl) rfl rfl ?_ DeadOk.nil
                refine st (s_indexON rfl rfl (by omega)) rfl (Run.nil ?_)
                refine ⟨rfl, ?_⟩
                refine game_one (rem' := []) (i := 15) (by kernel_rfl) rfl rfl ?_ DeadOk.nil
                (refine a_storeE 1 rfl rfl rfl ?_ rfl ?_; omega)
                refine Run.nil ?_
                refine ⟨rfl, ?_⟩
                refine game_end (by repeat (first | exact SubG.nil | refine SubG.cons rfl (VT.le_refl _) ?_)) (SubM.refl _) DeadOk.nil
                refine st (s_move rfl) rfl (Run.nil ?_)
                refine ⟨rfl, ?_⟩
                refine game_two (rem' := [13, 14, 15]) (rem'' := [2, 14, 15]) (i := 2) (j := 13) (by kernel_rfl) rfl rfl rfl rfl ?_ ?_ DeadOk.nil
                refine st (s_move rfl) rfl (Run.nil ?_)
                refine ⟨rfl, ?_⟩
                refine game_one (rem' := [14, 15]) (i := 13) (by kernel_rfl) rfl rfl ?_ DeadOk.nil
                (refine a_storeE 1 rfl rfl rfl ?_ rfl ?_; omega)
                refine Run.nil ?_
                refine ⟨rfl, ?_⟩
                refine game_one (rem' := [15]) (i := 14) (by kernel_rfl) rfl rfl ?_ DeadOk.nil
                refine st (s_indexON rfl rfl (by omega)) rfl (Run.nil ?_)
                refine ⟨rfl, ?_⟩
                refine game_one (rem' := []) (i := 15) (by kernel_rfl) rfl rfl ?_ DeadOk.nil
                (refine a_storeE 1 rfl rfl rfl ?_ rfl ?_; omega)
                refine Run.nil ?_
                refine ⟨rfl, ?_⟩
                refine game_end (by repeat (first | exact SubG.nil | refine SubG.cons rfl (VT.le_refl _) ?_)) (SubM.refl _) DeadOk.nil
                (refine a_storeE 1 rfl rfl rfl ?_ rfl ?_; omega)
                refine Run.nil ?_
                refine ⟨rfl, ?_⟩
                refine game_one (rem' := [14, 15]) (i := 2) (by kernel_rfl) rfl rfl ?_ DeadOk.nil
                refine st (s_move rfl) rfl (Run.nil ?_)
                refine ⟨rfl, ?_⟩
                refine game_one (rem' := [15]) (i := 14) (by kernel_rfl) rfl rfl ?_ DeadOk.nil
                refine st (s_indexON rfl rfl (by omega)) rfl (Run.nil ?_)
                refine ⟨rfl, ?_⟩
                refine game_one (rem' := []) (i := 15) (by kernel_rfl) rfl rfl ?_ DeadOk.nil
                (refine a_storeE 1 rfl rfl rfl ?_ rfl ?_; omega)
                refine Run.nil ?_
                refine ⟨rfl, ?_⟩
                refine game_end (by repeat (first | exact SubG.nil | refine SubG.cons rfl (VT.le_refl _) ?_)) (SubM.refl _) DeadOk.nil
                (refine a_storeE 1 rfl rfl rfl ?_ rfl ?_; omega)
                refine Run.nil ?_
                refine ⟨rfl, ?_⟩
                refine game_two (rem' := [3, 14, 15]) (rem'' := [2, 14, 15]) (i := 2) (j := 3) (by kernel_rfl) rfl rfl rfl rfl ?_ ?_ DeadOk.nil
                refine st (s_move rfl) rfl (Run.nil ?_)
                refine ⟨rfl, ?_⟩
                refine game_one (rem' := [14, 15]) (i := 3) (by kernel_rfl) rfl rfl ?_ DeadOk.nil
                refine st (s_move rfl) rfl (Run.nil ?_)
                refine ⟨rfl, ?_⟩
                refine game_one (rem' := [15]) (i := 14) (by kernel_rfl) rfl rfl ?_ DeadOk.nil
                refine st (s_indexON rfl rfl (by omega)) rfl (Run.nil ?_)
                refine ⟨rfl, ?_⟩
                refine game_one (rem' := []) (i := 15) (by kernel_rfl) rfl rfl ?_ DeadOk.nil
                (refine a_storeE 1 rfl rfl rfl ?_ rfl ?_; omega)
                refine Run.nil ?_
                refine ⟨rfl, ?_⟩
                refine game_end (by repeat (first | exact SubG.nil | refine SubG.cons rfl (VT.le_refl _) ?_)) (SubM.refl _) DeadOk.nil
                refine st (s_move rfl) rfl (Run.nil ?_)
                refine ⟨rfl, ?_⟩
                refine game_one (rem' := [14, 15]) (i := 2) (by kernel_rfl) rfl rfl ?_ DeadOk.nil
                refine st (s_move rfl) rfl (Run.nil ?_)
                refine ⟨rfl, ?_⟩
                refine game_one (rem' := [15]) (i := 14) (by kernel_rfl) rfl rfl ?_ DeadOk.nil
                refine st (s_indexON rfl rfl (by omega)) rfl (Run.nil ?_)
                refine ⟨rfl, ?_⟩
                refine game_one (rem' := []) (i := 15) (by kernel_rfl) rfl rfl ?_ DeadOk.nil
                (refine a_storeE 1 rfl rfl rfl ?_ rfl ?_; omega)
                refine Run.nil ?_
                refine ⟨rfl, ?_⟩
                refine game_end (by repeat (first | exact SubG.nil | refine SubG.cons rfl (VT.le_refl _) ?_)) (SubM.refl _) DeadOk.nil
              · refine game_two (rem' := [12, 13, 14, 15]) (rem'' := [2, 13, 14, 15]) (i := 2) (j := 12) (by kernel_rfl) rfl rfl rfl rfl ?_ ?_ DeadOk.nil
                refine st (s_move rfl) rfl (Run.nil ?_)
                refine ⟨rfl, ?_⟩
                refine game_one (rem' := [13, 14, 15]) (i := 12) (by kernel_rfl) rfl rfl ?_ DeadOk.nil
                refine st (s_indexON rfl rfl (by omega)) rfl (Run.nil ?_)
                refine ⟨rfl, ?_⟩
                refine game_one (rem' := [14, 15]) (i := 13) (by kernel_rfl) rfl rfl ?_ DeadOk.nil
                (refine a_storeE 1 rfl rfl rfl ?_ rfl ?_; omega)
                refine Run.nil ?_
                refine ⟨rfl, ?_⟩
                refine game_one (rem' := [15]) (i := 14) (by kernel_rfl) rfl rfl ?_ DeadOk.nil
                refine st (s_indexON rfl rfl (by omega)) rfl (Run.nil ?_)
                refine ⟨rfl, ?_⟩
                refine game_one (rem' := []) (i := 15) (by kernel_rfl) rfl rfl ?_ DeadOk.nil
                (refine a_storeE 1 rfl rfl rfl ?_ rfl ?_; omega)
                refine Run.nil ?_
                refine ⟨rfl, ?_⟩
                refine game_end (by repeat (first | exact SubG.nil | refine SubG.cons rfl (VT.le_refl _) ?_)) (SubM.refl _) DeadOk.nil
                refine st (s_indexON rfl rfl (by omega)) rfl (Run.nil ?_)
                refine ⟨rfl, ?_⟩
                refine game_two (rem' := [13, 14, 15]) (rem'' := [2, 14, 15]) (i := 2) (j := 13) (by kernel_rfl) rfl rfl rfl rfl ?_ ?_ DeadOk.nil
                refine st (s_move rfl) rfl (Run.nil ?_)
                refine ⟨rfl, ?_⟩
                refine game_one (rem' := [14, 15]) (i := 13) (by kernel_rfl) rfl rfl ?_ DeadOk.nil
                (refine a_storeE 1 rfl rfl rfl ?_ rfl ?_; omega)
                refine Run.nil ?_
                refine ⟨rfl, ?_⟩
                refine game_one (rem' := [15]) (i := 14) (by kernel_rfl) rfl rfl ?_ DeadOk.nil
                refine st (s_indexON rfl rfl (by omega)) rfl (Run.nil ?_)
                refine ⟨rfl, ?_⟩
                refine game_one (rem' := []) (i := 15) (by kernel_rfl) rfl rfl ?_ DeadOk.nil
                (refine a_storeE 1 rfl rfl rfl ?_ rfl ?_; omega)
                refine Run.nil ?_
                refine ⟨rfl, ?_⟩
                refine game_end (by repeat (first | exact SubG.nil | refine SubG.cons rfl (VT.le_refl _) ?_)) (SubM.refl _) DeadOk.nil
                (refine a_storeE 1 rfl rfl rfl ?_ rfl ?_; omega)
                refine Run.nil ?_
                refine ⟨rfl, ?_⟩
                refine game_one (rem' := [14, 15]) (i := 2) (by kernel_rfl) rfl rfl ?_ DeadOk.nil
                refine st (s_move rfl) rfl (Run.nil ?_)
                refine ⟨rfl, ?_⟩
                refine game_one (rem' := [15]) (i := 14) (by kernel_rfl) rfl rfl ?_ DeadOk.nil
                refine st (s_indexON rfl rfl (by omega)) rfl (Run.nil ?_)
                refine ⟨rfl, ?_⟩
                refine game_one (rem' := []) (i := 15) (by kernel_rfl) rfl rfl ?_ DeadOk.nil
                (refine a_storeE 1 rfl rfl rfl ?_ rfl ?_; omega)
                refine Run.nil ?_
                refine ⟨rfl, ?_⟩
                refine game_end (by repeat (first | exact SubG.nil | refine SubG.cons rfl (VT.le_refl _) ?_)) (SubM.refl _) DeadOk.nil
              · refine game_two (rem' := [12, 13, 14, 15]) (rem'' := [3, 13, 14, 15]) (i := 3) (j := 12) (by kernel_rfl) rfl rfl rfl rfl ?_ ?_ DeadOk.nil
                refine st (s_move rfl) rfl (Run.nil ?_)
                refine ⟨rfl, ?_⟩
                refine game_one (rem' := [13, 14, 15]) (i := 12) (by kernel_rfl) rfl rfl ?_ DeadOk.nil
                refine st (s_indexON rfl rfl (by omega)) rfl (Run.nil ?_)
                refine ⟨rfl, ?_⟩
                refine game_one (rem' := [14, 15]) (i := 13) (by kernel_rfl) rfl rfl ?_ DeadOk.nil
                (refine a_storeE 1 rfl rfl rfl ?_ rfl ?_; omega)
                refine Run.nil ?_
                refine ⟨rfl, ?_⟩
                refine game_one (rem' := [15]) (i := 14) (by kernel_rfl) rfl rfl ?_ DeadOk.nil
                refine st (s_indexON rfl rfl (by omega)) rfl (Run.nil ?_)
                refine ⟨rfl, ?_⟩
                refine game_one (rem' := []) (i := 15) (by kernel_rfl) rfl rfl ?_ DeadOk.nil
                (refine a_storeE 1 rfl rfl rfl ?_ rfl ?_; omega)
                refine Run.nil ?_
                refine ⟨rfl, ?_⟩
                refine game_end (by repeat (first | exact SubG.nil | refine SubG.cons rfl (VT.le_refl _) ?_)) (SubM.refl _) DeadOk.nil
                refine st (s_indexON rfl rfl (by omega)) rfl (Run.nil ?_)
                refine ⟨rfl, ?_⟩
                refine game_two (rem' := [13, 14, 15]) (rem'' := [3, 14, 15]) (i := 3) (j := 13) (by kernel_rfl) rfl rfl rfl rfl ?_ ?_ DeadOk.nil
                refine st (s_move rfl) rfl (Run.nil ?_)
                refine ⟨rfl, ?_⟩
                refine game_one (rem' := [14, 15]) (i := 13) (by kernel_rfl) rfl rfl ?_ DeadOk.nil
                (refine a_storeE 1 rfl rfl rfl ?_ rfl ?_; omega)
                refine Run.nil ?_
                refine ⟨rfl, ?_⟩
                refine game_one (rem' := [15]) (i := 14) (by kernel_rfl) rfl rfl ?_ DeadOk.nil
                refine st (s_indexON rfl rfl (by omega)) rfl (Run.nil ?_)
                refine ⟨rfl, ?_⟩
                refine game_one (rem' := []) (i := 15) (by kernel_rfl) rfl rfl ?_ DeadOk.nil
                (refine a_storeE 1 rfl rfl rfl ?_ rfl ?_; omega)
                refine Run.nil ?_
                refine ⟨rfl, ?_⟩
                refine game_end (by repeat (first | exact SubG.nil | refine SubG.cons rfl (VT.le_refl _) ?_)) (SubM.refl _) DeadOk.nil
                (refine a_storeE 1 rfl rfl rfl ?_ rfl ?_; omega)
                refine Run.nil ?_
                refine ⟨rfl, ?_⟩
                refine game_one (rem' := [14, 15]) (i := 3) (by kernel_rfl) rfl rfl ?_ DeadOk.nil
                refine st (s_move rfl) rfl (Run.nil ?_)
                refine ⟨rfl, ?_⟩
                refine game_one (rem' := [15]) (i := 14) (by kernel_rfl) rfl rfl ?_ DeadOk.nil
                refine st (s_indexON rfl rfl (by omega)) rfl (Run.nil ?_)
                refine ⟨rfl, ?_⟩
                refine game_one (rem' := []) (i := 15) (by kernel_rfl) rfl rfl ?_ DeadOk.nil
                (refine a_storeE 1 rfl rfl rfl ?_ rfl ?_; omega)
                refine Run.nil ?_
                refine ⟨rfl, ?_⟩
                refine game_end (by repeat (first | exact SubG.nil | refine SubG.cons rfl (VT.le_refl _) ?_)) (SubM.refl _) DeadOk.nil
              · refine game_one (rem' := [13, 14, 15]) (i := 12) (by kernel_rfl) rfl rfl ?_ DeadOk.nil
                refine st (s_indexON rfl rfl (by omega)) rfl (Run.nil ?_)
                refine ⟨rfl, ?_⟩
                refine game_one (rem' := [14, 15]) (i := 13) (by kernel_rfl) rfl rfl ?_ DeadOk.nil
                (refine a_storeE 1 rfl rfl rfl ?_ rfl ?_; omega)
                refine Run.nil ?_
                refine ⟨rfl, ?_⟩
                refine game_one (rem' := [15]) (i := 14) (by kernel_rfl) rfl rfl ?_ DeadOk.nil
                refine st (s_indexON rfl rfl (by omega)) rfl (Run.nil ?_)
                refine ⟨rfl, ?_⟩
                refine game_one (rem' := []) (i := 15) (by kernel_rfl) rfl rfl ?_ DeadOk.nil
                (refine a_storeE 1 rfl rfl rfl ?_ rfl ?_; omega)
                refine Run.nil ?_
                refine ⟨rfl, ?_⟩
                refine game_end (by repeat (first | exact SubG.nil | refine SubG.cons rfl (VT.le_refl _) ?_)) (SubM.refl _) DeadOk.nil
            · have hkk : swp a k R k k ≠ 0 := by rw [swp_at]; exact h0
              have hnx' : RdI α i (k + 1) F (clrR k i (swp a k R)) (-o * swp a k R k k) := by rw [if_neg hak] at hnx; rw [swp_at]; exact hnx
              have hq1 := qz_swp (i := a) (k := k) hI.q
              have hq2 := qz_neg hI.o
              have hneg := rqNeg_ok o (hI.o.1.small (by omega))
              refine PJ_sub (SubG.refl _) (.keep (Own.le_refl _) (.keep (rat_swp hak) (SubM.refl _))) ?_
              have hmul := rqMul_ok (-o) ((swp a k R) k k) (rdB α k) (rdB α k) hq2 (hq1 k k) (by omega)
              refine pj_then (J_reg (st (s_loadB 0 rfl rfl rfl) rfl ?_))
              refine st (s_callk (hneg ) rfl ⟨VT.le_refl _, trivial⟩) rfl ?_
              refine a_storeB 0 rfl rfl rfl rfl rfl (leN rfl) rfl (Run.nil (pj_then (J_seq (J_regd 9 mixed (by kernel_rfl) (by decide) (st (s_loadB 0 rfl rfl rfl) rfl (st (s_move rfl) rfl (st (s_move rfl) rfl (st (s_indexON rfl rfl (by omega)) rfl (st (s_loadE 1 rfl rfl (by omega)) rfl ?_)))))))))
              refine st (s_move rfl) rfl (st (s_indexIN rfl rfl (by omega)) rfl (st (s_load rfl) rfl ?_))
              refine st (s_callk (hmul ) rfl ⟨VT.le_refl _, VT.le_refl _, trivial⟩) rfl ?_
              refine Run.nil (a_storeB 0 rfl rfl rfl rfl rfl (leN rfl) rfl (Run.nil (pj_then (J_seq (J_reg (st (s_move rfl) rfl (st (s_addN _ 1 rfl rfl (by omega)) rfl (st (s_assign rfl) rfl (Run.nil ?_)))))))))
              refine pj_then (J_block (J_sub (Γ' := [(2, _), (4, _), (5, _), (7, _), (9, _)]) (SubG.cons rfl (VT.le_refl _) (SubG.cons rfl (VT.le_refl _) (SubG.cons rfl (VT.le_refl _) (SubG.cons rfl (VT.le_refl _) (SubG.cons rfl (VT.le_refl _) (SubG.nil)))))) (SubM.refl _) ?_))
              refine J_loopA (σ := Nat) (Γk := [(2, _), (4, _), (5, _), (7, _)]) (SubG.cons rfl (VT.le_refl _) (SubG.cons rfl (VT.le_refl _) (SubG.cons rfl (VT.le_refl _) (SubG.cons rfl (VT.le_refl _) (SubG.nil))))) (fun j => [(9, one (.int .i64 (j : Nat)))]) (fun j M0 => (M0.set 1 (sliO (some bs) 36 .one cap i (fun q => ratF i (clrR k j (swp a k R) q))))) (fun j => k + 1 ≤ j ∧ j ≤ i) (fun j => i - j) (k + 1) (⟨Nat.le_refl _, hki⟩) (by repeat (first | exact SubG.refl _ | exact SubG.nil | refine SubG.cons rfl (VT.le_refl _) ?_ | (refine SubG.cons rfl (one_le ?_) ?_; (congr 1; first | omega | (simp; omega) | simp)))) (.keep (Own.le_refl _) (.keep (by (rw [clr_start]; exact Own.le_refl _)) (.keep (Own.le_refl _) (.keep (Own.le_refl _) (.nil))))) (fun j hj => ?_)
              refine J_norm (Γ' := [(9, _), (2, _), (4, _), (5, _), (7, _)]) (M' := [_, _, _, _]) rfl rfl ?_
              obtain ⟨hj1, hj2⟩ := hj
              by_cases hji : j < i
              · have hov := rqOver_ok ((swp a k R) j k) ((swp a k R) k k) (rdB α k) (rdB α k) (hq1 j k) (hq1 k k) (by omega) hkk
                have hl := r8less_ok i i ((swp a k R) j) ((swp a k R) k) ((swp a k R) j k / (swp a k R) k k) (rdB α k) (rdB α k) (rdB α k + rdB α k) (by omega) (Nat.le_refl _) (fun q _ => hq1 j q) (fun q _ => hq1 k q) (qz_over (hq1 j k) (hq1 k k) hkk) (by omega)
                unfold ratF at hl ⊢
                refine J_seq (J_seq (J_reg (st (s_move rfl) rfl (st (s_move rfl) rfl (st (s_lenO rfl) rfl (st (sT (by omega) (s_lt rfl rfl)) rfl (Run.nil (pj_then (J_cond1 rfl ?_)))))))))
                refine J_skip (pj_then (J_seq (J_block (J_regd 26 mixed (by kernel_rfl) (by decide) (st (s_move rfl) rfl (st (s_move rfl) rfl (st (s_move rfl) rfl (st (s_move rfl) rfl (st (s_indexON rfl rfl (by omega)) rfl ?_)))))))))
                refine st (s_loadE 1 rfl rfl (by omega)) rfl (st (s_move rfl) rfl (st (s_move rfl) rfl (st (s_indexON rfl rfl (by omega)) rfl (st (s_loadE 1 rfl rfl (by omega)) rfl (st (s_move rfl) rfl (st (s_move rfl) rfl (st (s_indexON rfl rfl (by omega)) rfl (st (s_loadE 1 rfl rfl (by omega)) rfl (st (s_move rfl) rfl ?_)))))))))
                refine st (s_indexIN rfl rfl (by omega)) rfl (st (s_load rfl) rfl (st (s_move rfl) rfl (st (s_move rfl) rfl (st (s_indexON rfl rfl (by omega)) rfl (st (s_loadE 1 rfl rfl (by omega)) rfl (st (s_move rfl) rfl (st (s_indexIN rfl rfl (by omega)) rfl (st (s_load rfl) rfl ?_))))))))
                refine st (s_callk (hov ) rfl ⟨(by (simp only [clr_at, clr_k]; exact VT.le_refl _)), (by (simp only [clr_at, clr_k]; exact VT.le_refl _)), trivial⟩) rfl ?_
                refine st (s_callk (hl ) rfl ⟨(by (simp only [clr_at, clr_k]; exact VT.le_refl _)), (by (simp only [clr_at, clr_k]; exact VT.le_refl _)), VT.le_refl _, trivial⟩) rfl ?_
                refine Run.nil (st (s_indexON rfl rfl (by omega)) rfl ?_)
                (refine a_storeE 1 rfl rfl rfl ?_ rfl ?_; omega)
                refine Run.nil (pn_block (pj_then (J_reg (st (s_move rfl) rfl (st (s_addN _ 1 rfl rfl (by omega)) rfl (st (s_assign rfl) rfl (Run.nil ?_)))))))
                refine pj_roundM (j + 1) (⟨by omega, hji⟩) (by omega) (by repeat (first | exact SubG.refl _ | exact SubG.nil | refine SubG.cons rfl (VT.le_refl _) ?_ | (refine SubG.cons rfl (one_le ?_) ?_; (congr 1; first | omega | (simp; omega) | simp)))) (.keep (Own.le_refl _) (.keep (clr_upd (by omega)) (.keep (Own.le_refl _) (.keep (Own.le_refl _) (.nil)))))
              · have hjn : j = i := by omega
                rw [hjn]
                refine J_seq (J_seq (J_reg (st (s_move rfl) rfl (st (s_move rfl) rfl (st (s_lenO rfl) rfl (st (sF (by omega) (s_lt rfl rfl)) rfl (Run.nil (pj_then (J_cond0 rfl ?_)))))))))
                refine J_exit (px_then (px_then (px_block (pn_block (pj_then (J_reg (st (s_move rfl) rfl (st (s_addN _ 1 rfl rfl (by omega)) rfl (st (s_assign rfl) rfl ?_)))))))))
                refine Run.nil ?_
                refine pj_roundM ((k + 1, clrR k i (swp a k R), (-o) * (swp a k R) k k)) (⟨hki, hnx'⟩) (by omega) (by repeat (first | exact SubG.refl _ | exact SubG.nil | refine SubG.cons rfl (VT.le_refl _) ?_ | (refine SubG.cons rfl (one_le ?_) ?_; (congr 1; first | omega | (simp; omega) | simp)))) (.keep (Own.le_refl _) (.keep (Own.le_refl _) (.keep (Own.le_refl _) (.keep (Own.le_refl _) (.nil)))))
      · have hdz := hI.d.zero hki (fun q h1 h2 => ha3 q h1 (by omega))
        rw [hdz]
        refine J_seq (J_seq (J_reg (st (s_move rfl) rfl (st (s_move rfl) rfl (st (s_lenO rfl) rfl (st (sF (by omega) (s_lt rfl rfl)) rfl (st (s_move rfl) rfl (sn0 rfl rfl rfl rfl rfl (sn0 rfl rfl rfl rfl rfl ?_)))))))))
        refine sn0 rfl rfl rfl rfl rfl (sn0 rfl rfl rfl rfl rfl (sn0 rfl rfl rfl rfl rfl (sn0 rfl rfl rfl rfl rfl (sn0 rfl rfl rfl rfl rfl (sn0 rfl rfl rfl rfl rfl (sn0 rfl rfl rfl rfl rfl (st (s_pickF rfl rfl) rfl (Run.nil (pj_then ?_)))))))))
        refine J_cond0 rfl (J_exit (px_then (px_then (px_block (pj_then (J_seq (J_seq (J_reg (st (s_move rfl) rfl ?_)))))))))
        refine st (s_move rfl) rfl (st (s_lenO rfl) rfl (st (sT (by omega) (s_eq rfl rfl)) rfl (Run.nil (pj_then (J_cond1 rfl (J_seq (J_reg (stB rfl rfl rfl (BuildK.nil ?_)))))))))
        refine a_storeB 2 rfl rfl rfl rfl rfl (leN rfl) rfl (st (s_assign rfl) rfl (Run.nil (pj_then (J_ret (pr_then (pr_block (pr_then (pr_then (pr_block ?_)))))))))
        refine pr_then ?_
        refine retc2 Tryz.results18 (.cellB 2 rfl rfl rfl (zero_bigC)) (.tmp rfl (VT.le_refl _))
    · have hki2 : k = i := by omega
      subst hki2
      have ho := hI.d.done
      rw [ho]
      unfold ratT fracT
      refine J_seq (J_seq (J_reg (st (s_move rfl) rfl (st (s_move rfl) rfl (st (s_lenO rfl) rfl (st (sF (by omega) (s_lt rfl rfl)) rfl (Run.nil (pj_then (J_cond0 rfl ?_)))))))))
      refine J_exit (px_then (px_then (px_block (pj_then (J_seq (J_reg (st (s_fieldAddr rfl) rfl (st (s_loadBP 0 0 0 rfl rfl rfl rfl rfl) rfl (a_storeB 2 rfl rfl rfl rfl rfl (leN rfl) rfl ?_)))))))))
      refine st (s_assign rfl) rfl (Run.nil (pj_then (J_ret ?_)))
      refine retc2 Tryz.results18 (.cellB 2 rfl rfl rfl (VT.le_refl _)) (.tmp rfl (VT.le_refl _))
end Tor
end
section
namespace Tor
open Go Go.RowKit Go.Proofs
theorem fill_rat {sv : Option Nat} {T : TypeId} {cap n j : Nat} {h : Nat → Rat} {x : Rat} (hx : x = h j) : Own.le (sliO sv T (.agg 4) cap n (upd (fun q => if q < j then ratT (h q) else fracT 0 0) j (ratT x))) (sliO sv T (.agg 4) cap n (fun q => if q < j + 1 then ratT (h q) else fracT 0 0)) := sliO_eq (fun q _ => by
  subst hx
  show (if q = j then ratT (h j) else (if q < j then ratT (h q) else fracT 0 0)) = _
  by_cases c : q = j
  · rw [if_pos c, if_pos (by omega), c]
  · rw [if_neg c]
    by_cases c2 : q < j
    · rw [if_pos c2, if_pos (by omega)]
    · rw [if_neg c2, if_neg (by omega)])
theorem zeroR_le : VT.le (one (.agg #[.bool false, .slice none 0 0, .bool false, .slice none 0 0])) (fracT 0 0) := by
  intro v h e
  have e : v = .agg #[.bool false, .slice none 0 0, .bool false, .slice none 0 0] := e
  subst e
  refine ⟨_, rfl, rfl, by simp [Value.oneCell'], fun q hq => ?_⟩
  rcases List.mem_cons.1 hq with rfl | hq
  · exact ⟨_, rfl, zeroB_le _ _ rfl⟩
  · rcases List.mem_cons.1 hq with rfl | hq
    · exact ⟨_, rfl, zeroB_le _ _ rfl⟩
    · cases hq
theorem el_pivne {r w c : Nat} {full : Bool} {A : Nat → Nat → Int} {e : ElS} {V : Nat → Nat → Rat} (h : Lin.GJ r w c full A e V) (hf : full = true) (hcw : c ≤ w) {k : Nat} (hk : k < e.piv.length) : e.R k (e.piv.getD k 0) ≠ 0 := by
  have h1 := h.pc k hk
  have h2 := h.B3 k (Nat.lt_of_lt_of_le hk h.pr) (e.piv.getD k 0) (Nat.lt_of_lt_of_le h1 hcw) (.inl hf)
  have h3 := h.V4 k hk k (Nat.lt_of_lt_of_le hk h.pr)
  rw [if_pos rfl] at h3
  have h3 : V k (e.piv.getD k 0) = 1 := h3
  rw [h3, Rat.mul_one] at h2
  intro h0
  rw [h0] at h2
  exact Lin.int_ne h.d0 h2.symm
attribute [local irreducible] Tor.J Tor.PJ Tor.StepO Tor.one Tor.slT Tor.ptrT Tor.aggT Tor.tupT Tor.exT Tor.andT Tor.eP Tor.boxO Tor.sliO Tor.slV Tor.VT.le Tor.Ret Tor.anyT Tor.xO
attribute [local irreducible] bigT
set_option maxHeartbeats 4000000 in
theorem overM_ok (n : Nat) (f : Nat → Int) (d : Int) (hn : n ≤ 1048576) (hd : d ≠ 0) (hds : small d) (hf : ∀ i, i < n → small (f i)) : OkM (σ := Nat) Tryz.prog 49 [rowF n f, bigT d] (fun s => one (slV (some s) n n)) (fun s => [sliO (some s) 63 (.agg 4) n n (fun i => ratT (Rat.divInt (f i) d))]) := by
  unfold rowF
  refine OkM.enter Tryz.func49 rfl Tryz.ntmps49 rfl (fun w0 O => ?_)
  refine J_seq (J_reg ?_)
  refine a_box rfl rfl (ltN rfl) (fun b3 => ?_)
  refine st (s_assign rfl) rfl (Run.nil (pj_then (J_seq (J_reg (st (s_move rfl) rfl (st (s_len rfl) rfl ?_))))))
  refine a_makeSlice n n rfl rfl rfl rfl (Nat.le_refl _) rfl rfl (by omega) rfl rfl (fun bz => ?_)
  refine st (s_assign rfl) rfl (Run.nil (pj_then (J_seq (J_seq (J_reg (st (s_move rfl) rfl (st (s_len rfl) rfl (st (s_move rfl) rfl (Run.nil ?_)))))))))
  refine pj_then (J_block (J_sub (Γ' := [(3, _), (4, _), (5, _), (11, _), (12, _), (13, _)]) (SubG.cons rfl (VT.le_refl _) (SubG.cons rfl (VT.le_refl _) (SubG.cons rfl (VT.le_refl _) (SubG.cons rfl (VT.le_refl _) (SubG.cons rfl (VT.le_refl _) (SubG.cons rfl (VT.le_refl _) (SubG.nil))))))) (SubM.refl _) ?_))
  refine J_loopA (σ := Nat) (Γk := [(3, _), (4, _), (5, _), (11, _), (12, _)]) (SubG.cons rfl (VT.le_refl _) (SubG.cons rfl (VT.le_refl _) (SubG.cons rfl (VT.le_refl _) (SubG.cons rfl (VT.le_refl _) (SubG.cons rfl (VT.le_refl _) (SubG.nil)))))) (fun i => [(13, one (.int .i64 (i : Nat)))]) (fun i M0 => (M0.set 0 (sliO (some bz) 63 (.agg 4) n n (fun q => if q < i then ratT (Rat.divInt (f q) d) else fracT 0 0)))) (fun i => i ≤ n) (fun i => n - i) (0) (Nat.zero_le _) (by repeat (first | exact SubG.refl _ | exact SubG.nil | refine SubG.cons rfl (VT.le_refl _) ?_ | (refine SubG.cons rfl (one_le ?_) ?_; (congr 1; first | omega | (simp; omega) | simp)))) (.keep (sliO_le fun q hq => zeroR_le) (.keep (Own.le_refl _) (.nil))) (fun i hi => ?_)
  refine J_norm (Γ' := [(13, _), (3, _), (4, _), (5, _), (11, _), (12, _)]) (M' := [_, _]) rfl rfl ?_
  by_cases hc : i < n
  · have hq := qOf_ok (f i) d hd (hf i hc) hds
    refine J_seq (J_reg (st (sT (by omega) (s_lt rfl rfl)) rfl (Run.nil (pj_then (J_seq (J_cond1 rfl (J_skip (pj_then (J_seq ?_)))))))))
    refine J_block (J_seq (J_reg (st (s_move rfl) rfl (st (s_indexIN rfl rfl (by omega)) rfl (st (s_load rfl) rfl ?_)))))
    refine a_alloc (T := 43) rfl (ltN rfl) (fun b7 => ?_)
    refine st (s_assign rfl) rfl (a_storeB 0 rfl rfl rfl rfl rfl (leN rfl) rfl (Run.nil (pj_then (J_reg (st (s_move rfl) rfl (st (s_move rfl) rfl (st (s_loadB 0 rfl rfl rfl) rfl (st (s_loadB 2 rfl rfl rfl) rfl ?_))))))))
    refine st (s_callk (hq ) rfl ⟨VT.le_refl _, VT.le_refl _, trivial⟩) rfl ?_
    refine st (s_move rfl) rfl (st (s_extract rfl rfl) rfl (st (s_extract rfl rfl) rfl (st (s_indexON rfl rfl (by omega)) rfl ?_)))
    (refine a_storeE 1 rfl rfl rfl ?_ rfl ?_; omega)
    refine Run.nil (pn_block (pj_then (J_reg (st (s_addN _ 1 rfl rfl (by omega)) rfl (st (s_move rfl) rfl (Run.nil ?_))))))
    refine pj_roundM (i + 1) (hc) (by omega) (by repeat (first | exact SubG.refl _ | exact SubG.nil | refine SubG.cons rfl (VT.le_refl _) ?_ | (refine SubG.cons rfl (one_le ?_) ?_; (congr 1; first | omega | (simp; omega) | simp)))) (.drop (.keep (fill_rat (h := fun q => Rat.divInt (f q) d) rfl) (.keep (Own.le_refl _) (.nil))))
  · have he : i = n := by omega
    subst he
    refine J_seq (J_reg (st (sF (by omega) (s_lt rfl rfl)) rfl (Run.nil (pj_then (J_seq (J_cond0 rfl (J_exit (px_then (px_then ?_)))))))))
    refine px_block (pj_then (J_seq (J_reg (st (s_move rfl) rfl (st (s_assign rfl) rfl (Run.nil (pj_then (J_ret ?_))))))))
    exact retM1 (σ := Nat) (ψ := fun s => one (slV (some s) i i)) (Ms := fun s => [sliO (some s) 63 (.agg 4) i i (fun i => ratT (Rat.divInt (f i) d))]) bz Tryz.results49 (.tmp rfl (VT.le_refl _)) (.keep (sliO_eq fun q hq => by rw [if_pos hq]) (.drop .nil))
theorem over_ok (n : Nat) (f : Nat → Int) (d : Int) (hn : n ≤ 1048576) (hd : d ≠ 0) (hds : small d) (hf : ∀ i, i < n → small (f i)) : Ok Tryz.prog 49 [rowF n f, bigT d] (slT (.agg 4) n (fun i => ratT (Rat.divInt (f i) d))) :=
  (overM_ok n f d hn hd hds hf).ok fun s => Ent.sl List.mem_cons_self
theorem eqS_row {r j : Nat} {F : Nat → Nat → Int} {b : Nat → Int} (q : Nat) : upd (upd (fun q => bigT (if q < r then F q j else 0)) r (bigT (b j))) (r + 1 + j) (bigT 1) q = bigT (eqS r F b j q) := by
  show (if q = r + 1 + j then bigT 1 else (if q = r then bigT (b j) else bigT (if q < r then F q j else 0))) = _
  unfold eqS
  by_cases h1 : q = r + 1 + j
  · rw [if_pos h1, if_neg (by omega), if_neg (by omega), if_pos h1]
  · rw [if_neg h1]
    by_cases h2 : q = r
    · rw [if_pos h2, if_neg (by omega), if_pos h2]
    · rw [if_neg h2]
      by_cases h3 : q < r
      · rw [if_pos h3, if_pos h3]
      · rw [if_neg h3, if_neg h3, if_neg h2, if_neg h1]
theorem eqS_open {Ms : Mem} {sv bl : Option Nat} {T T' : TypeId} {c j r n capl : Nat} {F : Nat → Nat → Int} {b : Nat → Int} (hm : sliO bl T' (.agg 2) capl n (upd (upd (fun q => bigT (if q < r then F q j else 0)) r (bigT (b j))) (r + 1 + j) (bigT 1)) ∈ Ms) :
    EntO Ms (sliO sv T .one c c (upd (fun q => if q < j then rowF n (eqS r F b q) else one (.slice none 0 0)) j (one (slV bl n capl)))) (sliO sv T .one c c (fun q => if q < j + 1 then rowF n (eqS r F b q) else one (.slice none 0 0))) := EntO.sl fun q _ => by
  show Ent Ms (if q = j then one (slV bl n capl) else (if q < j then rowF n (eqS r F b q) else one (.slice none 0 0))) (if q < j + 1 then rowF n (eqS r F b q) else one (.slice none 0 0))
  by_cases h1 : q = j
  · rw [if_pos h1, if_pos (by omega), h1]
    exact Ent.slE hm fun k _ => Ent.le (le_eq (eqS_row k))
  · rw [if_neg h1]
    by_cases h2 : q < j
    · rw [if_pos h2, if_pos (by omega)]; exact Ent.refl _
    · rw [if_neg h2, if_neg (by omega)]; exact Ent.refl _
theorem lz_eqS {n r : Nat} {F : Nat → Nat → Int} {b : Nat → Int} (hn : 1 ≤ n) (hF : ∀ i j, lz n (F i j)) (hb : ∀ j, lz n (b j)) : ∀ i j, lz n (eqS r F b i j) := fun i j => by
  unfold eqS; split
  · exact hF _ _
  · split
    · exact hb _
    · split
      · exact lz_one hn
      · exact lz_zero _
theorem small_of_elim {n r : Nat} (he : elim0 n r) : n ≤ 1099511627700 := by
  have h1 := he.2
  have h2 : 1 ≤ 2 ^ r := Nat.one_le_two_pow
  have h3 := Nat.mul_le_mul_left (n + 1) h2
  omega
theorem fill_xs {sv : Option Nat} {T : TypeId} {cap n k r : Nat} {e : ElS} : Own.le (sliO sv T (.agg 4) cap n (upd (fun i => ratT (xsN e r k i)) (e.piv.getD k 0) (ratT (Rat.divInt (e.R k r) (e.R k (e.piv.getD k 0)))))) (sliO sv T (.agg 4) cap n (fun i => ratT (xsN e r (k + 1) i))) := sliO_eq fun q _ => by
  show (if q = e.piv.getD k 0 then ratT _ else ratT (xsN e r k q)) = ratT (if q = e.piv.getD k 0 then Rat.divInt (e.R k r) (e.R k q) else xsN e r k q)
  by_cases h : q = e.piv.getD k 0
  · rw [if_pos h, if_pos h, h]
  · rw [if_neg h, if_neg h]
set_option maxHeartbeats 4000000 in
theorem Solve_ok (r c : Nat) (F : Nat → Nat → Int) (b : Nat → Int) (n : Nat) (hr : r ≤ 1024) (hc : c ≤ 1024) (he : elim0 n c) (hF : ∀ i j, lz n (F i j)) (hb : ∀ j, lz n (b j)) : Ok Tryz.prog 13 [matF r c F, rowF c b]
    (match firstP (elN c true (eqS r F b) r).R r (elN c true (eqS r F b) r).piv.length c with
      | some q => tupT [slT (.agg 4) 0 (fun _ => ratT 0), slT (.agg 4) c (fun k => ratT (Rat.divInt ((elN c true (eqS r F b) r).R q (r + 1 + k)) ((elN c true (eqS r F b) r).R q r))), one (.bool false)]
      | none => tupT [slT (.agg 4) r (fun i => ratT (xsN (elN c true (eqS r F b) r) r (elN c true (eqS r F b) r).piv.length i)), slT (.agg 4) 0 (fun _ => ratT 0), one (.bool true)]) := by
  have hv := matValidF_ok r c F
  have h1 := Of_ok 1 (by decide) (by decide)
  unfold matF rowF at *
  refine Ok.enter Tryz.func13 rfl Tryz.ntmps13 rfl (fun w0 O => ?_)
  refine J_seq (J_reg ?_)
  refine a_boxS rfl rfl (ltN rfl) (fun b2 => ?_)
  refine st (s_assign rfl) rfl (st (s_assign rfl) rfl (st (s_assign rfl) rfl (Run.nil (pj_then (J_seq (J_seq (J_reg (st (s_loadW 0 rfl rfl) rfl ?_))))))))
  refine st (s_callk (hv ) rfl ⟨VT.le_refl _, trivial⟩) rfl ?_
  refine st (s_not rfl) rfl (st (s_move rfl) rfl (sg1 rfl rfl (s_move rfl) rfl (sg1 rfl rfl (s_len rfl) rfl (sg1 rfl rfl (s_fieldAddr rfl) rfl (sg1 rfl rfl (s_loadB 0 rfl rfl rfl) rfl (sg1 rfl rfl (sF (by omega) (s_ne rfl rfl)) rfl (st (s_pickF rfl rfl) rfl (Run.nil (pj_then ?_)))))))))
  refine J_cond0 rfl (J_skip (pj_then (J_seq (J_reg (st (s_fieldAddr rfl) rfl (st (s_loadB 0 rfl rfl rfl) rfl ?_))))))
  refine a_makeSlice c c rfl rfl rfl rfl (Nat.le_refl _) rfl rfl (by omega) rfl rfl (fun bo => ?_)
  refine st (s_assign rfl) rfl (Run.nil (pj_then (J_seq (J_seq (J_reg (st (s_move rfl) rfl (st (s_lenO rfl) rfl (st (s_move rfl) rfl (Run.nil ?_)))))))))
  refine pj_then (J_block (J_sub (Γ' := [(1, _), (2, _), (4, _), (5, _), (6, _), (7, _), (32, _), (33, _)]) (SubG.cons rfl (VT.le_refl _) (SubG.cons rfl (VT.le_refl _) (SubG.cons rfl (VT.le_refl _) (SubG.cons rfl (VT.le_refl _) (SubG.cons rfl (VT.le_refl _) (SubG.cons rfl (VT.le_refl _) (SubG.cons rfl (VT.le_refl _) (SubG.cons rfl (VT.le_refl _) (SubG.nil))))))))) (SubM.refl _) ?_))
  refine J_loopA (σ := Nat) (Γk := [(1, _), (2, _), (4, _), (5, _), (6, _), (7, _), (32, _)]) (SubG.cons rfl (VT.le_refl _) (SubG.cons rfl (VT.le_refl _) (SubG.cons rfl (VT.le_refl _) (SubG.cons rfl (VT.le_refl _) (SubG.cons rfl (VT.le_refl _) (SubG.cons rfl (VT.le_refl _) (SubG.cons rfl (VT.le_refl _) (SubG.nil)))))))) (fun j => [(33, one (.int .i64 (j : Nat)))]) (fun j M0 => (M0.set 0 (sliO (some bo) 30 .one c c (fun q => if q < j then rowF (r + 1 + c) (eqS r F b q) else one (.slice none 0 0))))) (fun j => j ≤ c) (fun j => c - j) (0) (Nat.zero_le _) (by repeat (first | exact SubG.refl _ | exact SubG.nil | refine SubG.cons rfl (VT.le_refl _) ?_ | (refine SubG.cons rfl (one_le ?_) ?_; (congr 1; first | omega | (simp; omega) | simp)))) (.keep (Own.le_refl _) (.keep (Own.le_refl _) (.nil))) (fun j hj => ?_)
  refine J_norm (Γ' := [(33, _), (1, _), (2, _), (4, _), (5, _), (6, _), (7, _), (32, _)]) (M' := [_, _]) rfl rfl ?_
  by_cases hj : j < c
  · refine J_seq (J_reg (st (sT (by omega) (s_lt rfl rfl)) rfl (Run.nil (pj_then (J_seq (J_cond1 rfl (J_skip (pj_then (J_seq ?_)))))))))
    refine J_block (J_seq (J_reg (st (s_move rfl) rfl (st (s_assign rfl) rfl (Run.nil (pj_then (J_seq (J_reg (st (s_fieldAddr rfl) rfl ?_)))))))))
    refine st (s_loadB 1 rfl rfl rfl) rfl (st (s_addN _ 1 rfl rfl (by omega)) rfl (st (s_fieldAddr rfl) rfl (st (s_loadB 1 rfl rfl rfl) rfl (st (s_addN _ _ rfl rfl (by omega)) rfl ?_))))
    refine a_makeSlice (r + 1 + c) (r + 1 + c) rfl rfl (by simp) (by simp) (Nat.le_refl _) rfl rfl (by omega) rfl rfl (fun bl => ?_)
    refine st (s_assign rfl) rfl (Run.nil (pj_then (J_seq (J_seq (J_reg (st (s_fieldAddr rfl) rfl (st (s_loadB 2 rfl rfl rfl) rfl (st (s_len rfl) rfl (st (s_move rfl) rfl ?_)))))))))
    refine Run.nil (pj_then (J_block (J_sub (Γ' := [(1, _), (2, _), (4, _), (5, _), (6, _), (7, _), (8, _), (9, _), (32, _), (33, _), (44, _), (45, _), (46, _)]) (SubG.cons rfl (VT.le_refl _) (SubG.cons rfl (VT.le_refl _) (SubG.cons rfl (VT.le_refl _) (SubG.cons rfl (VT.le_refl _) (SubG.cons rfl (VT.le_refl _) (SubG.cons rfl (VT.le_refl _) (SubG.cons rfl (VT.le_refl _) (SubG.cons rfl (VT.le_refl _) (SubG.cons rfl (VT.le_refl _) (SubG.cons rfl (VT.le_refl _) (SubG.cons rfl (VT.le_refl _) (SubG.cons rfl (VT.le_refl _) (SubG.cons rfl (VT.le_refl _) (SubG.nil)))))))))))))) (SubM.refl _) ?_)))
    refine J_loopA (σ := Nat) (Γk := [(1, _), (2, _), (4, _), (5, _), (6, _), (7, _), (8, _), (9, _), (32, _), (33, _), (44, _), (45, _)]) (SubG.cons rfl (VT.le_refl _) (SubG.cons rfl (VT.le_refl _) (SubG.cons rfl (VT.le_refl _) (SubG.cons rfl (VT.le_refl _) (SubG.cons rfl (VT.le_refl _) (SubG.cons rfl (VT.le_refl _) (SubG.cons rfl (VT.le_refl _) (SubG.cons rfl (VT.le_refl _) (SubG.cons rfl (VT.le_refl _) (SubG.cons rfl (VT.le_refl _) (SubG.cons rfl (VT.le_refl _) (SubG.cons rfl (VT.le_refl _) (SubG.nil))))))))))))) (fun i => [(46, one (.int .i64 (i : Nat)))]) (fun i M0 => (M0.set 0 (sliO (some bl) 43 (.agg 2) (r + 1 + c) (r + 1 + c) (fun q => bigT (if q < i then F q j else 0))))) (fun i => i ≤ r) (fun i => r - i) (0) (Nat.zero_le _) (by repeat (first | exact SubG.refl _ | exact SubG.nil | refine SubG.cons rfl (VT.le_refl _) ?_ | (refine SubG.cons rfl (one_le ?_) ?_; (congr 1; first | omega | (simp; omega) | simp)))) (.keep (sliO_le fun q hq => zero_big) (.keep (Own.le_refl _) (.keep (Own.le_refl _) (.nil)))) (fun i hi => ?_)
    refine J_norm (Γ' := [(46, _), (1, _), (2, _), (4, _), (5, _), (6, _), (7, _), (8, _), (9, _), (32, _), (33, _), (44, _), (45, _)]) (M' := [_, _, _]) rfl rfl ?_
    by_cases hi : i < r
    · refine J_seq (J_reg (st (sT (by omega) (s_lt rfl rfl)) rfl (Run.nil (pj_then (J_seq (J_cond1 rfl (J_skip (pj_then (J_seq ?_)))))))))
      refine J_block (J_seq (J_reg (st (s_move rfl) rfl (st (s_indexIN rfl rfl (by omega)) rfl (st (s_load rfl) rfl (st (s_assign rfl) rfl (st (s_assign rfl) rfl (Run.nil (pj_then ?_)))))))))
      refine J_reg (st (s_move rfl) rfl (st (s_move rfl) rfl (st (s_move rfl) rfl (st (s_move rfl) rfl (st (s_indexIN rfl rfl (by omega)) rfl (st (s_load rfl) rfl (st (s_indexON rfl rfl (by omega)) rfl ?_)))))))
      (refine a_storeE 0 rfl rfl rfl ?_ rfl ?_; omega)
      refine Run.nil (pn_block (pj_then (J_reg (st (s_addN _ 1 rfl rfl (by omega)) rfl (st (s_move rfl) rfl (Run.nil ?_))))))
      refine pj_roundM (i + 1) (hi) (by omega) (by repeat (first | exact SubG.refl _ | exact SubG.nil | refine SubG.cons rfl (VT.le_refl _) ?_ | (refine SubG.cons rfl (one_le ?_) ?_; (congr 1; first | omega | (simp; omega) | simp)))) (.keep (fill_row (h := fun q => F q j) rfl) (.keep (Own.le_refl _) (.keep (Own.le_refl _) (.nil))))
    · have hir : i = r := by omega
      subst hir
      refine J_seq (J_reg (st (sF (by omega) (s_lt rfl rfl)) rfl (Run.nil (pj_then (J_seq (J_cond0 rfl (J_exit (px_then (px_then ?_)))))))))
      refine px_block (pj_then (J_seq (J_regd 7 mixed (by kernel_rfl) (by decide) (st (s_move rfl) rfl (st (s_fieldAddr rfl) rfl (st (s_loadB 2 rfl rfl rfl) rfl (st (s_move rfl) rfl (st (s_move rfl) rfl (st (s_indexIN rfl rfl (by omega)) rfl ?_)))))))))
      refine st (s_load rfl) rfl (Run.nil (st (s_indexON rfl rfl (by omega)) rfl ?_))
      (refine a_storeE 0 rfl rfl rfl ?_ rfl ?_; omega)
      refine Run.nil (pj_then (J_seq (J_regd 7 mixed (by kernel_rfl) (by decide) (st (s_move rfl) rfl (st (s_fieldAddr rfl) rfl (st (s_loadB 2 rfl rfl rfl) rfl (st (s_addN _ 1 rfl rfl (by omega)) rfl (st (s_move rfl) rfl (st (s_addN _ _ rfl rfl (by omega)) rfl ?_)))))))))
      refine st (s_callk (h1 ) rfl ⟨VT.le_refl _, trivial⟩) rfl ?_
      refine Run.nil (st (s_indexON rfl rfl (by omega)) rfl ?_)
      (refine a_storeE 0 rfl rfl rfl ?_ rfl ?_; omega)
      refine Run.nil (pj_then (J_reg (st (s_move rfl) rfl (st (s_move rfl) rfl (st (s_move rfl) rfl (st (s_indexON rfl rfl (by omega)) rfl ?_))))))
      (refine a_storeE 1 rfl rfl rfl ?_ rfl ?_; omega)
      refine Run.nil (pn_block (pj_then (J_reg (st (s_addN _ 1 rfl rfl (by omega)) rfl (st (s_move rfl) rfl (Run.nil ?_))))))
      refine PJ_open [_] (List.Perm.refl _) (.keep (eqS_open List.mem_cons_self) (EntM.refl _)) (EntG.refl _) ?_
      refine pj_roundM (j + 1) (hj) (by omega) (by repeat (first | exact SubG.refl _ | exact SubG.nil | refine SubG.cons rfl (VT.le_refl _) ?_ | (refine SubG.cons rfl (one_le ?_) ?_; (congr 1; first | omega | (simp; omega) | simp)))) (.keep (Own.le_refl _) (.keep (Own.le_refl _) (.nil)))
  · have hjc : j = c := by omega
    subst hjc
    have hS := lz_eqS (r := r) he.1 hF hb
    have hru := runR_ok j (r + 1 + j) r (eqS r F b) true n (by omega) (by omega) (by omega) he.1 he.b hS
    obtain ⟨A, V, hE⟩ := Lin.elN_EL j (r + 1 + j) true (eqS r F b) r (by omega)
    have hok := elN_ok (r := j) true he.1 hS r
    have hpr := hE.gj.pr
    have hpc := hE.gj.pc
    generalize elN j true (eqS r F b) r = e at *
    unfold elimT at hru
    refine J_open [_] (List.Perm.refl _) (EntM.refl _) (EntG.set (t := 7) (ψ := slT .one j (fun q => if q < j then rowF (r + 1 + j) (eqS r F b q) else one (.slice none 0 0))) rfl (Ent.sl List.mem_cons_self)) ?_
    refine J_seq (J_reg (st (sF (by omega) (s_lt rfl rfl)) rfl (Run.nil (pj_then (J_seq (J_cond0 rfl (J_exit (px_then (px_then ?_)))))))))
    refine px_block (pj_then (J_seq (J_reg (st (s_move rfl) rfl (st (s_fieldAddr rfl) rfl (st (s_loadB 0 rfl rfl rfl) rfl ?_))))))
    refine st (s_callk (hru ) rfl ⟨((slT_le fun q hq => le_eq (by rw [if_pos hq]))), VT.le_refl _, VT.le_refl _, trivial⟩) rfl ?_
    refine st (s_assign rfl) rfl (Run.nil (pj_then (J_seq (J_seq (J_regd 13 mixed (by kernel_rfl) (by decide) (st (s_move rfl) rfl (st (s_nilCheckI rfl) rfl (st (s_fieldI rfl rfl) rfl (st (s_fieldI rfl rfl) rfl ?_)))))))))
    refine st (s_load rfl) rfl (st (s_move rfl) rfl (st (s_nilCheckI rfl) rfl (st (s_fieldI rfl rfl) rfl (st (s_load rfl) rfl (st (s_len rfl) rfl ?_)))))
    refine st (s_slice rfl rfl rfl rfl (fun h => nomatch h) (by omega) (by omega) (by omega) (by omega)) rfl ?_
    refine st (s_len rfl) rfl (st (s_move rfl) rfl (Run.nil (Run.nil (pj_then (J_block (J_retype (t := 95) (ψ := one (.int .i64 ((j - e.piv.length : Nat) : Int))) rfl (one_le (by congr 1; omega)) ?_))))))
    refine J_retype (t := 94) (ψ := slT .one (j - e.piv.length) (fun t => slT (.agg 2) (r + 1 + j) (fun k => bigT (e.R (e.piv.length + t) k)))) rfl (slT_le' (by omega) (fun q hq => by rw [Int.toNat_natCast]; rfl)) ?_
    refine J_sub (Γ' := [(2, _), (4, _), (5, _), (6, _), (12, _), (94, _), (95, _), (96, _)]) (SubG.cons rfl (VT.le_refl _) (SubG.cons rfl (VT.le_refl _) (SubG.cons rfl (VT.le_refl _) (SubG.cons rfl (VT.le_refl _) (SubG.cons rfl (VT.le_refl _) (SubG.cons rfl (VT.le_refl _) (SubG.cons rfl (VT.le_refl _) (SubG.cons rfl (VT.le_refl _) (SubG.nil))))))))) (SubM.refl _) ?_
    refine J_loopA (σ := Nat) (Γk := [(2, _), (12, _), (94, _), (95, _)]) (SubG.cons rfl (VT.le_refl _) (SubG.cons rfl (VT.le_refl _) (SubG.cons rfl (VT.le_refl _) (SubG.cons rfl (VT.le_refl _) (SubG.nil))))) (fun t => [(96, one (.int .i64 (t : Nat)))]) (fun t M0 => M0) (fun t => t ≤ j - e.piv.length ∧ ∀ q, e.piv.length ≤ q → q < e.piv.length + t → e.R q r = 0) (fun t => j - e.piv.length - t) (0) (⟨Nat.zero_le _, fun q h1 h2 => absurd h2 (by omega)⟩) (by repeat (first | exact SubG.refl _ | exact SubG.nil | refine SubG.cons rfl (VT.le_refl _) ?_ | (refine SubG.cons rfl (one_le ?_) ?_; (congr 1; first | omega | (simp; omega) | simp)))) (.keep (Own.le_refl _) (.nil)) (fun t ht => ?_)
    refine J_norm (Γ' := [(96, _), (2, _), (12, _), (94, _), (95, _)]) (M' := [_]) rfl rfl ?_
    obtain ⟨ht, hz⟩ := ht
    by_cases htj : t < j - e.piv.length
    · have hsg := sgnI_zero (e.R (e.piv.length + t) r)
      by_cases h0 : e.R (e.piv.length + t) r = 0
      · have hs0 := hsg.2 h0
        refine J_seq (J_reg (st (sT (by omega) (s_lt rfl rfl)) rfl (Run.nil (pj_then (J_seq (J_cond1 rfl (J_skip (pj_then (J_seq ?_)))))))))
        refine J_block (J_seq (J_reg (st (s_indexIN rfl rfl (by omega)) rfl (st (s_load rfl) rfl (st (s_assign rfl) rfl (Run.nil (pj_then (J_seq (J_reg ?_)))))))))
        refine st (s_move rfl) rfl (st (s_fieldAddr rfl) rfl (st (s_loadB 0 rfl rfl rfl) rfl (st (s_indexIN rfl rfl (by omega)) rfl (st (s_load rfl) rfl ?_))))
        refine st (s_callk (SignI_ok _) rfl ⟨VT.le_refl _, trivial⟩) rfl ?_
        refine st (sF (by omega) (s_ne rfl rfl)) rfl (Run.nil (pj_then (J_cond0 rfl (J_skip (pn_block (pj_then (J_reg (st (s_addN _ 1 rfl rfl (by omega)) rfl (st (s_move rfl) rfl ?_)))))))))
        refine Run.nil ?_
        refine pj_roundM (t + 1) (⟨htj, fun q h1 h2 => by by_cases h3 : q = e.piv.length + t; exact h3 ▸ h0; exact hz q h1 (by omega)⟩) (by omega) (by repeat (first | exact SubG.refl _ | exact SubG.nil | refine SubG.cons rfl (VT.le_refl _) ?_ | (refine SubG.cons rfl (one_le ?_) ?_; (congr 1; first | omega | (simp; omega) | simp)))) (.keep (Own.le_refl _) (.nil))
      · have hs0 : sgnI (e.R (e.piv.length + t) r) ≠ 0 := fun h => h0 (hsg.1 h)
        have hov := over_ok j (fun k => e.R (e.piv.length + t) (r + 1 + k)) (e.R (e.piv.length + t) r) (by omega) h0 ((he.lz hok (hok.R _ _)).small (by decide)) (fun i _ => (he.lz hok (hok.R _ _)).small (by decide))
        unfold rowF at hov
        rw [firstP_some (by omega) (by omega) hz h0]
        dsimp only
        refine J_seq (J_reg (st (sT (by omega) (s_lt rfl rfl)) rfl (Run.nil (pj_then (J_seq (J_cond1 rfl (J_skip (pj_then (J_seq ?_)))))))))
        refine J_block (J_seq (J_reg (st (s_indexIN rfl rfl (by omega)) rfl (st (s_load rfl) rfl (st (s_assign rfl) rfl (Run.nil (pj_then (J_seq (J_reg ?_)))))))))
        refine st (s_move rfl) rfl (st (s_fieldAddr rfl) rfl (st (s_loadB 0 rfl rfl rfl) rfl (st (s_indexIN rfl rfl (by omega)) rfl (st (s_load rfl) rfl ?_))))
        refine st (s_callk (SignI_ok _) rfl ⟨VT.le_refl _, trivial⟩) rfl ?_
        refine st (sT (by assumption) (s_ne rfl rfl)) rfl (Run.nil (pj_then (J_cond1 rfl (J_seq (J_regd 12 mixed (by kernel_rfl) (by decide) (st (s_move rfl) rfl (st (s_fieldAddr rfl) rfl (st (s_loadB 0 rfl rfl rfl) rfl (st (s_addN _ 1 rfl rfl (by omega)) rfl ?_)))))))))
        refine st (s_slice rfl rfl rfl rfl (fun h => nomatch h) (by omega) (by omega) (by omega) (by omega)) rfl ?_
        refine st (s_move rfl) rfl (st (s_fieldAddr rfl) rfl (st (s_loadB 0 rfl rfl rfl) rfl (st (s_indexIN rfl rfl (by omega)) rfl (st (s_load rfl) rfl ?_))))
        refine st (s_callk (hov ) rfl ⟨((slT_le' (by omega) (fun q hq => by rw [Int.toNat_natCast]))), VT.le_refl _, trivial⟩) rfl ?_
        refine st (s_assign rfl) rfl (Run.nil (st (s_assign rfl) rfl (st (s_assign rfl) rfl (Run.nil (pj_then (J_ret (pr_block (pr_then (pr_then ?_)))))))))
        refine pr_block (pr_then ?_)
        refine retc3 Tryz.results13 (.tmp rfl (nil_slT)) (.tmp rfl (VT.le_refl _)) (.tmp rfl (VT.le_refl _))
    · rw [firstP_none (fun q h1 h2 => hz q h1 (by omega))]
      dsimp only
      have hz1 := overM_ok r (fun _ => 0) 1 (by omega) (by decide) small_one (fun _ _ => small_zero)
      unfold rowF at hz1
      refine J_seq (J_reg (st (sF (by omega) (s_lt rfl rfl)) rfl (Run.nil (pj_then (J_seq (J_cond0 rfl (J_exit (px_then (px_then ?_)))))))))
      refine px_block (pj_then (J_seq (J_regdT 4 mixed (by kernel_rfl) (by decide) (st (s_fieldAddr rfl) rfl (st (s_loadB 0 rfl rfl rfl) rfl (st (s_makeZ r rfl rfl rfl rfl rfl rfl (by omega)) rfl ?_))))))
      skip
      refine st (s_callk h1 rfl ⟨VT.le_refl _, trivial⟩) rfl ?_
      refine Run.nil ?_
      refine a_callM hz1 rfl (And.intro (slT_le fun q hq => zeroB_le) (And.intro (VT.le_refl _) trivial)) rfl rfl (fun bx => ?_)
      refine st (s_assign rfl) rfl (Run.nil (pj_then (J_seq (J_seq (J_reg (st (s_move rfl) rfl (st (s_nilCheckI rfl) rfl (st (s_fieldI rfl rfl) rfl (st (s_load rfl) rfl ?_)))))))))
      refine st (s_len rfl) rfl (st (s_move rfl) rfl (Run.nil (pj_then (J_block (J_sub (Γ' := [(2, _), (12, _), (15, _), (127, _), (128, _), (129, _)]) (SubG.cons rfl (VT.le_refl _) (SubG.cons rfl (VT.le_refl _) (SubG.cons rfl (VT.le_refl _) (SubG.cons rfl (VT.le_refl _) (SubG.cons rfl (VT.le_refl _) (SubG.cons rfl (VT.le_refl _) (SubG.nil))))))) (SubM.refl _) ?_)))))
      refine J_loopA (σ := Nat) (Γk := [(2, _), (12, _), (15, _), (127, _), (128, _)]) (SubG.cons rfl (VT.le_refl _) (SubG.cons rfl (VT.le_refl _) (SubG.cons rfl (VT.le_refl _) (SubG.cons rfl (VT.le_refl _) (SubG.cons rfl (VT.le_refl _) (SubG.nil)))))) (fun k => [(129, one (.int .i64 (k : Nat)))]) (fun k M0 => (M0.set 0 (sliO (some bx) 63 (.agg 4) r r (fun i => ratT (xsN e r k i))))) (fun k => k ≤ e.piv.length) (fun k => e.piv.length - k) (0) (Nat.zero_le _) (by repeat (first | exact SubG.refl _ | exact SubG.nil | refine SubG.cons rfl (VT.le_refl _) ?_ | (refine SubG.cons rfl (one_le ?_) ?_; (congr 1; first | omega | (simp; omega) | simp)))) (.keep (Own.le_refl _) (.keep (Own.le_refl _) (.nil))) (fun k hk => ?_)
      refine J_norm (Γ' := [(129, _), (2, _), (12, _), (15, _), (127, _), (128, _)]) (M' := [_, _]) rfl rfl ?_
      by_cases hk : k < e.piv.length
      · have hkr : e.piv.getD k 0 < r := hpc k hk
        have hne := el_pivne hE.gj rfl (by omega) hk
        have hq := qOf_ok (e.R k r) (e.R k (e.piv.getD k 0)) hne ((he.lz hok (hok.R _ _)).small (by decide)) ((he.lz hok (hok.R _ _)).small (by decide))
        unfold rowF pivF
        refine J_seq (J_reg (st (sT (by omega) (s_lt rfl rfl)) rfl (Run.nil (pj_then (J_seq (J_cond1 rfl (J_skip (pj_then (J_seq ?_)))))))))
        refine J_block (J_seq (J_reg (st (s_move rfl) rfl (st (s_indexIN rfl rfl (by omega)) rfl (st (s_load rfl) rfl (st (s_assign rfl) rfl (st (s_assign rfl) rfl (Run.nil (pj_then ?_)))))))))
        apply J_regG (Γ1 := [(2, _), (12, _), (15, _), (127, _), (128, _), (129, _)]) (M1 := [_, _]) 29 3 [] [28] mixed (by kernel_rfl) (by decide)
        · refine st (s_move rfl) rfl (st (s_move rfl) rfl (st (s_move rfl) rfl (st (s_nilCheckI rfl) rfl (st (s_fieldI rfl rfl) rfl (st (s_fieldI rfl rfl) rfl (st (s_load rfl) rfl (st (s_move rfl) rfl (st (s_indexIN rfl rfl (by omega)) rfl (st (s_load rfl) rfl ?_)))))))))
          refine st (s_fieldAddr rfl) rfl (st (s_loadB 1 rfl rfl rfl) rfl (st (s_indexIN rfl rfl (by omega)) rfl (st (s_load rfl) rfl (st (s_move rfl) rfl (st (s_nilCheckI rfl) rfl (st (s_fieldI rfl rfl) rfl (st (s_fieldI rfl rfl) rfl (st (s_load rfl) rfl (st (s_move rfl) rfl ?_)))))))))
          refine st (s_indexIN rfl rfl (by omega)) rfl (st (s_load rfl) rfl (st (s_move rfl) rfl (st (s_indexIN rfl rfl (by omega)) rfl (st (s_load rfl) rfl ?_))))
          refine st (s_callk (hq ) rfl ⟨VT.le_refl _, VT.le_refl _, trivial⟩) rfl ?_
          refine st (s_move rfl) rfl (st (s_extract rfl rfl) rfl (st (s_extract rfl rfl) rfl (Run.nil ?_)))
          refine entry0 (Γe := [(2, _), (12, _), (15, _), (127, _), (128, _), (129, _), (134, _), (135, _), (136, _), (161, _)]) (rem := [29, 30]) rfl (by repeat (first | exact SubG.nil | refine SubG.cons rfl (VT.le_refl _) ?_)) rfl ?_
          refine game_one (rem' := [30]) (i := 29) (by kernel_rfl) rfl rfl ?_ (DeadOk.cons rfl (StepG.plain (s_extract rfl rfl) rfl rfl (ltN rfl)) rfl DeadOk.nil)
          refine st (s_indexON rfl rfl (by omega)) rfl (Run.nil ?_)
          refine ⟨rfl, ?_⟩
          refine game_one (rem' := []) (i := 30) (by kernel_rfl) rfl rfl ?_ (DeadOk.cons rfl (StepG.plain (s_extract rfl rfl) rfl rfl (ltN rfl)) rfl DeadOk.nil)
          (refine a_storeE 0 rfl rfl rfl ?_ rfl ?_; omega)
          refine Run.nil ?_
          refine ⟨rfl, ?_⟩
          refine game_end (by repeat (first | exact SubG.nil | refine SubG.cons rfl (VT.le_refl _) ?_)) (SubM.refl _) (DeadOk.cons rfl (StepG.plain (s_extract rfl rfl) rfl rfl (ltN rfl)) rfl DeadOk.nil)
        · refine pn_block (pj_then (J_reg (st (s_addN _ 1 rfl rfl (by omega)) rfl (st (s_move rfl) rfl (Run.nil ?_)))))
          refine pj_roundM (k + 1) (hk) (by omega) (by repeat (first | exact SubG.refl _ | exact SubG.nil | refine SubG.cons rfl (VT.le_refl _) ?_ | (refine SubG.cons rfl (one_le ?_) ?_; (congr 1; first | omega | (simp; omega) | simp)))) (.keep (fill_xs) (.keep (Own.le_refl _) (.nil)))
      · have hkp : k = e.piv.length := by omega
        subst hkp
        refine J_seq (J_reg (st (sF (by omega) (s_lt rfl rfl)) rfl (Run.nil (pj_then (J_seq (J_cond0 rfl (J_exit (px_then (px_then ?_)))))))))
        refine px_block (pj_then (J_seq (J_reg (st (s_move rfl) rfl (st (s_assign rfl) rfl (st (s_assign rfl) rfl (st (s_assign rfl) rfl (Run.nil (pj_then ?_)))))))))
        refine J_ret (PJ_freeze (t := 4) (i := 0) rfl rfl ?_)
        refine retc3 Tryz.results13 (.tmp rfl (VT.le_refl _)) (.tmp rfl (nil_slT)) (.tmp rfl (VT.le_refl _))
end Tor
end
