/-
  Theorems that the proofs of laws of this seat rest on.
  No condition.
-/
import Derived.Test.YtinfobmidgammaaGreatEA6
section
set_option linter.unusedVariables false
set_option linter.unusedSimpArgs false
namespace Tor
open Go Go.RowKit Go.Proofs
theorem rden_le (n d : Int) (h : d ≠ 0) : (Rat.divInt n d).den ≤ d.natAbs := by
  rw [Rat.den_divInt, if_neg h]
  exact Nat.div_le_self _ _
theorem rnum_le (n d : Int) : (Rat.divInt n d).num.natAbs ≤ n.natAbs := by
  rw [Rat.num_divInt]
  refine Nat.le_trans (Int.natAbs_ediv_le_natAbs _ _) ?_
  rw [Int.natAbs_mul]
  have : d.sign.natAbs ≤ 1 := by rw [Int.natAbs_sign]; split <;> omega
  exact Nat.le_trans (Nat.mul_le_mul_right _ this) (by omega)
theorem radd_div (a b : Rat) : a + b = Rat.divInt (a.num * b.den + b.num * a.den) (a.den * b.den) := by
  rw [Rat.add_def', ← Rat.divInt_ofNat]; simp
theorem rmul_div (a b : Rat) : a * b = Rat.divInt (a.num * b.num) (a.den * b.den) := by
  rw [Rat.mul_def', ← Rat.divInt_ofNat]; simp
def qz (n : Nat) (q : Rat) : Prop := lz n q.num ∧ lz n (q.den : Int)
theorem qz.mono {n m : Nat} {q : Rat} (h : qz n q) (hn : n ≤ m) : qz m q := ⟨h.1.mono hn, h.2.mono hn⟩
theorem qz_div {n : Nat} {a d : Int} (ha : lz n a) (hd : lz n d) (h : d ≠ 0) : qz n (Rat.divInt a d) := ⟨lz_le ha (rnum_le a d), lz_le hd (by rw [Int.natAbs_natCast]; exact rden_le a d h)⟩
theorem qz_int {n : Nat} {a : Int} (hn : 1 ≤ n) (h : lz n a) : qz n (a : Rat) := ⟨by rw [Rat.num_intCast]; exact h, by rw [Rat.den_intCast]; exact lz_one hn⟩
theorem qden_ne (q : Rat) : (q.den : Int) ≠ 0 := by have := q.den_nz; omega
theorem qz_add {n m : Nat} {p q : Rat} (hp : qz n p) (hq : qz m q) : qz (n + m + 1) (p + q) := by
  rw [radd_div]
  have h1 := lz_mul hp.1 hq.2
  have h2 := lz_mul hq.1 hp.2
  rw [Nat.add_comm m n] at h2
  exact qz_div (lz_add h1 h2) ((lz_mul hp.2 hq.2).mono (by omega)) (Int.mul_ne_zero (qden_ne p) (qden_ne q))
theorem qz_mul {n m : Nat} {p q : Rat} (hp : qz n p) (hq : qz m q) : qz (n + m) (p * q) := by
  rw [rmul_div]
  exact qz_div (lz_mul hp.1 hq.1) (lz_mul hp.2 hq.2) (Int.mul_ne_zero (qden_ne p) (qden_ne q))
theorem qz_zero (n : Nat) (hn : 1 ≤ n) : qz n 0 := qz_int (a := 0) hn (lz_zero n)
attribute [local irreducible] Tor.J Tor.PJ Tor.StepO Tor.one Tor.slT Tor.ptrT Tor.aggT Tor.tupT Tor.exT Tor.andT Tor.gT Tor.eP Tor.boxO Tor.sliO Tor.slV Tor.VT.le Tor.Ret Tor.anyT Tor.mapO Tor.metT Tor.xO
attribute [local irreducible] bigT
set_option maxHeartbeats 4000000 in
theorem rqWhole_ok (a : Int) : Ok Tryz.prog 52 [bigT a] (ratT (a : Rat)) := by
  have h1 := rOf_ok 1 (by decide) (by decide)
  unfold ratT
  rw [Rat.num_intCast, Rat.den_intCast]
  refine Ok.enter Tryz.func52 rfl Tryz.ntmps52 rfl (fun w O => ?_)
  refine J_seq ?_
  refine J_reg ?_
  refine a_box rfl rfl (ltN rfl) (fun b1 => ?_)
  refine a_allocS (T := 63) rfl rfl rfl (fun b2 => ?_)
  refine Run.nil ?_
  refine pj_then ?_
  refine J_seq ?_
  refine J_regd 2 mixed (by kernel_rfl) (by decide) ?_
  refine st (s_loadB 1 rfl rfl rfl) rfl ?_
  refine st (s_callk (h1 ) rfl ⟨VT.le_refl _, trivial⟩) rfl ?_
  refine Run.nil ?_
  refine stB rfl rfl rfl ?_
  refine BuildK.cons rfl rfl rfl ?_
  refine BuildK.cons rfl rfl rfl ?_
  refine BuildK.nil ?_
  refine a_storeW 0 rfl rfl rfl rfl ?_
  refine Run.nil ?_
  refine pj_then ?_
  refine J_ret ?_
  refine retc1 Tryz.results52 (.cellW 0 rfl rfl (fracT_of rfl rfl))
set_option maxHeartbeats 4000000 in
theorem rqNumber_ok (n : Int) (h1 : -9223372036854775808 ≤ n) (h2 : n ≤ 9223372036854775807) : Ok Tryz.prog 33 [one (.int .i64 n)] (ratT (n : Rat)) := by
  have ho := rOf_ok n h1 h2
  refine Ok.enter Tryz.func33 rfl Tryz.ntmps33 rfl (fun w O => ?_)
  refine J_seq ?_
  refine J_reg ?_
  refine a_allocS (T := 63) rfl rfl rfl (fun b2 => ?_)
  refine Run.nil ?_
  refine pj_then ?_
  refine J_seq ?_
  refine J_reg ?_
  refine st (s_move rfl) rfl ?_
  refine st (s_callk (ho ) rfl ⟨VT.le_refl _, trivial⟩) rfl ?_
  refine st (s_callk (rqWhole_ok _) rfl ⟨VT.le_refl _, trivial⟩) rfl ?_
  refine a_storeW 0 rfl rfl rfl rfl ?_
  refine Run.nil ?_
  refine pj_then ?_
  refine J_ret ?_
  refine retc1 Tryz.results33 (.cellW 0 rfl rfl (VT.le_refl _))
set_option maxHeartbeats 4000000 in
theorem rqSign_ok (q : Rat) : Ok Tryz.prog 36 [ratT q] (one (.int .i64 (sgnI q.num))) := by
  unfold ratT fracT
  refine Ok.enter Tryz.func36 rfl Tryz.ntmps36 rfl (fun w O => ?_)
  refine J_seq ?_
  refine J_reg ?_
  refine a_boxS rfl rfl (ltN rfl) (fun b1 => ?_)
  refine st (s_assign rfl) rfl ?_
  refine Run.nil ?_
  refine pj_then ?_
  refine J_seq ?_
  refine J_reg ?_
  refine st (s_fieldAddr rfl) rfl ?_
  refine st (s_loadB 0 rfl rfl rfl) rfl ?_
  refine st (s_callk (rSignI_ok _) rfl ⟨VT.le_refl _, trivial⟩) rfl ?_
  refine st (s_assign rfl) rfl ?_
  refine Run.nil ?_
  refine pj_then ?_
  refine J_ret ?_
  refine retc1 Tryz.results36 (.tmp rfl (VT.le_refl _))
set_option maxHeartbeats 4000000 in
theorem rqof_ok (n d : Int) (hd : d ≠ 0) (hn : small0 n) (hds : small0 d) : Ok Tryz.prog 87 [bigT n, bigT d] (ratT (Rat.divInt n d)) := by
  have h := rqOf_ok n d hd hn hds
  unfold ratT fracT at *
  refine Ok.enter Tryz.func87 rfl Tryz.ntmps87 rfl (fun w O => ?_)
  refine J_seq ?_
  refine J_reg ?_
  refine a_box rfl rfl (ltN rfl) (fun b2 => ?_)
  refine a_box rfl rfl (ltN rfl) (fun b3 => ?_)
  refine a_allocS (T := 63) rfl rfl rfl (fun b4 => ?_)
  refine Run.nil ?_
  refine pj_then ?_
  refine J_seq ?_
  refine J_reg ?_
  refine st (s_loadB 2 rfl rfl rfl) rfl ?_
  refine st (s_loadB 1 rfl rfl rfl) rfl ?_
  refine st (s_callk (h ) rfl ⟨VT.le_refl _, VT.le_refl _, trivial⟩) rfl ?_
  refine st (s_move rfl) rfl ?_
  refine st (s_extract rfl rfl) rfl ?_
  refine st (s_extract rfl rfl) rfl ?_
  refine a_allocS (T := 63) rfl rfl rfl (fun b5 => ?_)
  refine a_storeW 0 rfl rfl rfl rfl ?_
  refine st (s_assign rfl) rfl ?_
  refine Run.nil ?_
  refine pj_then ?_
  refine J_seq ?_
  refine J_reg ?_
  refine st (s_loadW 0 rfl rfl) rfl ?_
  refine a_storeW 1 rfl rfl rfl rfl ?_
  refine Run.nil ?_
  refine pj_then ?_
  refine J_ret ?_
  refine retc1 Tryz.results87 (.cellW 1 rfl rfl (VT.le_refl _))
set_option maxHeartbeats 4000000 in
theorem rqAdd_ok (p q : Rat) (n m : Nat) (hp : qz n p) (hq : qz m q) (h : n + m + 1 ≤ 1099511627700) : Ok Tryz.prog 73 [ratT p, ratT q] (ratT (p + q)) := by
  have m1 := lz_mul hp.1 hq.2
  have m2 := lz_mul hq.1 hp.2
  have m3 := lz_mul hp.2 hq.2
  rw [Nat.add_comm m n] at m2
  have c1 := rMulI_ok p.num q.den (hp.1.small (by omega)) (hq.2.small (by omega))
  have c2 := rMulI_ok q.num p.den (hq.1.small (by omega)) (hp.2.small (by omega))
  have c3 := rMulI_ok (p.den : Int) q.den (hp.2.small (by omega)) (hq.2.small (by omega))
  have c4 := rAddI_ok (p.num * q.den) (q.num * p.den) (m1.small (by omega)) (m2.small (by omega))
  have c5 := rqof_ok (p.num * q.den + q.num * p.den) (p.den * q.den) (Int.mul_ne_zero (qden_ne p) (qden_ne q)) ((lz_add m1 m2).small0 h) (m3.small0 (by omega))
  rw [radd_div]
  unfold ratT fracT at *
  refine Ok.enter Tryz.func73 rfl Tryz.ntmps73 rfl (fun w O => ?_)
  refine J_seq ?_
  refine J_reg ?_
  refine a_boxS rfl rfl (ltN rfl) (fun b2 => ?_)
  refine a_boxS rfl rfl (ltN rfl) (fun b3 => ?_)
  refine a_allocS (T := 63) rfl rfl rfl (fun b4 => ?_)
  refine Run.nil ?_
  refine pj_then ?_
  refine J_seq ?_
  refine J_regU2 mixed (by kernel_rfl) (by kernel_rfl) ?_
  refine ux (fun B => s_fieldAddr rfl) rfl rfl ?_
  refine ux (fun B => s_loadB 2 rfl rfl rfl) rfl rfl ?_
  refine ux (fun B => s_fieldAddr rfl) rfl rfl ?_
  refine ux (fun B => s_loadB 1 rfl rfl rfl) rfl rfl ?_
  refine uxk (c1 ) rfl ⟨VT.le_refl _, VT.le_refl _, trivial⟩ rfl ?_
  refine ux (fun B => s_fieldAddr rfl) rfl rfl ?_
  refine ux (fun B => s_loadB 1 rfl rfl rfl) rfl rfl ?_
  refine ux (fun B => s_fieldAddr rfl) rfl rfl ?_
  refine ux (fun B => s_loadB 2 rfl rfl rfl) rfl rfl ?_
  refine uxk (c2 ) rfl ⟨VT.le_refl _, VT.le_refl _, trivial⟩ rfl ?_
  refine uxk (c4 ) rfl ⟨VT.le_refl _, VT.le_refl _, trivial⟩ rfl ?_
  refine ua rfl ?_
  refine us rfl ?_
  refine RunU.nil (fun γ => ?_)
  refine PJ_normM (M' := [_, _, _, _]) rfl ?_
  refine pj_then ?_
  refine J_seq ?_
  refine J_regd 7 mixed (by kernel_rfl) (by decide) ?_
  refine st (s_loadB 0 rfl rfl rfl) rfl ?_
  refine st (s_fieldAddr rfl) rfl ?_
  refine st (s_loadB 3 rfl rfl rfl) rfl ?_
  refine st (s_fieldAddr rfl) rfl ?_
  refine st (s_loadB 2 rfl rfl rfl) rfl ?_
  refine st (s_callk (c3 ) rfl ⟨VT.le_refl _, VT.le_refl _, trivial⟩) rfl ?_
  refine st (s_callk (c5 ) rfl ⟨VT.le_refl _, VT.le_refl _, trivial⟩) rfl ?_
  refine Run.nil ?_
  refine a_storeW 1 rfl rfl rfl rfl ?_
  refine Run.nil ?_
  refine pj_then ?_
  refine J_ret ?_
  refine retc1 Tryz.results73 (.cellW 1 rfl rfl (VT.le_refl _))
set_option maxHeartbeats 4000000 in
theorem rqMul_ok (p q : Rat) (n m : Nat) (hp : qz n p) (hq : qz m q) (h : n + m ≤ 1099511627700) : Ok Tryz.prog 57 [ratT p, ratT q] (ratT (p * q)) := by
  have c1 := rMulI_ok p.num q.num (hp.1.small (by omega)) (hq.1.small (by omega))
  have c2 := rMulI_ok (p.den : Int) q.den (hp.2.small (by omega)) (hq.2.small (by omega))
  have c3 := rqof_ok (p.num * q.num) (p.den * q.den) (Int.mul_ne_zero (qden_ne p) (qden_ne q)) ((lz_mul hp.1 hq.1).small0 h) ((lz_mul hp.2 hq.2).small0 h)
  rw [rmul_div]
  unfold ratT fracT at *
  refine Ok.enter Tryz.func57 rfl Tryz.ntmps57 rfl (fun w O => ?_)
  refine J_seq ?_
  refine J_reg ?_
  refine a_boxS rfl rfl (ltN rfl) (fun b2 => ?_)
  refine a_boxS rfl rfl (ltN rfl) (fun b3 => ?_)
  refine a_allocS (T := 63) rfl rfl rfl (fun b4 => ?_)
  refine Run.nil ?_
  refine pj_then ?_
  refine J_seq ?_
  refine J_regd 11 mixed (by kernel_rfl) (by decide) ?_
  refine st (s_fieldAddr rfl) rfl ?_
  refine st (s_loadB 2 rfl rfl rfl) rfl ?_
  refine st (s_fieldAddr rfl) rfl ?_
  refine st (s_loadB 1 rfl rfl rfl) rfl ?_
  refine st (s_callk (c1 ) rfl ⟨VT.le_refl _, VT.le_refl _, trivial⟩) rfl ?_
  refine st (s_fieldAddr rfl) rfl ?_
  refine st (s_loadB 2 rfl rfl rfl) rfl ?_
  refine st (s_fieldAddr rfl) rfl ?_
  refine st (s_loadB 1 rfl rfl rfl) rfl ?_
  refine st (s_callk (c2 ) rfl ⟨VT.le_refl _, VT.le_refl _, trivial⟩) rfl ?_
  refine st (s_callk (c3 ) rfl ⟨VT.le_refl _, VT.le_refl _, trivial⟩) rfl ?_
  refine Run.nil ?_
  refine a_storeW 0 rfl rfl rfl rfl ?_
  refine Run.nil ?_
  refine pj_then ?_
  refine J_ret ?_
  refine retc1 Tryz.results57 (.cellW 0 rfl rfl (VT.le_refl _))
set_option maxHeartbeats 4000000 in
theorem rqMade_ok (n d : Int) (hd : d ≠ 0) (n1 : -9223372036854775808 ≤ n) (n2 : n ≤ 9223372036854775807) (d1 : -9223372036854775808 ≤ d) (d2 : d ≤ 9223372036854775807) : Ok Tryz.prog 76 [one (.int .i64 n), one (.int .i64 d)] (ratT (Rat.divInt n d)) := by
  have o1 := rOf_ok n n1 n2
  have o2 := rOf_ok d d1 d2
  have c := rqof_ok n d hd (small0_lt (by omega)) (small0_lt (by omega))
  refine Ok.enter Tryz.func76 rfl Tryz.ntmps76 rfl (fun w O => ?_)
  refine J_seq ?_
  refine J_reg ?_
  refine a_allocS (T := 63) rfl rfl rfl (fun b4 => ?_)
  refine Run.nil ?_
  refine pj_then ?_
  refine J_seq ?_
  refine J_seq ?_
  refine J_reg ?_
  refine st (s_move rfl) rfl ?_
  refine st (sF (by assumption) (s_eq rfl rfl)) rfl ?_
  refine Run.nil ?_
  refine pj_then ?_
  refine J_cond0 rfl ?_
  refine J_skip ?_
  refine pj_then ?_
  refine J_seq ?_
  refine J_reg ?_
  refine st (s_move rfl) rfl ?_
  refine st (s_callk (o1 ) rfl ⟨VT.le_refl _, trivial⟩) rfl ?_
  refine st (s_move rfl) rfl ?_
  refine st (s_callk (o2 ) rfl ⟨VT.le_refl _, trivial⟩) rfl ?_
  refine st (s_callk (c ) rfl ⟨VT.le_refl _, VT.le_refl _, trivial⟩) rfl ?_
  refine a_storeW 0 rfl rfl rfl rfl ?_
  refine Run.nil ?_
  refine pj_then ?_
  refine J_ret ?_
  refine retc1 Tryz.results76 (.cellW 0 rfl rfl (VT.le_refl _))
set_option maxHeartbeats 4000000 in
theorem rqList_ok (n m : Nat) (l k : Nat → Rat) (hn : n ≤ 1048576) : Ok Tryz.prog 16 [slT (.agg 4) n (fun i => ratT (l i)), slT (.agg 4) m (fun i => ratT (k i))] (one (.bool (decide (n = m ∧ ∀ i, i < n → l i = k i)))) := by
  refine Ok.enter Tryz.func16 rfl Tryz.ntmps16 rfl (fun w O => ?_)
  by_cases h : n = m
  · subst h
    refine J_seq ?_
    refine J_reg ?_
    refine st (s_assign rfl) rfl ?_
    refine Run.nil ?_
    refine pj_then ?_
    refine J_seq ?_
    refine J_seq ?_
    refine J_reg ?_
    refine st (s_move rfl) rfl ?_
    refine st (s_len rfl) rfl ?_
    refine st (s_move rfl) rfl ?_
    refine st (s_len rfl) rfl ?_
    refine st (sF (by omega) (s_ne rfl rfl)) rfl ?_
    refine Run.nil ?_
    refine pj_then ?_
    refine J_cond0 rfl ?_
    refine J_skip ?_
    refine pj_then ?_
    refine J_seq ?_
    refine J_seq ?_
    refine J_reg ?_
    refine st (s_assign rfl) rfl ?_
    refine Run.nil ?_
    refine pj_then ?_
    refine J_block ?_
    refine J_sub (Γ' := [(0, _), (1, _), (4, _), (5, _)]) (SubG.cons rfl (VT.le_refl _) (SubG.cons rfl (VT.le_refl _) (SubG.cons rfl (VT.le_refl _) (SubG.cons rfl (VT.le_refl _) (SubG.nil))))) (SubM.refl _) ?_
    refine J_loopA (σ := Nat) (Γk := [(0, _), (1, _)]) (SubG.cons rfl (VT.le_refl _) (SubG.cons rfl (VT.le_refl _) (SubG.nil))) (fun i => [(5, one (.int .i64 (i : Nat)))]) (fun i M0 => M0) (fun i => i ≤ n ∧ ∀ q, q < i → l q = k q) (fun i => n - i) (0) (⟨Nat.zero_le _, fun q h => absurd h (Nat.not_lt_zero _)⟩) (by repeat (first | exact SubG.refl _ | exact SubG.nil | refine SubG.cons rfl (VT.le_refl _) ?_ | (refine SubG.cons rfl (one_le ?_) ?_; (congr 1; first | omega | (simp; omega) | simp)))) (.nil) (fun i hi => ?_)
    refine J_norm (Γ' := [(5, _), (0, _), (1, _)]) (M' := []) rfl rfl ?_
    obtain ⟨hi, hq⟩ := hi
    by_cases hin : i < n
    · have hs := rqSame_ok (l i) (k i)
      by_cases he : l i = k i
      · rw [decide_eq_true he] at hs
        refine J_seq ?_
        refine J_seq ?_
        refine J_reg ?_
        refine st (s_move rfl) rfl ?_
        refine st (s_move rfl) rfl ?_
        refine st (s_len rfl) rfl ?_
        refine st (sT (by omega) (s_lt rfl rfl)) rfl ?_
        refine Run.nil ?_
        refine pj_then ?_
        refine J_cond1 rfl ?_
        refine J_skip ?_
        refine pj_then ?_
        refine J_seq ?_
        refine J_block ?_
        refine J_seq ?_
        refine J_regd 10 mixed (by kernel_rfl) (by decide) ?_
        refine st (s_move rfl) rfl ?_
        refine st (s_move rfl) rfl ?_
        refine st (s_indexIN rfl rfl (by omega)) rfl ?_
        refine st (s_load rfl) rfl ?_
        refine st (s_move rfl) rfl ?_
        refine st (s_move rfl) rfl ?_
        refine st (s_indexIN rfl rfl (by omega)) rfl ?_
        refine st (s_load rfl) rfl ?_
        refine st (s_callk (hs ) rfl ⟨VT.le_refl _, VT.le_refl _, trivial⟩) rfl ?_
        refine st (s_not rfl) rfl ?_
        refine Run.nil ?_
        refine Run.nil ?_
        refine pj_then ?_
        refine J_cond0 rfl ?_
        refine J_skip ?_
        refine pn_block ?_
        refine pj_then ?_
        refine J_reg ?_
        refine st (s_move rfl) rfl ?_
        refine st (s_addN _ 1 rfl rfl (by omega)) rfl ?_
        refine st (s_assign rfl) rfl ?_
        refine Run.nil ?_
        refine pj_roundM (i + 1) (⟨hin, fun q h => by by_cases h3 : q = i; exact h3 ▸ he; exact hq q (by omega)⟩) (by omega) (by repeat (first | exact SubG.refl _ | exact SubG.nil | refine SubG.cons rfl (VT.le_refl _) ?_ | (refine SubG.cons rfl (one_le ?_) ?_; (congr 1; first | omega | (simp; omega) | simp)))) (.nil)
      · rw [decide_eq_false he] at hs
        rw [decide_eq_false (fun h => he (h.2 i hin))]
        refine J_seq ?_
        refine J_seq ?_
        refine J_reg ?_
        refine st (s_move rfl) rfl ?_
        refine st (s_move rfl) rfl ?_
        refine st (s_len rfl) rfl ?_
        refine st (sT (by omega) (s_lt rfl rfl)) rfl ?_
        refine Run.nil ?_
        refine pj_then ?_
        refine J_cond1 rfl ?_
        refine J_skip ?_
        refine pj_then ?_
        refine J_seq ?_
        refine J_block ?_
        refine J_seq ?_
        refine J_regd 10 mixed (by kernel_rfl) (by decide) ?_
        refine st (s_move rfl) rfl ?_
        refine st (s_move rfl) rfl ?_
        refine st (s_indexIN rfl rfl (by omega)) rfl ?_
        refine st (s_load rfl) rfl ?_
        refine st (s_move rfl) rfl ?_
        refine st (s_move rfl) rfl ?_
        refine st (s_indexIN rfl rfl (by omega)) rfl ?_
        refine st (s_load rfl) rfl ?_
        refine st (s_callk (hs ) rfl ⟨VT.le_refl _, VT.le_refl _, trivial⟩) rfl ?_
        refine st (s_not rfl) rfl ?_
        refine Run.nil ?_
        refine Run.nil ?_
        refine pj_then ?_
        refine J_cond1 rfl ?_
        refine J_seq ?_
        refine J_reg ?_
        refine st (s_assign rfl) rfl ?_
        refine Run.nil ?_
        refine pj_then ?_
        refine J_ret ?_
        refine pr_block ?_
        refine pr_then ?_
        refine pr_then ?_
        refine pr_block ?_
        refine pr_then ?_
        refine retc1 Tryz.results16 (.tmp rfl (VT.le_refl _))
    · rw [decide_eq_true ⟨rfl, fun q h => hq q (by omega)⟩]
      refine J_seq ?_
      refine J_seq ?_
      refine J_reg ?_
      refine st (s_move rfl) rfl ?_
      refine st (s_move rfl) rfl ?_
      refine st (s_len rfl) rfl ?_
      refine st (sF (by omega) (s_lt rfl rfl)) rfl ?_
      refine Run.nil ?_
      refine pj_then ?_
      refine J_cond0 rfl ?_
      refine J_exit ?_
      refine px_then ?_
      refine px_then ?_
      refine px_block ?_
      refine pj_then ?_
      refine J_seq ?_
      refine J_reg ?_
      refine st (s_assign rfl) rfl ?_
      refine Run.nil ?_
      refine pj_then ?_
      refine J_ret ?_
      refine retc1 Tryz.results16 (.tmp rfl (VT.le_refl _))
  · rw [decide_eq_false (fun k => h k.1)]
    refine J_seq ?_
    refine J_reg ?_
    refine st (s_assign rfl) rfl ?_
    refine Run.nil ?_
    refine pj_then ?_
    refine J_seq ?_
    refine J_seq ?_
    refine J_reg ?_
    refine st (s_move rfl) rfl ?_
    refine st (s_len rfl) rfl ?_
    refine st (s_move rfl) rfl ?_
    refine st (s_len rfl) rfl ?_
    refine st (sT (by omega) (s_ne rfl rfl)) rfl ?_
    refine Run.nil ?_
    refine pj_then ?_
    refine J_cond1 rfl ?_
    refine J_seq ?_
    refine J_reg ?_
    refine st (s_assign rfl) rfl ?_
    refine Run.nil ?_
    refine pj_then ?_
    refine J_ret ?_
    refine pr_then ?_
    refine retc1 Tryz.results16 (.tmp rfl (VT.le_refl _))
set_option maxHeartbeats 4000000 in
theorem rqValidList_ok (n m : Nat) (l : Nat → Rat) (z : Nat) (hn : n ≤ 1048576) (hz : z ≤ 1099511627700) (hl : ∀ i, i < n → qz z (l i)) : Ok Tryz.prog 28 [slT (.agg 4) n (fun i => ratT (l i)), one (.int .i64 (m : Nat))] (one (.bool (decide (n = m)))) := by
  refine Ok.enter Tryz.func28 rfl Tryz.ntmps28 rfl (fun w O => ?_)
  by_cases h : n = m
  · subst h
    rw [decide_eq_true rfl]
    refine J_seq ?_
    refine J_reg ?_
    refine st (s_assign rfl) rfl ?_
    refine Run.nil ?_
    refine pj_then ?_
    refine J_seq ?_
    refine J_seq ?_
    refine J_reg ?_
    refine st (s_move rfl) rfl ?_
    refine st (s_len rfl) rfl ?_
    refine st (s_move rfl) rfl ?_
    refine st (sF (by omega) (s_ne rfl rfl)) rfl ?_
    refine Run.nil ?_
    refine pj_then ?_
    refine J_cond0 rfl ?_
    refine J_skip ?_
    refine pj_then ?_
    refine J_seq ?_
    refine J_seq ?_
    refine J_reg ?_
    refine st (s_assign rfl) rfl ?_
    refine Run.nil ?_
    refine pj_then ?_
    refine J_block ?_
    refine J_sub (Γ' := [(0, _), (4, _), (5, _)]) (SubG.cons rfl (VT.le_refl _) (SubG.cons rfl (VT.le_refl _) (SubG.cons rfl (VT.le_refl _) (SubG.nil)))) (SubM.refl _) ?_
    refine J_loopA (σ := Nat) (Γk := [(0, _)]) (SubG.cons rfl (VT.le_refl _) (SubG.nil)) (fun i => [(5, one (.int .i64 (i : Nat)))]) (fun i M0 => M0) (fun i => i ≤ n) (fun i => n - i) (0) (Nat.zero_le _) (by repeat (first | exact SubG.refl _ | exact SubG.nil | refine SubG.cons rfl (VT.le_refl _) ?_ | (refine SubG.cons rfl (one_le ?_) ?_; (congr 1; first | omega | (simp; omega) | simp)))) (.nil) (fun i hi => ?_)
    refine J_norm (Γ' := [(5, _), (0, _)]) (M' := []) rfl rfl ?_
    by_cases hin : i < n
    · have hs := rqValid_ok (l i) ((hl i hin).1.small0 hz) ((hl i hin).2.small0 hz)
      refine J_seq ?_
      refine J_seq ?_
      refine J_reg ?_
      refine st (s_move rfl) rfl ?_
      refine st (s_move rfl) rfl ?_
      refine st (s_len rfl) rfl ?_
      refine st (sT (by omega) (s_lt rfl rfl)) rfl ?_
      refine Run.nil ?_
      refine pj_then ?_
      refine J_cond1 rfl ?_
      refine J_skip ?_
      refine pj_then ?_
      refine J_seq ?_
      refine J_block ?_
      refine J_seq ?_
      refine J_reg ?_
      refine st (s_move rfl) rfl ?_
      refine st (s_move rfl) rfl ?_
      refine st (s_indexIN rfl rfl (by omega)) rfl ?_
      refine st (s_load rfl) rfl ?_
      refine st (s_callk (hs ) rfl ⟨VT.le_refl _, trivial⟩) rfl ?_
      refine st (s_not rfl) rfl ?_
      refine Run.nil ?_
      refine pj_then ?_
      refine J_cond0 rfl ?_
      refine J_skip ?_
      refine pn_block ?_
      refine pj_then ?_
      refine J_reg ?_
      refine st (s_move rfl) rfl ?_
      refine st (s_addN _ 1 rfl rfl (by omega)) rfl ?_
      refine st (s_assign rfl) rfl ?_
      refine Run.nil ?_
      refine pj_roundM (i + 1) (hin) (by omega) (by repeat (first | exact SubG.refl _ | exact SubG.nil | refine SubG.cons rfl (VT.le_refl _) ?_ | (refine SubG.cons rfl (one_le ?_) ?_; (congr 1; first | omega | (simp; omega) | simp)))) (.nil)
    · refine J_seq ?_
      refine J_seq ?_
      refine J_reg ?_
      refine st (s_move rfl) rfl ?_
      refine st (s_move rfl) rfl ?_
      refine st (s_len rfl) rfl ?_
      refine st (sF (by omega) (s_lt rfl rfl)) rfl ?_
      refine Run.nil ?_
      refine pj_then ?_
      refine J_cond0 rfl ?_
      refine J_exit ?_
      refine px_then ?_
      refine px_then ?_
      refine px_block ?_
      refine pj_then ?_
      refine J_seq ?_
      refine J_reg ?_
      refine st (s_assign rfl) rfl ?_
      refine Run.nil ?_
      refine pj_then ?_
      refine J_ret ?_
      refine retc1 Tryz.results28 (.tmp rfl (VT.le_refl _))
  · rw [decide_eq_false h]
    refine J_seq ?_
    refine J_reg ?_
    refine st (s_assign rfl) rfl ?_
    refine Run.nil ?_
    refine pj_then ?_
    refine J_seq ?_
    refine J_seq ?_
    refine J_reg ?_
    refine st (s_move rfl) rfl ?_
    refine st (s_len rfl) rfl ?_
    refine st (s_move rfl) rfl ?_
    refine st (sT (by omega) (s_ne rfl rfl)) rfl ?_
    refine Run.nil ?_
    refine pj_then ?_
    refine J_cond1 rfl ?_
    refine J_seq ?_
    refine J_reg ?_
    refine st (s_assign rfl) rfl ?_
    refine Run.nil ?_
    refine pj_then ?_
    refine J_ret ?_
    refine pr_then ?_
    refine retc1 Tryz.results28 (.tmp rfl (VT.le_refl _))
end Tor
end

section
set_option linter.unusedVariables false
set_option linter.unusedSimpArgs false
namespace Tor
open Go Go.RowKit Go.Proofs
attribute [local irreducible] Tor.J Tor.PJ Tor.StepO Tor.one Tor.slT Tor.ptrT Tor.aggT Tor.tupT Tor.exT Tor.andT Tor.gT Tor.eP Tor.boxO Tor.sliO Tor.slV Tor.VT.le Tor.Ret Tor.anyT
attribute [local irreducible] bigT Tor.rowsO
end Tor
end

section
set_option linter.unusedVariables false
set_option linter.unusedSimpArgs false
namespace Tor
open Go Go.RowKit Go.Proofs
theorem perm6 (x y z u t s : Own) : [x, y, z, u, t, s].Perm ([y, z] ++ [x, u, t, s]) := (List.Perm.swap y x _).trans (List.Perm.cons y (List.Perm.swap z x _))
attribute [local irreducible] Tor.J Tor.PJ Tor.StepO Tor.one Tor.slT Tor.ptrT Tor.aggT Tor.tupT Tor.exT Tor.andT Tor.gT Tor.eP Tor.boxO Tor.sliO Tor.slV Tor.VT.le Tor.Ret Tor.anyT
attribute [local irreducible] bigT Tor.rowsO
end Tor
end

section
set_option linter.unusedVariables false
set_option linter.unusedSimpArgs false
namespace Tor
open Go Go.RowKit Go.Proofs
def ratF (n : Nat) (f : Nat → Rat) : VT := slT (.agg 4) n (fun i => ratT (f i))
theorem ratF_le {n : Nat} {f g : Nat → Rat} (h : ∀ i, i < n → f i = g i) : VT.le (ratF n f) (ratF n g) := slT_le fun i hi => le_eq (by rw [h i hi])
instance {n : Nat} {f : Nat → Rat} : Flat (ratF n f) .one := by unfold ratF; infer_instance
def firstQ (a : Nat → Rat) (n : Nat) : Nat := ((List.range' 0 n).find? fun i => decide (a i ≠ 0)).getD n
def redB (α β : Nat) : Nat → Nat
  | 0 => α
  | i + 1 => 2 * redB α β i + 2 * β + 1
theorem rat_snoc {sv : Option Nat} {T : TypeId} {cap i : Nat} {h : Nat → Rat} {x : Rat} (hx : x = h i) : Own.le (sliO sv T (.agg 4) cap (i + 1) (fun q => if q < i then ratT (h q) else ratT x)) (sliO sv T (.agg 4) cap (i + 1) (fun q => ratT (h q))) := sliO_eq fun q hq => by
  subst hx
  by_cases c : q < i
  · rw [if_pos c]
  · rw [if_neg c, show q = i by omega]
attribute [local irreducible] Tor.J Tor.PJ Tor.StepO Tor.one Tor.slT Tor.ptrT Tor.aggT Tor.tupT Tor.exT Tor.andT Tor.gT Tor.eP Tor.boxO Tor.sliO Tor.slV Tor.VT.le Tor.Ret Tor.anyT Tor.mapO Tor.metT Tor.xO
attribute [local irreducible] bigT ratT
set_option maxHeartbeats 4000000 in
theorem r8Rationals_ok (n : Nat) (f : Nat → Int) (hn : n ≤ 1048576) : Ok Tryz.prog 35 [rowF n f] (ratF n (fun i => (f i : Rat))) := by
  unfold ratF rowF
  refine Ok.enter Tryz.func35 rfl Tryz.ntmps35 rfl (fun w O => ?_)
  refine J_seq ?_
  refine J_reg ?_
  refine st (s_assign rfl) rfl ?_
  refine Run.nil ?_
  refine pj_then ?_
  refine J_seq ?_
  refine J_reg ?_
  refine stSO (n := 0) rfl rfl rfl rfl rfl ?_
  refine PartsK.nil (fun bl => ?_)
  refine st (s_assign rfl) rfl ?_
  refine Run.nil ?_
  refine pj_then ?_
  refine J_seq ?_
  refine J_seq ?_
  refine J_reg ?_
  refine st (s_assign rfl) rfl ?_
  refine Run.nil ?_
  refine pj_then ?_
  refine J_block ?_
  refine J_sub (Γ' := [(0, _), (2, _), (3, _), (4, _)]) (SubG.cons rfl (VT.le_refl _) (SubG.cons rfl (VT.le_refl _) (SubG.cons rfl (VT.le_refl _) (SubG.cons rfl (VT.le_refl _) (SubG.nil))))) (SubM.refl _) ?_
  refine J_loopA (σ := Nat × Option Nat × Nat) (Γk := [(0, _), (2, _)]) (SubG.cons rfl (VT.le_refl _) (SubG.cons rfl (VT.le_refl _) (SubG.nil))) (fun s => [(4, one (.int .i64 (s.1 : Nat))), (3, one (slV s.2.1 s.1 s.2.2))]) (fun s M0 => (M0.set 0 (sliO s.2.1 63 (.agg 4) s.2.2 s.1 (fun q => ratT (f q : Rat))))) (fun s => s.1 ≤ n) (fun s => n - s.1) ((0, some bl, 0)) (Nat.zero_le _) (by repeat (first | exact SubG.refl _ | exact SubG.nil | refine SubG.cons rfl (VT.le_refl _) ?_ | (refine SubG.cons rfl (one_le ?_) ?_; (congr 1; first | omega | (simp; omega) | simp)))) (.keep (sliO_eq (fun q hq => absurd hq (Nat.not_lt_zero _))) (.nil)) (fun s hs => ?_)
  refine J_norm (Γ' := [(4, _), (3, _), (0, _), (2, _)]) (M' := [_]) rfl rfl ?_
  obtain ⟨i, sv, cap⟩ := s
  dsimp only at hs ⊢
  by_cases hi : i < n
  · refine J_seq ?_
    refine J_seq ?_
    refine J_reg ?_
    refine st (s_move rfl) rfl ?_
    refine st (s_move rfl) rfl ?_
    refine st (s_len rfl) rfl ?_
    refine st (sT (by omega) (s_lt rfl rfl)) rfl ?_
    refine Run.nil ?_
    refine pj_then ?_
    refine J_cond1 rfl ?_
    refine J_skip ?_
    refine pj_then ?_
    refine J_seq ?_
    refine J_block ?_
    refine J_reg ?_
    refine st (s_move rfl) rfl ?_
    refine st (s_move rfl) rfl ?_
    refine st (s_move rfl) rfl ?_
    refine st (s_indexIN rfl rfl (by omega)) rfl ?_
    refine st (s_load rfl) rfl ?_
    refine st (s_callk (rqWhole_ok _) rfl ⟨VT.le_refl _, trivial⟩) rfl ?_
    refine stS1 rfl rfl rfl rfl ?_
    (refine a_append 0 rfl rfl rfl (leN rfl) ?_ ?_ rfl (ltN rfl) (fun sv19 cap19 => ?_); omega; omega)
    refine st (s_assign rfl) rfl ?_
    refine Run.nil ?_
    refine pn_block ?_
    refine pj_then ?_
    refine J_reg ?_
    refine st (s_move rfl) rfl ?_
    refine st (s_addN _ 1 rfl rfl (by omega)) rfl ?_
    refine st (s_assign rfl) rfl ?_
    refine Run.nil ?_
    refine pj_roundM ((i + 1, sv19, cap19)) (hi) (by omega) (by repeat (first | exact SubG.refl _ | exact SubG.nil | refine SubG.cons rfl (VT.le_refl _) ?_ | (refine SubG.cons rfl (one_le ?_) ?_; (congr 1; first | omega | (simp; omega) | simp)))) (.keep (rat_snoc (h := fun q => (f q : Rat)) rfl) (.nil))
  · have he : i = n := by omega
    subst he
    refine J_seq ?_
    refine J_seq ?_
    refine J_reg ?_
    refine st (s_move rfl) rfl ?_
    refine st (s_move rfl) rfl ?_
    refine st (s_len rfl) rfl ?_
    refine st (sF (by omega) (s_lt rfl rfl)) rfl ?_
    refine Run.nil ?_
    refine pj_then ?_
    refine J_cond0 rfl ?_
    refine J_exit ?_
    refine px_then ?_
    refine px_then ?_
    refine px_block ?_
    refine pj_then ?_
    refine J_seq ?_
    refine J_reg ?_
    refine st (s_move rfl) rfl ?_
    refine st (s_assign rfl) rfl ?_
    refine Run.nil ?_
    refine pj_then ?_
    refine J_ret ?_
    refine PJ_freeze (t := 2) (i := 0) rfl rfl ?_
    refine retc1 Tryz.results35 (.tmp rfl (VT.le_refl _))
end Tor
end

section
set_option linter.unusedVariables false
set_option linter.unusedSimpArgs false
namespace Tor
open Go Go.RowKit Go.Proofs
abbrev basF (l : List (Nat → Rat)) : Nat → Nat → Rat := fun k => l.getD k (fun _ => 0)
def newB (α : Nat) : Nat → Nat
  | 0 => α
  | k + 1 => redB α (newB α k) k
/-- What is known of the lists. -/
structure NewI (α c i : Nat) (s : List Nat × List (Nat → Rat)) : Prop where
  l1 : s.1.length = s.2.length
  l2 : s.2.length ≤ i
  b : ∀ k, k < s.2.length → firstQ (basF s.2 k) c < c ∧ ∀ j, qz (newB α s.2.length) (basF s.2 k j)
attribute [local irreducible] Tor.J Tor.PJ Tor.StepO Tor.one Tor.slT Tor.ptrT Tor.aggT Tor.tupT Tor.exT Tor.andT Tor.gT Tor.eP Tor.boxO Tor.sliO Tor.slV Tor.VT.le Tor.Ret Tor.anyT Tor.mapO Tor.metT Tor.xO
attribute [local irreducible] bigT ratT ratF rowF
end Tor
end

section
set_option linter.unusedVariables false
set_option linter.unusedSimpArgs false
namespace Tor.Lin
def DetI (n k : Nat) (F : Nat → Nat → Int) (R : Nat → Nat → Rat) (o : Rat) : Prop := det n (fun i j => (F i j : Rat)) = o * det (n - k) (fun i j => R (k + i) (k + j))
end Tor.Lin
end

section
set_option linter.unusedVariables false
set_option linter.unusedSimpArgs false
namespace Tor
open Go Go.RowKit Go.Proofs
def rdB (α : Nat) : Nat → Nat
  | 0 => α
  | k + 1 => 4 * rdB α k + 1
/-- The state of the reference's elimination. -/
structure RdI (α n k : Nat) (F : Nat → Nat → Int) (R : Nat → Nat → Rat) (o : Rat) : Prop where
  d : Lin.DetI n k F R o
  q : ∀ i j, qz (rdB α k) (R i j)
  o : qz (rdB α k) o
attribute [local irreducible] Tor.J Tor.PJ Tor.StepO Tor.one Tor.slT Tor.ptrT Tor.aggT Tor.tupT Tor.exT Tor.andT Tor.gT Tor.eP Tor.boxO Tor.sliO Tor.slV Tor.VT.le Tor.Ret Tor.anyT Tor.mapO Tor.metT Tor.xO
attribute [local irreducible] bigT ratT
end Tor
end

section
set_option linter.unusedVariables false
set_option linter.unusedSimpArgs false
namespace Tor
def eqS (r : Nat) (F : Nat → Nat → Int) (b : Nat → Int) : Nat → Nat → Int := fun j i => if i < r then F i j else if i = r then b j else if i = r + 1 + j then 1 else 0
def xsN (e : ElS) (r : Nat) : Nat → Nat → Rat
  | 0 => fun _ => 0
  | k + 1 => fun i => if i = e.piv.getD k 0 then Rat.divInt (e.R k r) (e.R k i) else xsN e r k i
end Tor
namespace Tor.Lin
theorem newL_sorted (r w : Nat) (F : Nat → Nat → Int) (n : Nat) : (newL r w F n).Pairwise (· < ·) := by
  unfold newL; exact List.Pairwise.filter _ List.pairwise_lt_range
theorem sorted_get {l : List Nat} (h : l.Pairwise (· < ·)) {i j : Nat} (hij : i < j) (hj : j < l.length) : l.getD i 0 < l.getD j 0 := by
  have := List.pairwise_iff_getElem.1 h i j (by omega) hj hij
  simpa [List.getD, show i < l.length by omega, hj] using this
theorem sm_app (n m : Nat) (f : Nat → Rat) : sm (n + m) f = sm n f + sm m (fun k => f (n + k)) := by
  induction m with
  | zero => show sm n f = sm n f + 0; grind
  | succ m ih => rw [← Nat.add_assoc, sm, sm, ih]; grind
theorem xs_sum {e : ElS} {r : Nat} {val : Nat → Rat} (hv : ∀ k, k < e.piv.length → Rat.divInt (e.R k r) (e.R k (pv e k)) = val k) (hs : e.piv.Pairwise (· < ·)) : ∀ p, p ≤ e.piv.length → ∀ i, xsN e r p i = sm p (fun k => if i = pv e k then val k else 0)
  | 0, _, i => rfl
  | p + 1, hp, i => by
    have ih := xs_sum hv hs p (by omega) i
    rw [sm, ← ih]
    show (if i = e.piv.getD p 0 then Rat.divInt (e.R p r) (e.R p i) else xsN e r p i) = _
    by_cases h : i = e.piv.getD p 0
    · rw [if_pos h, if_pos h, ih, sm_all0 (fun k hk => by
        rw [if_neg]
        have := sorted_get hs hk (by omega)
        show ¬ i = e.piv.getD k 0
        omega)]
      have h2 := hv p (by omega)
      have h2 : Rat.divInt (e.R p r) (e.R p (e.piv.getD p 0)) = val p := h2
      rw [h, h2]; grind
    · rw [if_neg h, if_neg h]; grind
theorem xs_out {e : ElS} {r : Nat} : ∀ p, p ≤ e.piv.length → ∀ i, i ∉ e.piv → xsN e r p i = 0
  | 0, _, i, _ => rfl
  | p + 1, hp, i, hi => by
    show (if i = e.piv.getD p 0 then Rat.divInt (e.R p r) (e.R p i) else xsN e r p i) = 0
    rw [if_neg (fun h => hi (by rw [h]; simp [List.getD, show p < e.piv.length by omega]))]
    exact xs_out p (by omega) i hi
theorem divInt_rat (a b : Int) : Rat.divInt a b = (a : Rat) / (b : Rat) := by
  rw [Rat.div_def]
  have h1 : (a : Rat) = Rat.divInt a 1 := by
    have := Rat.mkRat_self (a : Rat)
    rw [← Rat.divInt_ofNat, Rat.num_intCast, Rat.den_intCast] at this
    exact this.symm
  have h2 : ((b : Int) : Rat)⁻¹ = Rat.divInt 1 b := by rw [Rat.inv_def]; simp
  rw [h1, h2, Rat.divInt_mul_divInt, Int.mul_one, Int.one_mul]
variable {r c : Nat} {F : Nat → Nat → Int} {b : Nat → Int} {e : ElS} {A : Nat → Nat → Int} {V : Nat → Nat → Rat}
theorem EL.val (h : EL c (r + 1 + c) r true (eqS r F b) e A V) {k : Nat} (hk : k < e.piv.length) : Rat.divInt (e.R k r) (e.R k (pv e k)) = V k r := by
  have hp := h.gj.pr
  have hc := h.gj.pc k hk
  have hd := int_ne h.gj.d0
  rw [divInt_rat, h.gj.B3 k (by omega) r (by omega) (.inl rfl), h.gj.B3 k (by omega) (pv e k) (by omega) (.inl rfl), h.gj.V4 k hk k (by omega), if_pos rfl]
  grind
theorem EL.sorted (h : EL c (r + 1 + c) r true (eqS r F b) e A V) : e.piv.Pairwise (· < ·) := by rw [h.pl]; exact newL_sorted _ _ _ _
theorem EL.solves (h : EL c (r + 1 + c) r true (eqS r F b) e A V) (h0 : firstP e.R r e.piv.length c = none) {j : Nat} (hj : j < c) : sm r (fun i => xsN e r e.piv.length i * (F i j : Rat)) = (b j : Rat) := by
  have hz : ∀ q, e.piv.length ≤ q → q < c → e.R q r = 0 := by
    rcases el_cases e.R r e.piv.length c with h1 | ⟨i, h1, h2, h3, h4⟩
    · exact h1
    · rw [firstP_some h1 h2 h3 h4] at h0; cases h0
  have hd := int_ne h.gj.d0
  have hpc := h.gj.pc
  rw [sm_congr (g := fun i => sm e.piv.length (fun k => if i = pv e k then V k r * (F i j : Rat) else 0)) (fun i _ => by
    rw [xs_sum (fun k hk => h.val hk) h.sorted _ (Nat.le_refl _) i, ← sm_mulr]
    exact sm_congr fun k _ => by split <;> grind), sm_swap, sm_congr (g := fun k => V k r * (F (pv e k) j : Rat)) (fun k hk => sm_ite (hpc k hk) (fun i => V k r * (F i j : Rat)))]
  obtain ⟨i, hi, ei⟩ := h.p2 j hj
  have a2 := h.gj.A2 i hi r (by omega)
  have e1 : A i r = b j := by rw [ei]; unfold eqS; rw [if_neg (by omega), if_pos rfl]
  have e2 : ∀ k, k < e.piv.length → A i (pv e k) = F (pv e k) j := fun k hk => by rw [ei]; unfold eqS; rw [if_pos (hpc k hk)]
  have e3 : (if i < e.piv.length then 0 else V i r) = 0 := by
    split
    · rfl
    · have := h.gj.B3 i hi r (by omega) (.inl rfl)
      rw [hz i (by omega) hi] at this
      have h3 : ((0 : Int) : Rat) = 0 := rfl
      rw [h3] at this
      grind
  rw [e1, e3] at a2
  rw [a2, sm_congr (f := fun k => (A i (pv e k) : Rat) * V k r) (g := fun k => V k r * (F (pv e k) j : Rat)) (fun k hk => by rw [e2 k hk]; exact Rat.mul_comm _ _)]
  grind
theorem xs_new (h : EL c (r + 1 + c) r true (eqS r F b) e A V) {i : Nat} (hi : i ∉ newL c (r + 1 + c) (eqS r F b) r) : xsN e r e.piv.length i = 0 := xs_out _ (Nat.le_refl _) i (by rw [h.pl]; exact hi)
theorem EL.made (h : EL c (r + 1 + c) r true (eqS r F b) e A V) {q i0 : Nat} (hq : q < c) (hi : i0 ≤ r) (G : Nat → Int) (hG : ∀ j, j < c → eqS r F b j i0 = G j) : V q i0 = sm c (fun k => (G k : Rat) * V q (r + 1 + k)) := by
  have key : ∀ T : Nat → Rat, sm (r + 1 + c) (fun x => ((if x = i0 then 1 else 0) - (if r + 1 ≤ x then (G (x - (r + 1)) : Rat) else 0)) * T x) = T i0 - sm c (fun k => (G k : Rat) * T (r + 1 + k)) := fun T => by
    rw [sm_congr (g := fun x => (if x = i0 then T x else 0) - (if r + 1 ≤ x then (G (x - (r + 1)) : Rat) else 0) * T x) (fun x _ => by split <;> grind), sm_sub, sm_ite (by omega), sm_app]
    rw [sm_all0 (f := fun x => (if r + 1 ≤ x then (G (x - (r + 1)) : Rat) else 0) * T x) (fun x hx => by rw [if_neg (by omega)]; grind)]
    rw [sm_congr (f := fun k => (if r + 1 ≤ r + 1 + k then (G (r + 1 + k - (r + 1)) : Rat) else 0) * T (r + 1 + k)) (g := fun k => (G k : Rat) * T (r + 1 + k)) (fun k _ => by rw [if_pos (by omega), show r + 1 + k - (r + 1) = k by omega])]
    grind
  have z := h.gj.V6 (fun x => (if x = i0 then 1 else 0) - (if r + 1 ≤ x then (G (x - (r + 1)) : Rat) else 0)) (fun i hi' => by
    obtain ⟨j, hj, ej⟩ := h.p1 i hi'
    rw [key (fun x => (A i x : Rat)), ej, hG j hj]
    have e1 : sm c (fun k => (G k : Rat) * (eqS r F b j (r + 1 + k) : Rat)) = (G j : Rat) := by
      rw [sm_one hj (fun k hk hne => by
        have : eqS r F b j (r + 1 + k) = 0 := by unfold eqS; rw [if_neg (by omega), if_neg (by omega), if_neg (by omega)]
        rw [this]; exact Rat.mul_zero _)]
      have : eqS r F b j (r + 1 + j) = 1 := by unfold eqS; rw [if_neg (by omega), if_neg (by omega), if_pos rfl]
      rw [this]; exact Rat.mul_one _
    rw [e1]; grind) q hq
  rw [key (V q)] at z
  grind
theorem EL.alt (h : EL c (r + 1 + c) r true (eqS r F b) e A V) {q : Nat} (h0 : firstP e.R r e.piv.length c = some q) :
    (∀ i, i < r → sm c (fun k => Rat.divInt (e.R q (r + 1 + k)) (e.R q r) * (F i k : Rat)) = 0) ∧ sm c (fun k => (b k : Rat) * Rat.divInt (e.R q (r + 1 + k)) (e.R q r)) = 1 := by
  have hq : e.piv.length ≤ q ∧ q < c ∧ e.R q r ≠ 0 := by
    rcases el_cases e.R r e.piv.length c with h1 | ⟨i, h1, h2, h3, h4⟩
    · rw [firstP_none h1] at h0; cases h0
    · rw [firstP_some h1 h2 h3 h4] at h0; cases h0; exact ⟨h1, h2, h4⟩
  obtain ⟨h1, h2, h3⟩ := hq
  have hd := int_ne h.gj.d0
  have hb := h.gj.B3 q h2 r (by omega) (.inl rfl)
  have hv : V q r ≠ 0 := fun k => int_ne h3 (by rw [hb, k]; exact Rat.mul_zero _)
  have hy : ∀ k, k < c → Rat.divInt (e.R q (r + 1 + k)) (e.R q r) = V q (r + 1 + k) / V q r := fun k hk => by
    rw [divInt_rat, hb, h.gj.B3 q h2 (r + 1 + k) (by omega) (.inl rfl)]; grind
  refine ⟨fun i hi => ?_, ?_⟩
  · have m := h.made (i0 := i) h2 (by omega) (fun j => F i j) (fun j _ => by unfold eqS; rw [if_pos hi])
    rw [h.gj.V5 i hi q h1 h2] at m
    rw [sm_congr (g := fun k => (F i k : Rat) * V q (r + 1 + k) * (1 / V q r)) (fun k hk => by rw [hy k hk]; grind), sm_mulr, ← m]; grind
  · have m := h.made (i0 := r) h2 (Nat.le_refl _) b (fun j _ => by unfold eqS; rw [if_neg (by omega), if_pos rfl])
    rw [sm_congr (g := fun k => (b k : Rat) * V q (r + 1 + k) * (1 / V q r)) (fun k hk => by rw [hy k hk]; grind), sm_mulr, ← m]; grind
end Tor.Lin
end

section
set_option linter.unusedVariables false
set_option linter.unusedSimpArgs false
namespace Tor
open Go Go.RowKit Go.Proofs
theorem fill_rat {sv : Option Nat} {T : TypeId} {cap n j : Nat} {h : Nat → Rat} {x : Rat} (hx : x = h j) : Own.le (sliO sv T (.agg 4) cap n (upd (fun q => if q < j then ratT (h q) else fracT 0 0) j (ratT x))) (sliO sv T (.agg 4) cap n (fun q => if q < j + 1 then ratT (h q) else fracT 0 0)) := sliO_eq (fun q _ => by
  subst hx
  show (if q = j then ratT (h j) else (if q < j then ratT (h q) else fracT 0 0)) = _
  by_cases c : q = j
  · rw [if_pos c, if_pos (by omega), c]
  · rw [if_neg c]
    by_cases c2 : q < j
    · rw [if_pos c2, if_pos (by omega)]
    · rw [if_neg c2, if_neg (by omega)])
theorem zeroR_le : VT.le (one (.agg #[.bool false, .slice none 0 0, .bool false, .slice none 0 0])) (fracT 0 0) := by
  intro v h e
  have e : v = .agg #[.bool false, .slice none 0 0, .bool false, .slice none 0 0] := e
  subst e
  refine ⟨_, rfl, rfl, by simp [Value.oneCell'], fun q hq => ?_⟩
  rcases List.mem_cons.1 hq with rfl | hq
  · exact ⟨_, rfl, zeroB_le _ _ rfl⟩
  · rcases List.mem_cons.1 hq with rfl | hq
    · exact ⟨_, rfl, zeroB_le _ _ rfl⟩
    · cases hq
theorem el_pivne {r w c : Nat} {full : Bool} {A : Nat → Nat → Int} {e : ElS} {V : Nat → Nat → Rat} (h : Lin.GJ r w c full A e V) (hf : full = true) (hcw : c ≤ w) {k : Nat} (hk : k < e.piv.length) : e.R k (e.piv.getD k 0) ≠ 0 := by
  have h1 := h.pc k hk
  have h2 := h.B3 k (Nat.lt_of_lt_of_le hk h.pr) (e.piv.getD k 0) (Nat.lt_of_lt_of_le h1 hcw) (.inl hf)
  have h3 := h.V4 k hk k (Nat.lt_of_lt_of_le hk h.pr)
  rw [if_pos rfl] at h3
  have h3 : V k (e.piv.getD k 0) = 1 := h3
  rw [h3, Rat.mul_one] at h2
  intro h0
  rw [h0] at h2
  exact Lin.int_ne h.d0 h2.symm
attribute [local irreducible] Tor.J Tor.PJ Tor.StepO Tor.one Tor.slT Tor.ptrT Tor.aggT Tor.tupT Tor.exT Tor.andT Tor.gT Tor.eP Tor.boxO Tor.sliO Tor.slV Tor.VT.le Tor.Ret Tor.anyT Tor.mapO Tor.metT Tor.xO
attribute [local irreducible] bigT
set_option maxHeartbeats 4000000 in
theorem overM_ok (n : Nat) (f : Nat → Int) (d : Int) (hn : n ≤ 1048576) (hd : d ≠ 0) (hds : small d) (hf : ∀ i, i < n → small (f i)) : OkM (σ := Nat) Tryz.prog 49 [rowF n f, bigT d] (fun s => one (slV (some s) n n)) (fun s => [sliO (some s) 63 (.agg 4) n n (fun i => ratT (Rat.divInt (f i) d))]) := by
  unfold rowF
  refine OkM.enter Tryz.func49 rfl Tryz.ntmps49 rfl (fun w0 O => ?_)
  refine J_seq ?_
  refine J_reg ?_
  refine a_box rfl rfl (ltN rfl) (fun b3 => ?_)
  refine st (s_assign rfl) rfl ?_
  refine Run.nil ?_
  refine pj_then ?_
  refine J_seq ?_
  refine J_reg ?_
  refine st (s_move rfl) rfl ?_
  refine st (s_len rfl) rfl ?_
  refine a_makeSlice n n rfl rfl rfl rfl (Nat.le_refl _) rfl rfl (by omega) rfl rfl (fun bz => ?_)
  refine st (s_assign rfl) rfl ?_
  refine Run.nil ?_
  refine pj_then ?_
  refine J_seq ?_
  refine J_seq ?_
  refine J_reg ?_
  refine st (s_move rfl) rfl ?_
  refine st (s_len rfl) rfl ?_
  refine st (s_move rfl) rfl ?_
  refine Run.nil ?_
  refine pj_then ?_
  refine J_block ?_
  refine J_sub (Γ' := [(3, _), (4, _), (5, _), (11, _), (12, _), (13, _)]) (SubG.cons rfl (VT.le_refl _) (SubG.cons rfl (VT.le_refl _) (SubG.cons rfl (VT.le_refl _) (SubG.cons rfl (VT.le_refl _) (SubG.cons rfl (VT.le_refl _) (SubG.cons rfl (VT.le_refl _) (SubG.nil))))))) (SubM.refl _) ?_
  refine J_loopA (σ := Nat) (Γk := [(3, _), (4, _), (5, _), (11, _), (12, _)]) (SubG.cons rfl (VT.le_refl _) (SubG.cons rfl (VT.le_refl _) (SubG.cons rfl (VT.le_refl _) (SubG.cons rfl (VT.le_refl _) (SubG.cons rfl (VT.le_refl _) (SubG.nil)))))) (fun i => [(13, one (.int .i64 (i : Nat)))]) (fun i M0 => (M0.set 0 (sliO (some bz) 63 (.agg 4) n n (fun q => if q < i then ratT (Rat.divInt (f q) d) else fracT 0 0)))) (fun i => i ≤ n) (fun i => n - i) (0) (Nat.zero_le _) (by repeat (first | exact SubG.refl _ | exact SubG.nil | refine SubG.cons rfl (VT.le_refl _) ?_ | (refine SubG.cons rfl (one_le ?_) ?_; (congr 1; first | omega | (simp; omega) | simp)))) (.keep (sliO_le fun q hq => zeroR_le) (.keep (Own.le_refl _) (.nil))) (fun i hi => ?_)
  refine J_norm (Γ' := [(13, _), (3, _), (4, _), (5, _), (11, _), (12, _)]) (M' := [_, _]) rfl rfl ?_
  by_cases hc : i < n
  · have hq := qOf_ok (f i) d hd (hf i hc) hds
    refine J_seq ?_
    refine J_reg ?_
    refine st (sT (by omega) (s_lt rfl rfl)) rfl ?_
    refine Run.nil ?_
    refine pj_then ?_
    refine J_seq ?_
    refine J_cond1 rfl ?_
    refine J_skip ?_
    refine pj_then ?_
    refine J_seq ?_
    refine J_block ?_
    refine J_seq ?_
    refine J_reg ?_
    refine st (s_move rfl) rfl ?_
    refine st (s_indexIN rfl rfl (by omega)) rfl ?_
    refine st (s_load rfl) rfl ?_
    refine a_alloc (T := 43) rfl (ltN rfl) (fun b7 => ?_)
    refine st (s_assign rfl) rfl ?_
    refine a_storeB 0 rfl rfl rfl rfl rfl (leN rfl) rfl ?_
    refine Run.nil ?_
    refine pj_then ?_
    refine J_reg ?_
    refine st (s_move rfl) rfl ?_
    refine st (s_move rfl) rfl ?_
    refine st (s_loadB 0 rfl rfl rfl) rfl ?_
    refine st (s_loadB 2 rfl rfl rfl) rfl ?_
    refine st (s_callk (hq ) rfl ⟨VT.le_refl _, VT.le_refl _, trivial⟩) rfl ?_
    refine st (s_move rfl) rfl ?_
    refine st (s_extract rfl rfl) rfl ?_
    refine st (s_extract rfl rfl) rfl ?_
    refine st (s_indexON rfl rfl (by omega)) rfl ?_
    (refine a_storeE 1 rfl rfl rfl ?_ rfl ?_; omega)
    refine Run.nil ?_
    refine pn_block ?_
    refine pj_then ?_
    refine J_reg ?_
    refine st (s_addN _ 1 rfl rfl (by omega)) rfl ?_
    refine st (s_move rfl) rfl ?_
    refine Run.nil ?_
    refine pj_roundM (i + 1) (hc) (by omega) (by repeat (first | exact SubG.refl _ | exact SubG.nil | refine SubG.cons rfl (VT.le_refl _) ?_ | (refine SubG.cons rfl (one_le ?_) ?_; (congr 1; first | omega | (simp; omega) | simp)))) (.drop (.keep (fill_rat (h := fun q => Rat.divInt (f q) d) rfl) (.keep (Own.le_refl _) (.nil))))
  · have he : i = n := by omega
    subst he
    refine J_seq ?_
    refine J_reg ?_
    refine st (sF (by omega) (s_lt rfl rfl)) rfl ?_
    refine Run.nil ?_
    refine pj_then ?_
    refine J_seq ?_
    refine J_cond0 rfl ?_
    refine J_exit ?_
    refine px_then ?_
    refine px_then ?_
    refine px_block ?_
    refine pj_then ?_
    refine J_seq ?_
    refine J_reg ?_
    refine st (s_move rfl) rfl ?_
    refine st (s_assign rfl) rfl ?_
    refine Run.nil ?_
    refine pj_then ?_
    refine J_ret ?_
    exact retM1 (σ := Nat) (ψ := fun s => one (slV (some s) i i)) (Ms := fun s => [sliO (some s) 63 (.agg 4) i i (fun i => ratT (Rat.divInt (f i) d))]) bz Tryz.results49 (.tmp rfl (VT.le_refl _)) (.keep (sliO_eq fun q hq => by rw [if_pos hq]) (.drop .nil))
theorem over_ok (n : Nat) (f : Nat → Int) (d : Int) (hn : n ≤ 1048576) (hd : d ≠ 0) (hds : small d) (hf : ∀ i, i < n → small (f i)) : Ok Tryz.prog 49 [rowF n f, bigT d] (slT (.agg 4) n (fun i => ratT (Rat.divInt (f i) d))) :=
  (overM_ok n f d hn hd hds hf).ok fun s => Ent.sl List.mem_cons_self
theorem eqS_row {r j : Nat} {F : Nat → Nat → Int} {b : Nat → Int} (q : Nat) : upd (upd (fun q => bigT (if q < r then F q j else 0)) r (bigT (b j))) (r + 1 + j) (bigT 1) q = bigT (eqS r F b j q) := by
  show (if q = r + 1 + j then bigT 1 else (if q = r then bigT (b j) else bigT (if q < r then F q j else 0))) = _
  unfold eqS
  by_cases h1 : q = r + 1 + j
  · rw [if_pos h1, if_neg (by omega), if_neg (by omega), if_pos h1]
  · rw [if_neg h1]
    by_cases h2 : q = r
    · rw [if_pos h2, if_neg (by omega), if_pos h2]
    · rw [if_neg h2]
      by_cases h3 : q < r
      · rw [if_pos h3, if_pos h3]
      · rw [if_neg h3, if_neg h3, if_neg h2, if_neg h1]
theorem eqS_open {Ms : Mem} {sv bl : Option Nat} {T T' : TypeId} {c j r n capl : Nat} {F : Nat → Nat → Int} {b : Nat → Int} (hm : sliO bl T' (.agg 2) capl n (upd (upd (fun q => bigT (if q < r then F q j else 0)) r (bigT (b j))) (r + 1 + j) (bigT 1)) ∈ Ms) :
    EntO Ms (sliO sv T .one c c (upd (fun q => if q < j then rowF n (eqS r F b q) else one (.slice none 0 0)) j (one (slV bl n capl)))) (sliO sv T .one c c (fun q => if q < j + 1 then rowF n (eqS r F b q) else one (.slice none 0 0))) := EntO.sl fun q _ => by
  show Ent Ms (if q = j then one (slV bl n capl) else (if q < j then rowF n (eqS r F b q) else one (.slice none 0 0))) (if q < j + 1 then rowF n (eqS r F b q) else one (.slice none 0 0))
  by_cases h1 : q = j
  · rw [if_pos h1, if_pos (by omega), h1]
    exact Ent.slE hm fun k _ => Ent.le (le_eq (eqS_row k))
  · rw [if_neg h1]
    by_cases h2 : q < j
    · rw [if_pos h2, if_pos (by omega)]; exact Ent.refl _
    · rw [if_neg h2, if_neg (by omega)]; exact Ent.refl _
theorem lz_eqS {n r : Nat} {F : Nat → Nat → Int} {b : Nat → Int} (hn : 1 ≤ n) (hF : ∀ i j, lz n (F i j)) (hb : ∀ j, lz n (b j)) : ∀ i j, lz n (eqS r F b i j) := fun i j => by
  unfold eqS; split
  · exact hF _ _
  · split
    · exact hb _
    · split
      · exact lz_one hn
      · exact lz_zero _
theorem small_of_elim {n r : Nat} (he : elim0 n r) : n ≤ 1099511627700 := by
  have h1 := he.2
  have h2 : 1 ≤ 2 ^ r := Nat.one_le_two_pow
  have h3 := Nat.mul_le_mul_left (n + 1) h2
  omega
theorem fill_xs {sv : Option Nat} {T : TypeId} {cap n k r : Nat} {e : ElS} : Own.le (sliO sv T (.agg 4) cap n (upd (fun i => ratT (xsN e r k i)) (e.piv.getD k 0) (ratT (Rat.divInt (e.R k r) (e.R k (e.piv.getD k 0)))))) (sliO sv T (.agg 4) cap n (fun i => ratT (xsN e r (k + 1) i))) := sliO_eq fun q _ => by
  show (if q = e.piv.getD k 0 then ratT _ else ratT (xsN e r k q)) = ratT (if q = e.piv.getD k 0 then Rat.divInt (e.R k r) (e.R k q) else xsN e r k q)
  by_cases h : q = e.piv.getD k 0
  · rw [if_pos h, if_pos h, h]
  · rw [if_neg h, if_neg h]
set_option maxHeartbeats 4000000 in
theorem Solve_ok (r c : Nat) (F : Nat → Nat → Int) (b : Nat → Int) (n : Nat) (hr : r ≤ 1024) (hc : c ≤ 1024) (he : elim0 n c) (hF : ∀ i j, lz n (F i j)) (hb : ∀ j, lz n (b j)) : Ok Tryz.prog 13 [matF r c F, rowF c b]
    (match firstP (elN c true (eqS r F b) r).R r (elN c true (eqS r F b) r).piv.length c with
      | some q => tupT [slT (.agg 4) 0 (fun _ => ratT 0), slT (.agg 4) c (fun k => ratT (Rat.divInt ((elN c true (eqS r F b) r).R q (r + 1 + k)) ((elN c true (eqS r F b) r).R q r))), one (.bool false)]
      | none => tupT [slT (.agg 4) r (fun i => ratT (xsN (elN c true (eqS r F b) r) r (elN c true (eqS r F b) r).piv.length i)), slT (.agg 4) 0 (fun _ => ratT 0), one (.bool true)]) := by
  have hv := matValidF_ok r c F
  have h1 := Of_ok 1 (by decide) (by decide)
  unfold matF rowF at *
  refine Ok.enter Tryz.func13 rfl Tryz.ntmps13 rfl (fun w0 O => ?_)
  refine J_seq ?_
  refine J_reg ?_
  refine a_boxS rfl rfl (ltN rfl) (fun b2 => ?_)
  refine st (s_assign rfl) rfl ?_
  refine st (s_assign rfl) rfl ?_
  refine st (s_assign rfl) rfl ?_
  refine Run.nil ?_
  refine pj_then ?_
  refine J_seq ?_
  refine J_seq ?_
  refine J_reg ?_
  refine st (s_loadW 0 rfl rfl) rfl ?_
  refine st (s_callk (hv ) rfl ⟨VT.le_refl _, trivial⟩) rfl ?_
  refine st (s_not rfl) rfl ?_
  refine st (s_move rfl) rfl ?_
  refine sg1 rfl rfl (s_move rfl) rfl ?_
  refine sg1 rfl rfl (s_len rfl) rfl ?_
  refine sg1 rfl rfl (s_fieldAddr rfl) rfl ?_
  refine sg1 rfl rfl (s_loadB 0 rfl rfl rfl) rfl ?_
  refine sg1 rfl rfl (sF (by omega) (s_ne rfl rfl)) rfl ?_
  refine st (s_pickF rfl rfl) rfl ?_
  refine Run.nil ?_
  refine pj_then ?_
  refine J_cond0 rfl ?_
  refine J_skip ?_
  refine pj_then ?_
  refine J_seq ?_
  refine J_reg ?_
  refine st (s_fieldAddr rfl) rfl ?_
  refine st (s_loadB 0 rfl rfl rfl) rfl ?_
  refine a_makeSlice c c rfl rfl rfl rfl (Nat.le_refl _) rfl rfl (by omega) rfl rfl (fun bo => ?_)
  refine st (s_assign rfl) rfl ?_
  refine Run.nil ?_
  refine pj_then ?_
  refine J_seq ?_
  refine J_seq ?_
  refine J_reg ?_
  refine st (s_move rfl) rfl ?_
  refine st (s_lenO rfl) rfl ?_
  refine st (s_move rfl) rfl ?_
  refine Run.nil ?_
  refine pj_then ?_
  refine J_block ?_
  refine J_sub (Γ' := [(1, _), (2, _), (4, _), (5, _), (6, _), (7, _), (32, _), (33, _)]) (SubG.cons rfl (VT.le_refl _) (SubG.cons rfl (VT.le_refl _) (SubG.cons rfl (VT.le_refl _) (SubG.cons rfl (VT.le_refl _) (SubG.cons rfl (VT.le_refl _) (SubG.cons rfl (VT.le_refl _) (SubG.cons rfl (VT.le_refl _) (SubG.cons rfl (VT.le_refl _) (SubG.nil))))))))) (SubM.refl _) ?_
  refine J_loopA (σ := Nat) (Γk := [(1, _), (2, _), (4, _), (5, _), (6, _), (7, _), (32, _)]) (SubG.cons rfl (VT.le_refl _) (SubG.cons rfl (VT.le_refl _) (SubG.cons rfl (VT.le_refl _) (SubG.cons rfl (VT.le_refl _) (SubG.cons rfl (VT.le_refl _) (SubG.cons rfl (VT.le_refl _) (SubG.cons rfl (VT.le_refl _) (SubG.nil)))))))) (fun j => [(33, one (.int .i64 (j : Nat)))]) (fun j M0 => (M0.set 0 (sliO (some bo) 30 .one c c (fun q => if q < j then rowF (r + 1 + c) (eqS r F b q) else one (.slice none 0 0))))) (fun j => j ≤ c) (fun j => c - j) (0) (Nat.zero_le _) (by repeat (first | exact SubG.refl _ | exact SubG.nil | refine SubG.cons rfl (VT.le_refl _) ?_ | (refine SubG.cons rfl (one_le ?_) ?_; (congr 1; first | omega | (simp; omega) | simp)))) (.keep (Own.le_refl _) (.keep (Own.le_refl _) (.nil))) (fun j hj => ?_)
  refine J_norm (Γ' := [(33, _), (1, _), (2, _), (4, _), (5, _), (6, _), (7, _), (32, _)]) (M' := [_, _]) rfl rfl ?_
  by_cases hj : j < c
  · refine J_seq ?_
    refine J_reg ?_
    refine st (sT (by omega) (s_lt rfl rfl)) rfl ?_
    refine Run.nil ?_
    refine pj_then ?_
    refine J_seq ?_
    refine J_cond1 rfl ?_
    refine J_skip ?_
    refine pj_then ?_
    refine J_seq ?_
    refine J_block ?_
    refine J_seq ?_
    refine J_reg ?_
    refine st (s_move rfl) rfl ?_
    refine st (s_assign rfl) rfl ?_
    refine Run.nil ?_
    refine pj_then ?_
    refine J_seq ?_
    refine J_reg ?_
    refine st (s_fieldAddr rfl) rfl ?_
    refine st (s_loadB 1 rfl rfl rfl) rfl ?_
    refine st (s_addN _ 1 rfl rfl (by omega)) rfl ?_
    refine st (s_fieldAddr rfl) rfl ?_
    refine st (s_loadB 1 rfl rfl rfl) rfl ?_
    refine st (s_addN _ _ rfl rfl (by omega)) rfl ?_
    refine a_makeSlice (r + 1 + c) (r + 1 + c) rfl rfl (by simp) (by simp) (Nat.le_refl _) rfl rfl (by omega) rfl rfl (fun bl => ?_)
    refine st (s_assign rfl) rfl ?_
    refine Run.nil ?_
    refine pj_then ?_
    refine J_seq ?_
    refine J_seq ?_
    refine J_reg ?_
    refine st (s_fieldAddr rfl) rfl ?_
    refine st (s_loadB 2 rfl rfl rfl) rfl ?_
    refine st (s_len rfl) rfl ?_
    refine st (s_move rfl) rfl ?_
    refine Run.nil ?_
    refine pj_then ?_
    refine J_block ?_
    refine J_sub (Γ' := [(1, _), (2, _), (4, _), (5, _), (6, _), (7, _), (8, _), (9, _), (32, _), (33, _), (44, _), (45, _), (46, _)]) (SubG.cons rfl (VT.le_refl _) (SubG.cons rfl (VT.le_refl _) (SubG.cons rfl (VT.le_refl _) (SubG.cons rfl (VT.le_refl _) (SubG.cons rfl (VT.le_refl _) (SubG.cons rfl (VT.le_refl _) (SubG.cons rfl (VT.le_refl _) (SubG.cons rfl (VT.le_refl _) (SubG.cons rfl (VT.le_refl _) (SubG.cons rfl (VT.le_refl _) (SubG.cons rfl (VT.le_refl _) (SubG.cons rfl (VT.le_refl _) (SubG.cons rfl (VT.le_refl _) (SubG.nil)))))))))))))) (SubM.refl _) ?_
    refine J_loopA (σ := Nat) (Γk := [(1, _), (2, _), (4, _), (5, _), (6, _), (7, _), (8, _), (9, _), (32, _), (33, _), (44, _), (45, _)]) (SubG.cons rfl (VT.le_refl _) (SubG.cons rfl (VT.le_refl _) (SubG.cons rfl (VT.le_refl _) (SubG.cons rfl (VT.le_refl _) (SubG.cons rfl (VT.le_refl _) (SubG.cons rfl (VT.le_refl _) (SubG.cons rfl (VT.le_refl _) (SubG.cons rfl (VT.le_refl _) (SubG.cons rfl (VT.le_refl _) (SubG.cons rfl (VT.le_refl _) (SubG.cons rfl (VT.le_refl _) (SubG.cons rfl (VT.le_refl _) (SubG.nil))))))))))))) (fun i => [(46, one (.int .i64 (i : Nat)))]) (fun i M0 => (M0.set 0 (sliO (some bl) 43 (.agg 2) (r + 1 + c) (r + 1 + c) (fun q => bigT (if q < i then F q j else 0))))) (fun i => i ≤ r) (fun i => r - i) (0) (Nat.zero_le _) (by repeat (first | exact SubG.refl _ | exact SubG.nil | refine SubG.cons rfl (VT.le_refl _) ?_ | (refine SubG.cons rfl (one_le ?_) ?_; (congr 1; first | omega | (simp; omega) | simp)))) (.keep (sliO_le fun q hq => zero_big) (.keep (Own.le_refl _) (.keep (Own.le_refl _) (.nil)))) (fun i hi => ?_)
    refine J_norm (Γ' := [(46, _), (1, _), (2, _), (4, _), (5, _), (6, _), (7, _), (8, _), (9, _), (32, _), (33, _), (44, _), (45, _)]) (M' := [_, _, _]) rfl rfl ?_
    by_cases hi : i < r
    · refine J_seq ?_
      refine J_reg ?_
      refine st (sT (by omega) (s_lt rfl rfl)) rfl ?_
      refine Run.nil ?_
      refine pj_then ?_
      refine J_seq ?_
      refine J_cond1 rfl ?_
      refine J_skip ?_
      refine pj_then ?_
      refine J_seq ?_
      refine J_block ?_
      refine J_seq ?_
      refine J_reg ?_
      refine st (s_move rfl) rfl ?_
      refine st (s_indexIN rfl rfl (by omega)) rfl ?_
      refine st (s_load rfl) rfl ?_
      refine st (s_assign rfl) rfl ?_
      refine st (s_assign rfl) rfl ?_
      refine Run.nil ?_
      refine pj_then ?_
      refine J_reg ?_
      refine st (s_move rfl) rfl ?_
      refine st (s_move rfl) rfl ?_
      refine st (s_move rfl) rfl ?_
      refine st (s_move rfl) rfl ?_
      refine st (s_indexIN rfl rfl (by omega)) rfl ?_
      refine st (s_load rfl) rfl ?_
      refine st (s_indexON rfl rfl (by omega)) rfl ?_
      (refine a_storeE 0 rfl rfl rfl ?_ rfl ?_; omega)
      refine Run.nil ?_
      refine pn_block ?_
      refine pj_then ?_
      refine J_reg ?_
      refine st (s_addN _ 1 rfl rfl (by omega)) rfl ?_
      refine st (s_move rfl) rfl ?_
      refine Run.nil ?_
      refine pj_roundM (i + 1) (hi) (by omega) (by repeat (first | exact SubG.refl _ | exact SubG.nil | refine SubG.cons rfl (VT.le_refl _) ?_ | (refine SubG.cons rfl (one_le ?_) ?_; (congr 1; first | omega | (simp; omega) | simp)))) (.keep (fill_row (h := fun q => F q j) rfl) (.keep (Own.le_refl _) (.keep (Own.le_refl _) (.nil))))
    · have hir : i = r := by omega
      subst hir
      refine J_seq ?_
      refine J_reg ?_
      refine st (sF (by omega) (s_lt rfl rfl)) rfl ?_
      refine Run.nil ?_
      refine pj_then ?_
      refine J_seq ?_
      refine J_cond0 rfl ?_
      refine J_exit ?_
      refine px_then ?_
      refine px_then ?_
      refine px_block ?_
      refine pj_then ?_
      refine J_seq ?_
      refine J_regd 7 mixed (by kernel_rfl) (by decide) ?_
      refine st (s_move rfl) rfl ?_
      refine st (s_fieldAddr rfl) rfl ?_
      refine st (s_loadB 2 rfl rfl rfl) rfl ?_
      refine st (s_move rfl) rfl ?_
      refine st (s_move rfl) rfl ?_
      refine st (s_indexIN rfl rfl (by omega)) rfl ?_
      refine st (s_load rfl) rfl ?_
      refine Run.nil ?_
      refine st (s_indexON rfl rfl (by omega)) rfl ?_
      (refine a_storeE 0 rfl rfl rfl ?_ rfl ?_; omega)
      refine Run.nil ?_
      refine pj_then ?_
      refine J_seq ?_
      refine J_regd 7 mixed (by kernel_rfl) (by decide) ?_
      refine st (s_move rfl) rfl ?_
      refine st (s_fieldAddr rfl) rfl ?_
      refine st (s_loadB 2 rfl rfl rfl) rfl ?_
      refine st (s_addN _ 1 rfl rfl (by omega)) rfl ?_
      refine st (s_move rfl) rfl ?_
      refine st (s_addN _ _ rfl rfl (by omega)) rfl ?_
      refine st (s_callk (h1 ) rfl ⟨VT.le_refl _, trivial⟩) rfl ?_
      refine Run.nil ?_
      refine st (s_indexON rfl rfl (by omega)) rfl ?_
      (refine a_storeE 0 rfl rfl rfl ?_ rfl ?_; omega)
      refine Run.nil ?_
      refine pj_then ?_
      refine J_reg ?_
      refine st (s_move rfl) rfl ?_
      refine st (s_move rfl) rfl ?_
      refine st (s_move rfl) rfl ?_
      refine st (s_indexON rfl rfl (by omega)) rfl ?_
      (refine a_storeE 1 rfl rfl rfl ?_ rfl ?_; omega)
      refine Run.nil ?_
      refine pn_block ?_
      refine pj_then ?_
      refine J_reg ?_
      refine st (s_addN _ 1 rfl rfl (by omega)) rfl ?_
      refine st (s_move rfl) rfl ?_
      refine Run.nil ?_
      refine PJ_open [_] (List.Perm.refl _) (.keep (eqS_open List.mem_cons_self) (EntM.refl _)) (EntG.refl _) ?_
      refine pj_roundM (j + 1) (hj) (by omega) (by repeat (first | exact SubG.refl _ | exact SubG.nil | refine SubG.cons rfl (VT.le_refl _) ?_ | (refine SubG.cons rfl (one_le ?_) ?_; (congr 1; first | omega | (simp; omega) | simp)))) (.keep (Own.le_refl _) (.keep (Own.le_refl _) (.nil)))
  · have hjc : j = c := by omega
    subst hjc
    have hS := lz_eqS (r := r) he.1 hF hb
    have hru := runR_ok j (r + 1 + j) r (eqS r F b) true n (by omega) (by omega) (by omega) he.1 he.b hS
    obtain ⟨A, V, hE⟩ := Lin.elN_EL j (r + 1 + j) true (eqS r F b) r (by omega)
    have hok := elN_ok (r := j) true he.1 hS r
    have hpr := hE.gj.pr
    have hpc := hE.gj.pc
    generalize elN j true (eqS r F b) r = e at *
    unfold elimT at hru
    refine J_open [_] (List.Perm.refl _) (EntM.refl _) (EntG.set (t := 7) (ψ := slT .one j (fun q => if q < j then rowF (r + 1 + j) (eqS r F b q) else one (.slice none 0 0))) rfl (Ent.sl List.mem_cons_self)) ?_
    refine J_seq ?_
    refine J_reg ?_
    refine st (sF (by omega) (s_lt rfl rfl)) rfl ?_
    refine Run.nil ?_
    refine pj_then ?_
    refine J_seq ?_
    refine J_cond0 rfl ?_
    refine J_exit ?_
    refine px_then ?_
    refine px_then ?_
    refine px_block ?_
    refine pj_then ?_
    refine J_seq ?_
    refine J_reg ?_
    refine st (s_move rfl) rfl ?_
    refine st (s_fieldAddr rfl) rfl ?_
    refine st (s_loadB 0 rfl rfl rfl) rfl ?_
    refine st (s_callk (hru ) rfl ⟨((slT_le fun q hq => le_eq (by rw [if_pos hq]))), VT.le_refl _, VT.le_refl _, trivial⟩) rfl ?_
    refine st (s_assign rfl) rfl ?_
    refine Run.nil ?_
    refine pj_then ?_
    refine J_seq ?_
    refine J_seq ?_
    refine J_regd 13 mixed (by kernel_rfl) (by decide) ?_
    refine st (s_move rfl) rfl ?_
    refine st (s_nilCheckI rfl) rfl ?_
    refine st (s_fieldI rfl rfl) rfl ?_
    refine st (s_fieldI rfl rfl) rfl ?_
    refine st (s_load rfl) rfl ?_
    refine st (s_move rfl) rfl ?_
    refine st (s_nilCheckI rfl) rfl ?_
    refine st (s_fieldI rfl rfl) rfl ?_
    refine st (s_load rfl) rfl ?_
    refine st (s_len rfl) rfl ?_
    refine st (s_slice rfl rfl rfl rfl (fun h => nomatch h) (by omega) (by omega) (by omega) (by omega)) rfl ?_
    refine st (s_len rfl) rfl ?_
    refine st (s_move rfl) rfl ?_
    refine Run.nil ?_
    refine Run.nil ?_
    refine pj_then ?_
    refine J_block ?_
    refine J_retype (t := 95) (ψ := one (.int .i64 ((j - e.piv.length : Nat) : Int))) rfl (one_le (by congr 1; omega)) ?_
    refine J_retype (t := 94) (ψ := slT .one (j - e.piv.length) (fun t => slT (.agg 2) (r + 1 + j) (fun k => bigT (e.R (e.piv.length + t) k)))) rfl (slT_le' (by omega) (fun q hq => by rw [Int.toNat_natCast]; rfl)) ?_
    refine J_sub (Γ' := [(2, _), (4, _), (5, _), (6, _), (12, _), (94, _), (95, _), (96, _)]) (SubG.cons rfl (VT.le_refl _) (SubG.cons rfl (VT.le_refl _) (SubG.cons rfl (VT.le_refl _) (SubG.cons rfl (VT.le_refl _) (SubG.cons rfl (VT.le_refl _) (SubG.cons rfl (VT.le_refl _) (SubG.cons rfl (VT.le_refl _) (SubG.cons rfl (VT.le_refl _) (SubG.nil))))))))) (SubM.refl _) ?_
    refine J_loopA (σ := Nat) (Γk := [(2, _), (12, _), (94, _), (95, _)]) (SubG.cons rfl (VT.le_refl _) (SubG.cons rfl (VT.le_refl _) (SubG.cons rfl (VT.le_refl _) (SubG.cons rfl (VT.le_refl _) (SubG.nil))))) (fun t => [(96, one (.int .i64 (t : Nat)))]) (fun t M0 => M0) (fun t => t ≤ j - e.piv.length ∧ ∀ q, e.piv.length ≤ q → q < e.piv.length + t → e.R q r = 0) (fun t => j - e.piv.length - t) (0) (⟨Nat.zero_le _, fun q h1 h2 => absurd h2 (by omega)⟩) (by repeat (first | exact SubG.refl _ | exact SubG.nil | refine SubG.cons rfl (VT.le_refl _) ?_ | (refine SubG.cons rfl (one_le ?_) ?_; (congr 1; first | omega | (simp; omega) | simp)))) (.keep (Own.le_refl _) (.nil)) (fun t ht => ?_)
    refine J_norm (Γ' := [(96, _), (2, _), (12, _), (94, _), (95, _)]) (M' := [_]) rfl rfl ?_
    obtain ⟨ht, hz⟩ := ht
    by_cases htj : t < j - e.piv.length
    · have hsg := sgnI_zero (e.R (e.piv.length + t) r)
      by_cases h0 : e.R (e.piv.length + t) r = 0
      · have hs0 := hsg.2 h0
        refine J_seq ?_
        refine J_reg ?_
        refine st (sT (by omega) (s_lt rfl rfl)) rfl ?_
        refine Run.nil ?_
        refine pj_then ?_
        refine J_seq ?_
        refine J_cond1 rfl ?_
        refine J_skip ?_
        refine pj_then ?_
        refine J_seq ?_
        refine J_block ?_
        refine J_seq ?_
        refine J_reg ?_
        refine st (s_indexIN rfl rfl (by omega)) rfl ?_
        refine st (s_load rfl) rfl ?_
        refine st (s_assign rfl) rfl ?_
        refine Run.nil ?_
        refine pj_then ?_
        refine J_seq ?_
        refine J_reg ?_
        refine st (s_move rfl) rfl ?_
        refine st (s_fieldAddr rfl) rfl ?_
        refine st (s_loadB 0 rfl rfl rfl) rfl ?_
        refine st (s_indexIN rfl rfl (by omega)) rfl ?_
        refine st (s_load rfl) rfl ?_
        refine st (s_callk (SignI_ok _) rfl ⟨VT.le_refl _, trivial⟩) rfl ?_
        refine st (sF (by omega) (s_ne rfl rfl)) rfl ?_
        refine Run.nil ?_
        refine pj_then ?_
        refine J_cond0 rfl ?_
        refine J_skip ?_
        refine pn_block ?_
        refine pj_then ?_
        refine J_reg ?_
        refine st (s_addN _ 1 rfl rfl (by omega)) rfl ?_
        refine st (s_move rfl) rfl ?_
        refine Run.nil ?_
        refine pj_roundM (t + 1) (⟨htj, fun q h1 h2 => by by_cases h3 : q = e.piv.length + t; exact h3 ▸ h0; exact hz q h1 (by omega)⟩) (by omega) (by repeat (first | exact SubG.refl _ | exact SubG.nil | refine SubG.cons rfl (VT.le_refl _) ?_ | (refine SubG.cons rfl (one_le ?_) ?_; (congr 1; first | omega | (simp; omega) | simp)))) (.keep (Own.le_refl _) (.nil))
      · have hs0 : sgnI (e.R (e.piv.length + t) r) ≠ 0 := fun h => h0 (hsg.1 h)
        have hov := over_ok j (fun k => e.R (e.piv.length + t) (r + 1 + k)) (e.R (e.piv.length + t) r) (by omega) h0 ((he.lz hok (hok.R _ _)).small (by decide)) (fun i _ => (he.lz hok (hok.R _ _)).small (by decide))
        unfold rowF at hov
        rw [firstP_some (by omega) (by omega) hz h0]
        dsimp only
        refine J_seq ?_
        refine J_reg ?_
        refine st (sT (by omega) (s_lt rfl rfl)) rfl ?_
        refine Run.nil ?_
        refine pj_then ?_
        refine J_seq ?_
        refine J_cond1 rfl ?_
        refine J_skip ?_
        refine pj_then ?_
        refine J_seq ?_
        refine J_block ?_
        refine J_seq ?_
        refine J_reg ?_
        refine st (s_indexIN rfl rfl (by omega)) rfl ?_
        refine st (s_load rfl) rfl ?_
        refine st (s_assign rfl) rfl ?_
        refine Run.nil ?_
        refine pj_then ?_
        refine J_seq ?_
        refine J_reg ?_
        refine st (s_move rfl) rfl ?_
        refine st (s_fieldAddr rfl) rfl ?_
        refine st (s_loadB 0 rfl rfl rfl) rfl ?_
        refine st (s_indexIN rfl rfl (by omega)) rfl ?_
        refine st (s_load rfl) rfl ?_
        refine st (s_callk (SignI_ok _) rfl ⟨VT.le_refl _, trivial⟩) rfl ?_
        refine st (sT (by assumption) (s_ne rfl rfl)) rfl ?_
        refine Run.nil ?_
        refine pj_then ?_
        refine J_cond1 rfl ?_
        refine J_seq ?_
        refine J_regd 12 mixed (by kernel_rfl) (by decide) ?_
        refine st (s_move rfl) rfl ?_
        refine st (s_fieldAddr rfl) rfl ?_
        refine st (s_loadB 0 rfl rfl rfl) rfl ?_
        refine st (s_addN _ 1 rfl rfl (by omega)) rfl ?_
        refine st (s_slice rfl rfl rfl rfl (fun h => nomatch h) (by omega) (by omega) (by omega) (by omega)) rfl ?_
        refine st (s_move rfl) rfl ?_
        refine st (s_fieldAddr rfl) rfl ?_
        refine st (s_loadB 0 rfl rfl rfl) rfl ?_
        refine st (s_indexIN rfl rfl (by omega)) rfl ?_
        refine st (s_load rfl) rfl ?_
        refine st (s_callk (hov ) rfl ⟨((slT_le' (by omega) (fun q hq => by rw [Int.toNat_natCast]))), VT.le_refl _, trivial⟩) rfl ?_
        refine st (s_assign rfl) rfl ?_
        refine Run.nil ?_
        refine st (s_assign rfl) rfl ?_
        refine st (s_assign rfl) rfl ?_
        refine Run.nil ?_
        refine pj_then ?_
        refine J_ret ?_
        refine pr_block ?_
        refine pr_then ?_
        refine pr_then ?_
        refine pr_block ?_
        refine pr_then ?_
        refine retc3 Tryz.results13 (.tmp rfl (nil_slT)) (.tmp rfl (VT.le_refl _)) (.tmp rfl (VT.le_refl _))
    · rw [firstP_none (fun q h1 h2 => hz q h1 (by omega))]
      dsimp only
      have hz1 := overM_ok r (fun _ => 0) 1 (by omega) (by decide) small_one (fun _ _ => small_zero)
      unfold rowF at hz1
      refine J_seq ?_
      refine J_reg ?_
      refine st (sF (by omega) (s_lt rfl rfl)) rfl ?_
      refine Run.nil ?_
      refine pj_then ?_
      refine J_seq ?_
      refine J_cond0 rfl ?_
      refine J_exit ?_
      refine px_then ?_
      refine px_then ?_
      refine px_block ?_
      refine pj_then ?_
      refine J_seq ?_
      refine J_regdT 4 mixed (by kernel_rfl) (by decide) ?_
      refine st (s_fieldAddr rfl) rfl ?_
      refine st (s_loadB 0 rfl rfl rfl) rfl ?_
      refine st (s_makeZ r rfl rfl rfl rfl rfl rfl (by omega)) rfl ?_
      skip
      refine st (s_callk h1 rfl ⟨VT.le_refl _, trivial⟩) rfl ?_
      refine Run.nil ?_
      refine a_callM hz1 rfl (And.intro (slT_le fun q hq => zeroB_le) (And.intro (VT.le_refl _) trivial)) rfl rfl (fun bx => ?_)
      refine st (s_assign rfl) rfl ?_
      refine Run.nil ?_
      refine pj_then ?_
      refine J_seq ?_
      refine J_seq ?_
      refine J_reg ?_
      refine st (s_move rfl) rfl ?_
      refine st (s_nilCheckI rfl) rfl ?_
      refine st (s_fieldI rfl rfl) rfl ?_
      refine st (s_load rfl) rfl ?_
      refine st (s_len rfl) rfl ?_
      refine st (s_move rfl) rfl ?_
      refine Run.nil ?_
      refine pj_then ?_
      refine J_block ?_
      refine J_sub (Γ' := [(2, _), (12, _), (15, _), (127, _), (128, _), (129, _)]) (SubG.cons rfl (VT.le_refl _) (SubG.cons rfl (VT.le_refl _) (SubG.cons rfl (VT.le_refl _) (SubG.cons rfl (VT.le_refl _) (SubG.cons rfl (VT.le_refl _) (SubG.cons rfl (VT.le_refl _) (SubG.nil))))))) (SubM.refl _) ?_
      refine J_loopA (σ := Nat) (Γk := [(2, _), (12, _), (15, _), (127, _), (128, _)]) (SubG.cons rfl (VT.le_refl _) (SubG.cons rfl (VT.le_refl _) (SubG.cons rfl (VT.le_refl _) (SubG.cons rfl (VT.le_refl _) (SubG.cons rfl (VT.le_refl _) (SubG.nil)))))) (fun k => [(129, one (.int .i64 (k : Nat)))]) (fun k M0 => (M0.set 0 (sliO (some bx) 63 (.agg 4) r r (fun i => ratT (xsN e r k i))))) (fun k => k ≤ e.piv.length) (fun k => e.piv.length - k) (0) (Nat.zero_le _) (by repeat (first | exact SubG.refl _ | exact SubG.nil | refine SubG.cons rfl (VT.le_refl _) ?_ | (refine SubG.cons rfl (one_le ?_) ?_; (congr 1; first | omega | (simp; omega) | simp)))) (.keep (Own.le_refl _) (.keep (Own.le_refl _) (.nil))) (fun k hk => ?_)
      refine J_norm (Γ' := [(129, _), (2, _), (12, _), (15, _), (127, _), (128, _)]) (M' := [_, _]) rfl rfl ?_
      by_cases hk : k < e.piv.length
      · have hkr : e.piv.getD k 0 < r := hpc k hk
        have hne := el_pivne hE.gj rfl (by omega) hk
        have hq := qOf_ok (e.R k r) (e.R k (e.piv.getD k 0)) hne ((he.lz hok (hok.R _ _)).small (by decide)) ((he.lz hok (hok.R _ _)).small (by decide))
        unfold rowF pivF
        refine J_seq ?_
        refine J_reg ?_
        refine st (sT (by omega) (s_lt rfl rfl)) rfl ?_
        refine Run.nil ?_
        refine pj_then ?_
        refine J_seq ?_
        refine J_cond1 rfl ?_
        refine J_skip ?_
        refine pj_then ?_
        refine J_seq ?_
        refine J_block ?_
        refine J_seq ?_
        refine J_reg ?_
        refine st (s_move rfl) rfl ?_
        refine st (s_indexIN rfl rfl (by omega)) rfl ?_
        refine st (s_load rfl) rfl ?_
        refine st (s_assign rfl) rfl ?_
        refine st (s_assign rfl) rfl ?_
        refine Run.nil ?_
        refine pj_then ?_
        apply J_regG (Γ1 := [(2, _), (12, _), (15, _), (127, _), (128, _), (129, _)]) (M1 := [_, _]) 29 3 [] [28] mixed (by kernel_rfl) (by decide)
        · refine st (s_move rfl) rfl ?_
          refine st (s_move rfl) rfl ?_
          refine st (s_move rfl) rfl ?_
          refine st (s_nilCheckI rfl) rfl ?_
          refine st (s_fieldI rfl rfl) rfl ?_
          refine st (s_fieldI rfl rfl) rfl ?_
          refine st (s_load rfl) rfl ?_
          refine st (s_move rfl) rfl ?_
          refine st (s_indexIN rfl rfl (by omega)) rfl ?_
          refine st (s_load rfl) rfl ?_
          refine st (s_fieldAddr rfl) rfl ?_
          refine st (s_loadB 1 rfl rfl rfl) rfl ?_
          refine st (s_indexIN rfl rfl (by omega)) rfl ?_
          refine st (s_load rfl) rfl ?_
          refine st (s_move rfl) rfl ?_
          refine st (s_nilCheckI rfl) rfl ?_
          refine st (s_fieldI rfl rfl) rfl ?_
          refine st (s_fieldI rfl rfl) rfl ?_
          refine st (s_load rfl) rfl ?_
          refine st (s_move rfl) rfl ?_
          refine st (s_indexIN rfl rfl (by omega)) rfl ?_
          refine st (s_load rfl) rfl ?_
          refine st (s_move rfl) rfl ?_
          refine st (s_indexIN rfl rfl (by omega)) rfl ?_
          refine st (s_load rfl) rfl ?_
          refine st (s_callk (hq ) rfl ⟨VT.le_refl _, VT.le_refl _, trivial⟩) rfl ?_
          refine st (s_move rfl) rfl ?_
          refine st (s_extract rfl rfl) rfl ?_
          refine st (s_extract rfl rfl) rfl ?_
          refine Run.nil ?_
          refine entry0 (Γe := [(2, _), (12, _), (15, _), (127, _), (128, _), (129, _), (134, _), (135, _), (136, _), (161, _)]) (rem := [29, 30]) rfl (by repeat (first | exact SubG.nil | refine SubG.cons rfl (VT.le_refl _) ?_)) rfl ?_
          refine game_one (rem' := [30]) (i := 29) (by kernel_rfl) rfl rfl ?_ (DeadOk.cons rfl (StepG.plain (s_extract rfl rfl) rfl rfl (ltN rfl)) rfl DeadOk.nil)
          refine st (s_indexON rfl rfl (by omega)) rfl ?_
          refine Run.nil ?_
          refine ⟨rfl, ?_⟩
          refine game_one (rem' := []) (i := 30) (by kernel_rfl) rfl rfl ?_ (DeadOk.cons rfl (StepG.plain (s_extract rfl rfl) rfl rfl (ltN rfl)) rfl DeadOk.nil)
          (refine a_storeE 0 rfl rfl rfl ?_ rfl ?_; omega)
          refine Run.nil ?_
          refine ⟨rfl, ?_⟩
          refine game_end (by repeat (first | exact SubG.nil | refine SubG.cons rfl (VT.le_refl _) ?_)) (SubM.refl _) (DeadOk.cons rfl (StepG.plain (s_extract rfl rfl) rfl rfl (ltN rfl)) rfl DeadOk.nil)
        · refine pn_block ?_
          refine pj_then ?_
          refine J_reg ?_
          refine st (s_addN _ 1 rfl rfl (by omega)) rfl ?_
          refine st (s_move rfl) rfl ?_
          refine Run.nil ?_
          refine pj_roundM (k + 1) (hk) (by omega) (by repeat (first | exact SubG.refl _ | exact SubG.nil | refine SubG.cons rfl (VT.le_refl _) ?_ | (refine SubG.cons rfl (one_le ?_) ?_; (congr 1; first | omega | (simp; omega) | simp)))) (.keep (fill_xs) (.keep (Own.le_refl _) (.nil)))
      · have hkp : k = e.piv.length := by omega
        subst hkp
        refine J_seq ?_
        refine J_reg ?_
        refine st (sF (by omega) (s_lt rfl rfl)) rfl ?_
        refine Run.nil ?_
        refine pj_then ?_
        refine J_seq ?_
        refine J_cond0 rfl ?_
        refine J_exit ?_
        refine px_then ?_
        refine px_then ?_
        refine px_block ?_
        refine pj_then ?_
        refine J_seq ?_
        refine J_reg ?_
        refine st (s_move rfl) rfl ?_
        refine st (s_assign rfl) rfl ?_
        refine st (s_assign rfl) rfl ?_
        refine st (s_assign rfl) rfl ?_
        refine Run.nil ?_
        refine pj_then ?_
        refine J_ret ?_
        refine PJ_freeze (t := 4) (i := 0) rfl rfl ?_
        refine retc3 Tryz.results13 (.tmp rfl (VT.le_refl _)) (.tmp rfl (nil_slT)) (.tmp rfl (VT.le_refl _))
end Tor
end

section
set_option linter.unusedVariables false
set_option linter.unusedSimpArgs false
namespace Tor
open Go Go.RowKit Go.Proofs
def skl (i k : Nat) : List Int := (List.range (if i < k then k - 1 else k)).map fun a => ((Lin.skip i a : Nat) : Int)
theorem skl_len (i k : Nat) : (skl i k).length = if i < k then k - 1 else k := by unfold skl; simp
theorem skl_get {i k a : Nat} (h : a < (skl i k).length) : (skl i k).getD a 0 = ((Lin.skip i a : Nat) : Int) := by
  rw [skl_len] at h
  unfold skl; simp [List.getD, h]
theorem skl_skip (i : Nat) : skl i (i + 1) = skl i i := by unfold skl; rw [if_pos (by omega), if_neg (by omega)]; rfl
theorem skl_next {i k : Nat} (h : k ≠ i) : skl i (k + 1) = skl i k ++ [((k : Nat) : Int)] := by
  unfold skl
  by_cases c : i < k
  · rw [if_pos (by omega), if_pos c, show k + 1 - 1 = (k - 1) + 1 by omega, List.range_succ, List.map_append]
    congr 2
    show [((Lin.skip i (k - 1) : Nat) : Int)] = _
    unfold Lin.skip
    rw [if_neg (by omega)]
    congr 2; omega
  · rw [if_neg (by omega), if_neg c, List.range_succ, List.map_append]
    congr 2
    show [((Lin.skip i k : Nat) : Int)] = _
    unfold Lin.skip
    rw [if_pos (by omega)]
theorem skl_outs {i n : Nat} : outs n (skl i n) = false := by
  unfold outs skl
  rw [List.any_eq_false]
  intro x hx
  obtain ⟨a, ha, rfl⟩ := List.mem_map.1 hx
  rw [List.mem_range] at ha
  have : Lin.skip i a < n := by unfold Lin.skip; split at ha <;> split <;> omega
  simp; omega
abbrev numF (l : List Int) : Nat → VT := fun q => one (.int .i64 (l.getD q 0))
theorem num_snoc {sv : Option Nat} {T : TypeId} {cap : Nat} {l m : List Int} {x : Int} (h : m = l ++ [x]) : Own.le (sliO sv T .one cap (l.length + 1) (fun q => if q < l.length then numF l q else one (.int .i64 x))) (sliO sv T .one cap m.length (numF m)) := by
  subst h
  refine sliO_len (by simp) (fun q hq => ?_)
  show _ = one (Value.int .i64 ((l ++ [x]).getD q 0))
  by_cases h : q < l.length
  · rw [if_pos h]; show one (Value.int .i64 (l.getD q 0)) = _; simp [List.getD, List.getElem?_append_left h]
  · have : q = l.length := by omega
    subst this; rw [if_neg h]; simp [List.getD]
theorem num_same {sv : Option Nat} {T : TypeId} {cap : Nat} {l m : List Int} (h : m = l) : Own.le (sliO sv T .one cap l.length (numF l)) (sliO sv T .one cap m.length (numF m)) := h ▸ Own.le_refl _
def cof (n : Nat) (F : Nat → Nat → Int) (i j : Nat) : Int := Lin.sgnZ (i + j) * Lin.detZ (n - 1) (fun a b => F (Lin.skip i a) (Lin.skip j b))
attribute [local irreducible] Tor.J Tor.PJ Tor.StepO Tor.one Tor.slT Tor.ptrT Tor.aggT Tor.tupT Tor.exT Tor.andT Tor.gT Tor.eP Tor.boxO Tor.sliO Tor.slV Tor.VT.le Tor.Ret Tor.anyT Tor.mapO Tor.metT Tor.xO
attribute [local irreducible] bigT rowF
set_option maxHeartbeats 4000000 in
theorem cofactor_ok (r : Nat) (F : Nat → Nat → Int) (i j n : Nat) (hi : i < r) (hj : j < r) (hr : r ≤ 1024) (he : elim0 n r) (hF : ∀ i j, lz n (F i j)) : Ok Tryz.prog 66 [matF r r F, one (.int .i64 (i : Nat)), one (.int .i64 (j : Nat))] (bigT (cof r F i j)) := by
  have hl : (skl i r).length = r - 1 := by rw [skl_len, if_pos hi]
  have hm : (skl j r).length = r - 1 := by rw [skl_len, if_pos hj]
  have hpk := Pick_ok r r F (skl i r) (skl j r) (by omega) (by omega) (fun i j => (hF i j).small (Nat.le_trans (small_of_elim he) (by decide)))
  rw [skl_outs, skl_outs, hl, hm] at hpk
  refine Ok.enter Tryz.func66 rfl Tryz.ntmps66 rfl (fun w0 O => ?_)
  unfold matF
  refine J_seq ?_
  refine J_reg ?_
  refine a_boxS rfl rfl (ltN rfl) (fun b3 => ?_)
  refine a_alloc (T := 43) rfl (ltN rfl) (fun b6 => ?_)
  refine Run.nil ?_
  refine pj_then ?_
  refine J_seq ?_
  refine J_reg ?_
  refine st (s_assign rfl) rfl ?_
  refine st (s_assign rfl) rfl ?_
  refine Run.nil ?_
  refine pj_then ?_
  refine J_seq ?_
  refine J_seq ?_
  refine J_reg ?_
  refine st (s_fieldAddr rfl) rfl ?_
  refine st (s_loadB 1 rfl rfl rfl) rfl ?_
  refine st (s_move rfl) rfl ?_
  refine Run.nil ?_
  refine pj_then ?_
  refine J_block ?_
  refine J_retype (t := 7) (ψ := one (slV none 0 0)) rfl nil_slV ?_
  refine J_retype (t := 8) (ψ := one (slV none 0 0)) rfl nil_slV ?_
  refine J_addM (sliO_none0 3 .one (numF [])) ?_
  refine J_addM (sliO_none0 3 .one (numF [])) ?_
  refine J_sub (Γ' := [(1, _), (2, _), (3, _), (6, _), (7, _), (8, _), (15, _), (16, _)]) (SubG.cons rfl (VT.le_refl _) (SubG.cons rfl (VT.le_refl _) (SubG.cons rfl (VT.le_refl _) (SubG.cons rfl (VT.le_refl _) (SubG.cons rfl (VT.le_refl _) (SubG.cons rfl (VT.le_refl _) (SubG.cons rfl (VT.le_refl _) (SubG.cons rfl (VT.le_refl _) (SubG.nil))))))))) (SubM.refl _) ?_
  refine J_loopA (σ := Nat × Option Nat × Nat × Option Nat × Nat) (Γk := [(1, _), (2, _), (3, _), (6, _), (15, _)]) (SubG.cons rfl (VT.le_refl _) (SubG.cons rfl (VT.le_refl _) (SubG.cons rfl (VT.le_refl _) (SubG.cons rfl (VT.le_refl _) (SubG.cons rfl (VT.le_refl _) (SubG.nil)))))) (fun s => [(16, one (.int .i64 (s.1 : Nat))), (7, one (slV s.2.1 (skl i s.1).length s.2.2.1)), (8, one (slV s.2.2.2.1 (skl j s.1).length s.2.2.2.2))]) (fun s M0 => ((M0.set 0 (sliO s.2.1 3 .one s.2.2.1 (skl i s.1).length (numF (skl i s.1)))).set 1 (sliO s.2.2.2.1 3 .one s.2.2.2.2 (skl j s.1).length (numF (skl j s.1))))) (fun s => s.1 ≤ r) (fun s => r - s.1) ((0, none, 0, none, 0)) (Nat.zero_le _) (by repeat (first | exact SubG.refl _ | exact SubG.nil | refine SubG.cons rfl (VT.le_refl _) ?_ | (refine SubG.cons rfl (one_le ?_) ?_; (congr 1; first | omega | (simp; omega) | simp)))) (.keep (Own.le_refl _) (.keep (Own.le_refl _) (.keep (Own.le_refl _) (.keep (Own.le_refl _) (.nil))))) (fun s hs => ?_)
  refine J_norm (Γ' := [(16, _), (7, _), (8, _), (1, _), (2, _), (3, _), (6, _), (15, _)]) (M' := [_, _, _, _]) rfl rfl ?_
  obtain ⟨k, svr, capr, svc, capc⟩ := s
  dsimp only at hs ⊢
  have hki := skl_len i k
  have hkj := skl_len j k
  have hkl : (skl i k).length ≤ k := by rw [hki]; split <;> omega
  have hkl' : (skl j k).length ≤ k := by rw [hkj]; split <;> omega
  by_cases hk : k < r
  · by_cases h1 : k = i
    · have e1 : skl i (k + 1) = skl i k := by rw [h1]; exact skl_skip i
      have l1 := congrArg List.length e1
      by_cases h2 : k = j
      · have e2 : skl j (k + 1) = skl j k := by rw [h2]; exact skl_skip j
        have l2 := congrArg List.length e2
        refine J_seq ?_
        refine J_reg ?_
        refine st (sT (by omega) (s_lt rfl rfl)) rfl ?_
        refine Run.nil ?_
        refine pj_then ?_
        refine J_seq ?_
        refine J_cond1 rfl ?_
        refine J_skip ?_
        refine pj_then ?_
        refine J_seq ?_
        refine J_block ?_
        refine J_seq ?_
        refine J_reg ?_
        refine st (s_move rfl) rfl ?_
        refine st (s_assign rfl) rfl ?_
        refine Run.nil ?_
        refine pj_then ?_
        refine J_seq ?_
        refine J_seq ?_
        refine J_reg ?_
        refine st (s_move rfl) rfl ?_
        refine st (s_move rfl) rfl ?_
        refine st (sF (by omega) (s_ne rfl rfl)) rfl ?_
        refine Run.nil ?_
        refine pj_then ?_
        refine J_cond0 rfl ?_
        refine J_skip ?_
        refine pj_then ?_
        refine J_seq ?_
        refine J_reg ?_
        refine st (s_move rfl) rfl ?_
        refine st (s_move rfl) rfl ?_
        refine st (sF (by omega) (s_ne rfl rfl)) rfl ?_
        refine Run.nil ?_
        refine pj_then ?_
        refine J_cond0 rfl ?_
        refine J_skip ?_
        refine pn_block ?_
        refine pj_then ?_
        refine J_reg ?_
        refine st (s_addN _ 1 rfl rfl (by omega)) rfl ?_
        refine st (s_move rfl) rfl ?_
        refine Run.nil ?_
        refine pj_roundM ((k + 1, svr, capr, svc, capc)) (hk) (by omega) (by (repeat (first | exact SubG.nil | refine SubG.cons rfl (VT.le_refl _) ?_ | refine SubG.cons rfl (slV_len (by dsimp only; omega)) ?_))) (.keep (num_same e1) (.keep (num_same e2) (.keep (Own.le_refl _) (.keep (Own.le_refl _) (.nil)))))
      · have e2 := skl_next h2
        have l2 : (skl j (k + 1)).length = (skl j k).length + 1 := by rw [e2, List.length_append]; rfl
        refine J_seq ?_
        refine J_reg ?_
        refine st (sT (by omega) (s_lt rfl rfl)) rfl ?_
        refine Run.nil ?_
        refine pj_then ?_
        refine J_seq ?_
        refine J_cond1 rfl ?_
        refine J_skip ?_
        refine pj_then ?_
        refine J_seq ?_
        refine J_block ?_
        refine J_seq ?_
        refine J_reg ?_
        refine st (s_move rfl) rfl ?_
        refine st (s_assign rfl) rfl ?_
        refine Run.nil ?_
        refine pj_then ?_
        refine J_seq ?_
        refine J_seq ?_
        refine J_reg ?_
        refine st (s_move rfl) rfl ?_
        refine st (s_move rfl) rfl ?_
        refine st (sF (by omega) (s_ne rfl rfl)) rfl ?_
        refine Run.nil ?_
        refine pj_then ?_
        refine J_cond0 rfl ?_
        refine J_skip ?_
        refine pj_then ?_
        refine J_seq ?_
        refine J_reg ?_
        refine st (s_move rfl) rfl ?_
        refine st (s_move rfl) rfl ?_
        refine st (sT (by omega) (s_ne rfl rfl)) rfl ?_
        refine Run.nil ?_
        refine pj_then ?_
        refine J_cond1 rfl ?_
        refine J_reg ?_
        refine st (s_move rfl) rfl ?_
        refine st (s_move rfl) rfl ?_
        refine stS1 rfl rfl rfl rfl ?_
        (refine a_append 1 rfl rfl rfl (leN rfl) ?_ ?_ rfl (ltN rfl) (fun sv32 cap32 => ?_); omega; omega)
        refine st (s_assign rfl) rfl ?_
        refine Run.nil ?_
        refine pn_block ?_
        refine pj_then ?_
        refine J_reg ?_
        refine st (s_addN _ 1 rfl rfl (by omega)) rfl ?_
        refine st (s_move rfl) rfl ?_
        refine Run.nil ?_
        refine pj_roundM ((k + 1, svr, capr, sv32, cap32)) (hk) (by omega) (by (repeat (first | exact SubG.nil | refine SubG.cons rfl (VT.le_refl _) ?_ | refine SubG.cons rfl (slV_len (by dsimp only; omega)) ?_))) (.keep (num_same e1) (.keep (num_snoc e2) (.keep (Own.le_refl _) (.keep (Own.le_refl _) (.nil)))))
    · have e1 := skl_next h1
      have l1 : (skl i (k + 1)).length = (skl i k).length + 1 := by rw [e1, List.length_append]; rfl
      by_cases h2 : k = j
      · have e2 : skl j (k + 1) = skl j k := by rw [h2]; exact skl_skip j
        have l2 := congrArg List.length e2
        refine J_seq ?_
        refine J_reg ?_
        refine st (sT (by omega) (s_lt rfl rfl)) rfl ?_
        refine Run.nil ?_
        refine pj_then ?_
        refine J_seq ?_
        refine J_cond1 rfl ?_
        refine J_skip ?_
        refine pj_then ?_
        refine J_seq ?_
        refine J_block ?_
        refine J_seq ?_
        refine J_reg ?_
        refine st (s_move rfl) rfl ?_
        refine st (s_assign rfl) rfl ?_
        refine Run.nil ?_
        refine pj_then ?_
        refine J_seq ?_
        refine J_seq ?_
        refine J_reg ?_
        refine st (s_move rfl) rfl ?_
        refine st (s_move rfl) rfl ?_
        refine st (sT (by omega) (s_ne rfl rfl)) rfl ?_
        refine Run.nil ?_
        refine pj_then ?_
        refine J_cond1 rfl ?_
        refine J_reg ?_
        refine st (s_move rfl) rfl ?_
        refine st (s_move rfl) rfl ?_
        refine stS1 rfl rfl rfl rfl ?_
        (refine a_append 0 rfl rfl rfl (leN rfl) ?_ ?_ rfl (ltN rfl) (fun sv25 cap25 => ?_); omega; omega)
        refine st (s_assign rfl) rfl ?_
        refine Run.nil ?_
        refine pj_then ?_
        refine J_seq ?_
        refine J_reg ?_
        refine st (s_move rfl) rfl ?_
        refine st (s_move rfl) rfl ?_
        refine st (sF (by omega) (s_ne rfl rfl)) rfl ?_
        refine Run.nil ?_
        refine pj_then ?_
        refine J_cond0 rfl ?_
        refine J_skip ?_
        refine pn_block ?_
        refine pj_then ?_
        refine J_reg ?_
        refine st (s_addN _ 1 rfl rfl (by omega)) rfl ?_
        refine st (s_move rfl) rfl ?_
        refine Run.nil ?_
        refine pj_roundM ((k + 1, sv25, cap25, svc, capc)) (hk) (by omega) (by (repeat (first | exact SubG.nil | refine SubG.cons rfl (VT.le_refl _) ?_ | refine SubG.cons rfl (slV_len (by dsimp only; omega)) ?_))) (.keep (num_snoc e1) (.keep (num_same e2) (.keep (Own.le_refl _) (.keep (Own.le_refl _) (.nil)))))
      · have e2 := skl_next h2
        have l2 : (skl j (k + 1)).length = (skl j k).length + 1 := by rw [e2, List.length_append]; rfl
        refine J_seq ?_
        refine J_reg ?_
        refine st (sT (by omega) (s_lt rfl rfl)) rfl ?_
        refine Run.nil ?_
        refine pj_then ?_
        refine J_seq ?_
        refine J_cond1 rfl ?_
        refine J_skip ?_
        refine pj_then ?_
        refine J_seq ?_
        refine J_block ?_
        refine J_seq ?_
        refine J_reg ?_
        refine st (s_move rfl) rfl ?_
        refine st (s_assign rfl) rfl ?_
        refine Run.nil ?_
        refine pj_then ?_
        refine J_seq ?_
        refine J_seq ?_
        refine J_reg ?_
        refine st (s_move rfl) rfl ?_
        refine st (s_move rfl) rfl ?_
        refine st (sT (by omega) (s_ne rfl rfl)) rfl ?_
        refine Run.nil ?_
        refine pj_then ?_
        refine J_cond1 rfl ?_
        refine J_reg ?_
        refine st (s_move rfl) rfl ?_
        refine st (s_move rfl) rfl ?_
        refine stS1 rfl rfl rfl rfl ?_
        (refine a_append 0 rfl rfl rfl (leN rfl) ?_ ?_ rfl (ltN rfl) (fun sv25 cap25 => ?_); omega; omega)
        refine st (s_assign rfl) rfl ?_
        refine Run.nil ?_
        refine pj_then ?_
        refine J_seq ?_
        refine J_reg ?_
        refine st (s_move rfl) rfl ?_
        refine st (s_move rfl) rfl ?_
        refine st (sT (by omega) (s_ne rfl rfl)) rfl ?_
        refine Run.nil ?_
        refine pj_then ?_
        refine J_cond1 rfl ?_
        refine J_reg ?_
        refine st (s_move rfl) rfl ?_
        refine st (s_move rfl) rfl ?_
        refine stS1 rfl rfl rfl rfl ?_
        (refine a_append 1 rfl rfl rfl (leN rfl) ?_ ?_ rfl (ltN rfl) (fun sv32 cap32 => ?_); omega; omega)
        refine st (s_assign rfl) rfl ?_
        refine Run.nil ?_
        refine pn_block ?_
        refine pj_then ?_
        refine J_reg ?_
        refine st (s_addN _ 1 rfl rfl (by omega)) rfl ?_
        refine st (s_move rfl) rfl ?_
        refine Run.nil ?_
        refine pj_roundM ((k + 1, sv25, cap25, sv32, cap32)) (hk) (by omega) (by (repeat (first | exact SubG.nil | refine SubG.cons rfl (VT.le_refl _) ?_ | refine SubG.cons rfl (slV_len (by dsimp only; omega)) ?_))) (.keep (num_snoc e1) (.keep (num_snoc e2) (.keep (Own.le_refl _) (.keep (Own.le_refl _) (.nil)))))
  · have hkr : k = r := by omega
    subst hkr
    have hd := Det_ok (k - 1) (pickF (skl i k) (skl j k) F) n (by omega) (he.le (Nat.sub_le _ _)) (fun a b => hF _ _)
    have hds := det_lz (he.le (Nat.sub_le k 1)) (F := pickF (skl i k) (skl j k) F) (fun a b => hF _ _)
    have hdet : Lin.detZ (k - 1) (pickF (skl i k) (skl j k) F) = Lin.detZ (k - 1) (fun a b => F (Lin.skip i a) (Lin.skip j b)) := Lin.detZ_congr fun a b ha hb => by
      show F ((skl i k).getD a 0).toNat ((skl j k).getD b 0).toNat = _
      rw [skl_get (by omega), skl_get (by omega), Int.toNat_natCast, Int.toNat_natCast]
    unfold cof Lin.sgnZ
    rw [hdet] at hd hds
    have hneg := fun d (h : lz 1099511627700 d) => NegI_ok d (h.small (by decide))
    have hpk' : Ok Tryz.prog 97 [matF k k F, numT .i64 (skl i k), numT .i64 (skl j k)] (tupT [matF (k - 1) (k - 1) (pickF (skl i k) (skl j k) F), one (.int .i64 0)]) := by simpa [resMT] using hpk
    clear hpk
    unfold matF numT at *
    generalize Lin.detZ (k - 1) (fun a b => F (Lin.skip i a) (Lin.skip j b)) = d at *
    have hneg' := hneg d hds
    refine J_open [_] (List.Perm.refl _) (EntM.refl _) (EntG.set (t := 7) rfl (Ent.sl List.mem_cons_self)) ?_
    refine J_open [_] (List.Perm.refl _) (EntM.refl _) (EntG.set (t := 8) rfl (Ent.sl List.mem_cons_self)) ?_
    by_cases hp : (i + j) % 2 = 0
    · rw [if_pos hp, Int.one_mul]
      refine J_seq ?_
      refine J_reg ?_
      refine st (sF (by omega) (s_lt rfl rfl)) rfl ?_
      refine Run.nil ?_
      refine pj_then ?_
      refine J_seq ?_
      refine J_cond0 rfl ?_
      refine J_exit ?_
      refine px_then ?_
      refine px_then ?_
      refine px_block ?_
      refine pj_then ?_
      refine J_seq ?_
      refine J_reg ?_
      refine st (s_loadW 1 rfl rfl) rfl ?_
      refine st (s_move rfl) rfl ?_
      refine st (s_move rfl) rfl ?_
      refine st (s_callk (hpk' ) rfl ⟨VT.le_refl _, VT.le_refl _, VT.le_refl _, trivial⟩) rfl ?_
      refine st (s_move rfl) rfl ?_
      refine st (s_extract rfl rfl) rfl ?_
      refine st (s_extract rfl rfl) rfl ?_
      refine a_allocS (T := 28) rfl rfl rfl (fun b10 => ?_)
      refine a_storeW 0 rfl rfl rfl rfl ?_
      refine st (s_assign rfl) rfl ?_
      refine Run.nil ?_
      refine pj_then ?_
      refine J_seq ?_
      refine J_reg ?_
      refine st (s_loadW 0 rfl rfl) rfl ?_
      refine st (s_callk (hd ) rfl ⟨VT.le_refl _, trivial⟩) rfl ?_
      refine st (s_move rfl) rfl ?_
      refine st (s_extract rfl rfl) rfl ?_
      refine st (s_extract rfl rfl) rfl ?_
      refine a_alloc (T := 43) rfl (ltN rfl) (fun b12 => ?_)
      refine a_storeB 0 rfl rfl rfl rfl rfl (leN rfl) rfl ?_
      refine st (s_assign rfl) rfl ?_
      refine Run.nil ?_
      refine pj_then ?_
      refine J_seq ?_
      refine J_seq ?_
      refine J_reg ?_
      refine st (s_move rfl) rfl ?_
      refine st (s_move rfl) rfl ?_
      refine st (s_addN _ _ rfl rfl (by omega)) rfl ?_
      refine st (s_remN 2 rfl rfl rfl (by decide)) rfl ?_
      refine st (sF (by omega) (s_eq rfl rfl)) rfl ?_
      refine Run.nil ?_
      refine pj_then ?_
      refine J_cond0 rfl ?_
      refine J_skip ?_
      refine pj_then ?_
      refine J_seq ?_
      refine J_reg ?_
      refine st (s_loadB 0 rfl rfl rfl) rfl ?_
      refine a_storeB 2 rfl rfl rfl rfl rfl (leN rfl) rfl ?_
      refine Run.nil ?_
      refine pj_then ?_
      refine J_ret ?_
      refine retc1 Tryz.results66 (.cellB 2 rfl rfl rfl (VT.le_refl _))
    · rw [if_neg hp, show (-1 : Int) * d = -d by omega]
      refine J_seq ?_
      refine J_reg ?_
      refine st (sF (by omega) (s_lt rfl rfl)) rfl ?_
      refine Run.nil ?_
      refine pj_then ?_
      refine J_seq ?_
      refine J_cond0 rfl ?_
      refine J_exit ?_
      refine px_then ?_
      refine px_then ?_
      refine px_block ?_
      refine pj_then ?_
      refine J_seq ?_
      refine J_reg ?_
      refine st (s_loadW 1 rfl rfl) rfl ?_
      refine st (s_move rfl) rfl ?_
      refine st (s_move rfl) rfl ?_
      refine st (s_callk (hpk' ) rfl ⟨VT.le_refl _, VT.le_refl _, VT.le_refl _, trivial⟩) rfl ?_
      refine st (s_move rfl) rfl ?_
      refine st (s_extract rfl rfl) rfl ?_
      refine st (s_extract rfl rfl) rfl ?_
      refine a_allocS (T := 28) rfl rfl rfl (fun b10 => ?_)
      refine a_storeW 0 rfl rfl rfl rfl ?_
      refine st (s_assign rfl) rfl ?_
      refine Run.nil ?_
      refine pj_then ?_
      refine J_seq ?_
      refine J_reg ?_
      refine st (s_loadW 0 rfl rfl) rfl ?_
      refine st (s_callk (hd ) rfl ⟨VT.le_refl _, trivial⟩) rfl ?_
      refine st (s_move rfl) rfl ?_
      refine st (s_extract rfl rfl) rfl ?_
      refine st (s_extract rfl rfl) rfl ?_
      refine a_alloc (T := 43) rfl (ltN rfl) (fun b12 => ?_)
      refine a_storeB 0 rfl rfl rfl rfl rfl (leN rfl) rfl ?_
      refine st (s_assign rfl) rfl ?_
      refine Run.nil ?_
      refine pj_then ?_
      refine J_seq ?_
      refine J_seq ?_
      refine J_reg ?_
      refine st (s_move rfl) rfl ?_
      refine st (s_move rfl) rfl ?_
      refine st (s_addN _ _ rfl rfl (by omega)) rfl ?_
      refine st (s_remN 2 rfl rfl rfl (by decide)) rfl ?_
      refine st (sT (by omega) (s_eq rfl rfl)) rfl ?_
      refine Run.nil ?_
      refine pj_then ?_
      refine J_cond1 rfl ?_
      refine J_seq ?_
      refine J_reg ?_
      refine st (s_loadB 0 rfl rfl rfl) rfl ?_
      refine st (s_callk (hneg _ (by assumption)) rfl ⟨VT.le_refl _, trivial⟩) rfl ?_
      refine a_storeB 2 rfl rfl rfl rfl rfl (leN rfl) rfl ?_
      refine Run.nil ?_
      refine pj_then ?_
      refine J_ret ?_
      refine pr_then ?_
      refine retc1 Tryz.results66 (.cellB 2 rfl rfl rfl (VT.le_refl _))
end Tor
end
