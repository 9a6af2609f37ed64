/-
  Contracts of package integer: limbs, Of, Sign, Add, Sub, Mul, Cmp.
-/
import Derived.Test.YtmpnikllhpagcaaI2
import Derived.Test.YtmpnikllhpagcaaI3
import Derived.Test.YtmpnikllhpagcaaI4
import Derived.Test.YtmpnikllhpagcaaI5
set_option linter.unusedVariables false
set_option linter.unusedSimpArgs false
namespace Tor
open Go Go.RowKit Go.Proofs

/-- A sign and a magnitude. -/
def sgT (neg : Bool) (v : Nat) : VT := aggT 2 [(0, .one, one (.bool neg)), (1, .one, limT (digs v))]
def sv (neg : Bool) (v : Nat) : Int := if neg then -(v : Int) else v
theorem bigT_sg (x : Int) : VT.le (bigT x) (sgT (decide (x < 0)) x.natAbs) := VT.le_refl _
theorem sv_big (x : Int) : sv (decide (x < 0)) x.natAbs = x := by
  unfold sv; by_cases h : x < 0
  · rw [decide_eq_true h, if_pos rfl]; omega
  · rw [decide_eq_false h]; simp only [Bool.false_eq_true, if_false]; omega

attribute [local irreducible] Tor.J Tor.PJ Tor.StepO Tor.one Tor.slT Tor.ptrT Tor.aggT Tor.tupT Tor.exT Tor.andT Tor.gT Tor.eP Tor.boxO Tor.sliO Tor.slV Tor.VT.le Tor.Ret Tor.anyT
attribute [local irreducible] bigT
theorem limbs_ok (u : Nat) (hu : u < 18446744073709551616) : Ok Try.prog 98 [one (.int .u64 u)] (natT u) := by
  refine Ok.enter Try.func98 rfl Try.ntmps98 rfl (fun w O => ?_)
  refine J_seq ?_
  refine J_reg ?_
  refine st (s_assign rfl) rfl ?_
  refine Run.nil ?_
  refine pj_then ?_
  refine J_seq ?_
  refine J_reg ?_
  refine st (s_move rfl) rfl ?_
  refine st (s_toU32 rfl) rfl ?_
  refine st (s_move rfl) rfl ?_
  refine st (s_shr32 rfl) rfl ?_
  refine st (s_toU32 rfl) rfl ?_
  refine stS rfl rfl rfl rfl ?_
  refine PartsK.cons rfl ?_
  refine PartsK.cons rfl ?_
  refine PartsK.nil ?_
  refine st (s_assign rfl) rfl ?_
  refine Run.nil ?_
  refine pj_then ?_
  refine J_ret ?_
  refine retc1 Try.results98 (.tmp rfl (VT.le_trans (slT_le' (m := [u % 4294967296, u / 4294967296 % 4294967296].length) (ψ := fun i => one (.int .u32 ([u % 4294967296, u / 4294967296 % 4294967296].getD i 0 : Nat))) rfl (fun q hq => ?_)) (natT_of (l := [u % 4294967296, u / 4294967296 % 4294967296]) ?_ ?_)))
  · match q, hq with
    | 0, _ => rfl
    | 1, _ => rfl
  · intro d hd; simp at hd; omega
  · simp only [lv]; omega
theorem Of_ok (n : Int) (h1 : -9223372036854775808 ≤ n) (h2 : n ≤ 9223372036854775807) : Ok Try.prog 75 [one (.int .i64 n)] (bigT n) := by
  refine Ok.enter Try.func75 rfl Try.ntmps75 rfl (fun w O => ?_)
  by_cases hn : n < 0
  · refine J_seq ?_
    refine J_reg ?_
    refine a_alloc (T := 29) rfl (ltN rfl) (fun b => ?_)
    refine Run.nil ?_
    refine pj_then ?_
    refine J_seq ?_
    refine J_reg ?_
    refine st (s_move rfl) rfl ?_
    refine st (s_conv (r := ((18446744073709551616 - n.natAbs : Nat) : Int)) rfl (by rw [wrap_u64]; omega)) rfl ?_
    refine st (s_assign rfl) rfl ?_
    refine Run.nil ?_
    refine pj_then ?_
    refine J_seq ?_
    refine J_seq ?_
    refine J_reg ?_
    refine st (s_move rfl) rfl ?_
    refine st (s_lt rfl rfl) rfl ?_
    refine Run.nil ?_
    refine pj_then ?_
    refine J_cond rfl (fun hc => ?_) (fun hc => ?_) <;> simp at hc
    · refine J_reg ?_
      refine st (s_move rfl) rfl ?_
      refine st (s_neg (r := (n.natAbs : Int)) rfl (by rw [wrap_u64]; omega)) rfl ?_
      refine st (s_assign rfl) rfl ?_
      refine Run.nil ?_
      refine pj_then ?_
      refine J_seq ?_
      refine J_reg ?_
      refine st (s_move rfl) rfl ?_
      refine st (s_lt rfl rfl) rfl ?_
      refine st (s_move rfl) rfl ?_
      refine st (s_callk (limbs_ok _ (by omega)) rfl ⟨VT.le_refl _, trivial⟩) rfl ?_
      refine st (s_callk (value_ok _ _) rfl ⟨VT.le_refl _, VT.le_refl _, trivial⟩) rfl ?_
      refine a_storeB 0 rfl rfl rfl rfl rfl (leN rfl) rfl ?_
      refine Run.nil ?_
      refine pj_then ?_
      refine J_ret ?_
      exact retc1 Try.results75 (.cellB 0 rfl rfl rfl (bigT_eq (by rw [decide_eq_true hn, if_pos rfl]; omega)))
    · omega
  · refine J_seq ?_
    refine J_reg ?_
    refine a_alloc (T := 29) rfl (ltN rfl) (fun b => ?_)
    refine Run.nil ?_
    refine pj_then ?_
    refine J_seq ?_
    refine J_reg ?_
    refine st (s_move rfl) rfl ?_
    refine st (s_conv (r := (n.natAbs : Int)) rfl (by rw [wrap_u64]; omega)) rfl ?_
    refine st (s_assign rfl) rfl ?_
    refine Run.nil ?_
    refine pj_then ?_
    refine J_seq ?_
    refine J_seq ?_
    refine J_reg ?_
    refine st (s_move rfl) rfl ?_
    refine st (s_lt rfl rfl) rfl ?_
    refine Run.nil ?_
    refine pj_then ?_
    refine J_cond rfl (fun hc => ?_) (fun hc => ?_) <;> simp at hc
    · omega
    · refine J_skip ?_
      refine pj_then ?_
      refine J_seq ?_
      refine J_reg ?_
      refine st (s_move rfl) rfl ?_
      refine st (s_lt rfl rfl) rfl ?_
      refine st (s_move rfl) rfl ?_
      refine st (s_callk (limbs_ok _ (by omega)) rfl ⟨VT.le_refl _, trivial⟩) rfl ?_
      refine st (s_callk (value_ok _ _) rfl ⟨VT.le_refl _, VT.le_refl _, trivial⟩) rfl ?_
      refine a_storeB 0 rfl rfl rfl rfl rfl (leN rfl) rfl ?_
      refine Run.nil ?_
      refine pj_then ?_
      refine J_ret ?_
      exact retc1 Try.results75 (.cellB 0 rfl rfl rfl (bigT_eq (by rw [decide_eq_false hn]; simp; omega)))
def sgnI (x : Int) : Int := if x = 0 then 0 else if x < 0 then -1 else 1
theorem Sign_ok (neg : Bool) (v : Nat) : Ok Try.prog 72 [sgT neg v] (one (.int .i64 (sgnI (sv neg v)))) := by
  refine Ok.enter Try.func72 rfl Try.ntmps72 rfl (fun w O => ?_)
  refine J_seq ?_
  refine J_reg ?_
  refine a_boxS rfl rfl (ltN rfl) (fun b => ?_)
  refine st (s_assign rfl) rfl ?_
  refine Run.nil ?_
  refine pj_then ?_
  refine J_seq ?_
  refine J_block ?_
  refine J_seq ?_
  refine J_reg ?_
  refine st (s_fieldAddr rfl) rfl ?_
  refine st (s_loadB 0 rfl rfl rfl) rfl ?_
  refine st (s_callk (trim_ok _) rfl ⟨natT_digs _, trivial⟩) rfl ?_
  refine st (s_len rfl) rfl ?_
  refine st (s_eq rfl rfl) rfl ?_
  refine st (s_assign rfl) rfl ?_
  refine Run.nil ?_
  refine pj_then ?_
  refine J_cond rfl (fun hc => ?_) (fun hc => ?_) <;> simp at hc
  · have hv : v = 0 := by rw [← lv_digs v, hc]; rfl
    refine J_seq ?_
    refine J_reg ?_
    refine st (s_assign rfl) rfl ?_
    refine Run.nil ?_
    refine pj_then ?_
    refine J_ret ?_
    refine pr_block ?_
    refine pr_then ?_
    exact retc1 Try.results72 (.tmp rfl (one_le (by subst hv; simp [sgnI, sv])))
  · have hv : v ≠ 0 := by intro e; subst e; exact hc rfl
    refine J_seq ?_
    refine J_reg ?_
    refine st (s_fieldAddr rfl) rfl ?_
    refine st (s_loadB 0 rfl rfl rfl) rfl ?_
    refine st (s_assign rfl) rfl ?_
    refine Run.nil ?_
    refine pj_then ?_
    refine J_cond rfl (fun hc2 => ?_) (fun hc2 => ?_)
    · subst hc2
      refine J_seq ?_
      refine J_reg ?_
      refine st (s_assign rfl) rfl ?_
      refine Run.nil ?_
      refine pj_then ?_
      refine J_ret ?_
      refine pr_block ?_
      refine pr_then ?_
      exact retc1 Try.results72 (.tmp rfl (one_le (by congr 1; unfold sgnI sv; simp only [if_true]; rw [if_neg (by omega), if_pos (by omega)])))
    · subst hc2
      refine J_skip ?_
      refine pn_block ?_
      refine pj_then ?_
      refine J_seq ?_
      refine J_reg ?_
      refine st (s_assign rfl) rfl ?_
      refine Run.nil ?_
      refine pj_then ?_
      refine J_ret ?_
      exact retc1 Try.results72 (.tmp rfl (one_le (by congr 1; unfold sgnI sv; simp only [Bool.false_eq_true, if_false]; rw [if_neg (by omega), if_neg (by omega)])))
theorem Add_ok (n1 n2 : Bool) (v1 v2 : Nat) (h1 : (digs v1).length ≤ 1099511627776) (h2 : (digs v2).length ≤ 1099511627776) : Ok Try.prog 70 [sgT n1 v1, sgT n2 v2] (bigT (sv n1 v1 + sv n2 v2)) := by
  refine Ok.enter Try.func70 rfl Try.ntmps70 rfl (fun w O => ?_)
  refine J_seq ?_
  refine J_reg ?_
  refine a_boxS rfl rfl (ltN rfl) (fun b => ?_)
  refine a_boxS rfl rfl (ltN rfl) (fun b => ?_)
  refine a_alloc (T := 29) rfl (ltN rfl) (fun b => ?_)
  refine Run.nil ?_
  refine pj_then ?_
  refine J_seq ?_
  refine J_regd 8 mixed (by kernel_rfl) (by decide) ?_
  refine st (s_fieldAddr rfl) rfl ?_
  refine st (s_loadB 2 rfl rfl rfl) rfl ?_
  refine st (s_callk (trim_ok _) rfl ⟨natT_digs _, trivial⟩) rfl ?_
  refine st (s_fieldAddr rfl) rfl ?_
  refine st (s_loadB 1 rfl rfl rfl) rfl ?_
  refine st (s_callk (trim_ok _) rfl ⟨natT_digs _, trivial⟩) rfl ?_
  refine st (s_assign rfl) rfl ?_
  refine st (s_assign rfl) rfl ?_
  refine Run.nil ?_
  refine Run.nil ?_
  refine pj_then ?_
  refine J_seq ?_
  refine J_block ?_
  refine J_seq ?_
  refine J_reg ?_
  refine st (s_fieldAddr rfl) rfl ?_
  refine st (s_loadB 2 rfl rfl rfl) rfl ?_
  refine st (s_fieldAddr rfl) rfl ?_
  refine st (s_loadB 1 rfl rfl rfl) rfl ?_
  refine st (s_eqB rfl rfl) rfl ?_
  refine st (s_assign rfl) rfl ?_
  refine Run.nil ?_
  refine pj_then ?_
  refine J_cond rfl (fun hc => ?_) (fun hc => ?_) <;> simp at hc
  · subst hc
    refine J_seq ?_
    refine J_regd 6 mixed (by kernel_rfl) (by decide) ?_
    refine st (s_fieldAddr rfl) rfl ?_
    refine st (s_loadB 2 rfl rfl rfl) rfl ?_
    refine st (s_move rfl) rfl ?_
    refine st (s_move rfl) rfl ?_
    refine st (s_callk (plus_ok _ _ h1 h2) rfl ⟨VT.le_refl _, VT.le_refl _, trivial⟩) rfl ?_
    refine st (s_callk (value_ok _ _) rfl ⟨VT.le_refl _, VT.le_refl _, trivial⟩) rfl ?_
    refine Run.nil ?_
    refine a_storeB 0 rfl rfl rfl rfl rfl (leN rfl) rfl ?_
    refine Run.nil ?_
    refine pj_then ?_
    refine J_ret ?_
    refine pr_block ?_
    refine pr_then ?_
    exact retc1 Try.results70 (.cellB 0 rfl rfl rfl (bigT_eq (by unfold sv; split <;> omega)))
  · refine J_seq ?_
    refine J_reg ?_
    refine st (s_move rfl) rfl ?_
    refine st (s_move rfl) rfl ?_
    refine st (s_callk (compare_ok _ _) rfl ⟨VT.le_refl _, VT.le_refl _, trivial⟩) rfl ?_
    refine st (s_lt rfl rfl) rfl ?_
    refine st (s_assign rfl) rfl ?_
    refine Run.nil ?_
    refine pj_then ?_
    refine J_cond rfl (fun hc2 => ?_) (fun hc2 => ?_) <;> simp at hc2
    · have hlt : v1 < v2 := by
        unfold cmpN at hc2; split at hc2
        · assumption
        · split at hc2 <;> omega
      refine J_seq ?_
      refine J_regd 6 mixed (by kernel_rfl) (by decide) ?_
      refine st (s_fieldAddr rfl) rfl ?_
      refine st (s_loadB 1 rfl rfl rfl) rfl ?_
      refine st (s_move rfl) rfl ?_
      refine st (s_move rfl) rfl ?_
      refine st (s_callk (minus_ok _ _ (by omega) h2) rfl ⟨VT.le_refl _, VT.le_refl _, trivial⟩) rfl ?_
      refine st (s_callk (value_ok _ _) rfl ⟨VT.le_refl _, VT.le_refl _, trivial⟩) rfl ?_
      refine Run.nil ?_
      refine a_storeB 0 rfl rfl rfl rfl rfl (leN rfl) rfl ?_
      refine Run.nil ?_
      refine pj_then ?_
      refine J_ret ?_
      refine pr_block ?_
      refine pr_then ?_
      exact retc1 Try.results70 (.cellB 0 rfl rfl rfl (bigT_eq (by unfold sv; cases n1 <;> cases n2 <;> simp at hc ⊢ <;> omega)))
    · have hge : v2 ≤ v1 := by
        unfold cmpN at hc2; split at hc2 <;> omega
      refine J_skip ?_
      refine pn_block ?_
      refine pj_then ?_
      refine J_seq ?_
      refine J_regd 6 mixed (by kernel_rfl) (by decide) ?_
      refine st (s_fieldAddr rfl) rfl ?_
      refine st (s_loadB 2 rfl rfl rfl) rfl ?_
      refine st (s_move rfl) rfl ?_
      refine st (s_move rfl) rfl ?_
      refine st (s_callk (minus_ok _ _ (by omega) h1) rfl ⟨VT.le_refl _, VT.le_refl _, trivial⟩) rfl ?_
      refine st (s_callk (value_ok _ _) rfl ⟨VT.le_refl _, VT.le_refl _, trivial⟩) rfl ?_
      refine Run.nil ?_
      refine a_storeB 0 rfl rfl rfl rfl rfl (leN rfl) rfl ?_
      refine Run.nil ?_
      refine pj_then ?_
      refine J_ret ?_
      exact retc1 Try.results70 (.cellB 0 rfl rfl rfl (bigT_eq (by unfold sv; cases n1 <;> cases n2 <;> simp at hc ⊢ <;> omega)))
theorem Sub_ok (n1 n2 : Bool) (v1 v2 : Nat) (h1 : (digs v1).length ≤ 1099511627776) (h2 : (digs v2).length ≤ 1099511627776) : Ok Try.prog 76 [sgT n1 v1, sgT n2 v2] (bigT (sv n1 v1 - sv n2 v2)) := by
  refine Ok.enter Try.func76 rfl Try.ntmps76 rfl (fun w O => ?_)
  refine J_seq ?_
  refine J_reg ?_
  refine a_boxS rfl rfl (ltN rfl) (fun b => ?_)
  refine a_boxS rfl rfl (ltN rfl) (fun b => ?_)
  refine a_alloc (T := 29) rfl (ltN rfl) (fun b => ?_)
  refine Run.nil ?_
  refine pj_then ?_
  refine J_seq ?_
  refine J_reg ?_
  refine st (s_loadW 2 rfl rfl) rfl ?_
  refine st (s_fieldAddr rfl) rfl ?_
  refine st (s_loadB 1 rfl rfl rfl) rfl ?_
  refine st (s_not rfl) rfl ?_
  refine st (s_fieldAddr rfl) rfl ?_
  refine st (s_loadB 1 rfl rfl rfl) rfl ?_
  refine stB rfl rfl rfl ?_
  refine BuildK.cons rfl rfl rfl ?_
  refine BuildK.cons rfl rfl rfl ?_
  refine BuildK.nil ?_
  refine st (s_callk (Add_ok n1 (!n2) v1 v2 h1 h2) rfl ⟨VT.le_refl _, VT.le_refl _, trivial⟩) rfl ?_
  refine a_storeB 0 rfl rfl rfl rfl rfl (leN rfl) rfl ?_
  refine Run.nil ?_
  refine pj_then ?_
  refine J_ret ?_
  exact retc1 Try.results76 (.cellB 0 rfl rfl rfl (bigT_eq (by unfold sv; cases n2 <;> simp <;> omega)))
theorem Mul_ok (n1 n2 : Bool) (v1 v2 : Nat) (h1 : (digs v1).length ≤ 1099511627776) (h2 : (digs v2).length ≤ 1099511627776) : Ok Try.prog 69 [sgT n1 v1, sgT n2 v2] (bigT (sv n1 v1 * sv n2 v2)) := by
  refine Ok.enter Try.func69 rfl Try.ntmps69 rfl (fun w O => ?_)
  refine J_seq ?_
  refine J_reg ?_
  refine a_boxS rfl rfl (ltN rfl) (fun b => ?_)
  refine a_boxS rfl rfl (ltN rfl) (fun b => ?_)
  refine a_alloc (T := 29) rfl (ltN rfl) (fun b => ?_)
  refine Run.nil ?_
  refine pj_then ?_
  refine J_seq ?_
  refine J_regd 13 mixed (by kernel_rfl) (by decide) ?_
  refine st (s_fieldAddr rfl) rfl ?_
  refine st (s_loadB 2 rfl rfl rfl) rfl ?_
  refine st (s_fieldAddr rfl) rfl ?_
  refine st (s_loadB 1 rfl rfl rfl) rfl ?_
  refine st (s_neB rfl rfl) rfl ?_
  refine st (s_fieldAddr rfl) rfl ?_
  refine st (s_loadB 2 rfl rfl rfl) rfl ?_
  refine st (s_callk (trim_ok _) rfl ⟨natT_digs _, trivial⟩) rfl ?_
  refine st (s_fieldAddr rfl) rfl ?_
  refine st (s_loadB 1 rfl rfl rfl) rfl ?_
  refine st (s_callk (trim_ok _) rfl ⟨natT_digs _, trivial⟩) rfl ?_
  skip
  refine st (s_callk (times_ok _ _ h1 h2) rfl ⟨VT.le_refl _, VT.le_refl _, trivial⟩) rfl ?_
  refine st (s_callk (value_ok _ _) rfl ⟨VT.le_refl _, VT.le_refl _, trivial⟩) rfl ?_
  refine Run.nil ?_
  refine a_storeB 0 rfl rfl rfl rfl rfl (leN rfl) rfl ?_
  refine Run.nil ?_
  refine pj_then ?_
  refine J_ret ?_
  exact retc1 Try.results69 (.cellB 0 rfl rfl rfl (bigT_eq (by unfold sv; cases n1 <;> cases n2 <;> simp [Int.neg_mul, Int.mul_neg])))
theorem cmp_sgn {n1 n2 : Bool} {v1 v2 : Nat} (h : sgnI (sv n1 v1) = sgnI (sv n2 v2)) : IntKind.i64.wrap (sgnI (sv n1 v1) * cmpN v1 v2) = cmpI (sv n1 v1) (sv n2 v2) := by
  have key : sgnI (sv n1 v1) * cmpN v1 v2 = cmpI (sv n1 v1) (sv n2 v2) := by
    unfold sgnI sv cmpN cmpI at *
    cases n1 <;> cases n2 <;> simp only [if_true, if_false, Bool.false_eq_true] at * <;> (repeat' split at h) <;> (try omega) <;> (repeat' split) <;> omega
  rw [key]
  unfold cmpI; split
  · decide
  · split <;> decide
theorem Cmp_ok (n1 n2 : Bool) (v1 v2 : Nat) : Ok Try.prog 83 [sgT n1 v1, sgT n2 v2] (one (.int .i64 (cmpI (sv n1 v1) (sv n2 v2)))) := by
  refine Ok.enter Try.func83 rfl Try.ntmps83 rfl (fun w O => ?_)
  refine J_seq ?_
  refine J_reg ?_
  refine a_boxS rfl rfl (ltN rfl) (fun b => ?_)
  refine a_boxS rfl rfl (ltN rfl) (fun b => ?_)
  refine st (s_assign rfl) rfl ?_
  refine Run.nil ?_
  refine pj_then ?_
  refine J_seq ?_
  refine J_regd 6 mixed (by kernel_rfl) (by decide) ?_
  refine st (s_loadW 1 rfl rfl) rfl ?_
  refine st (s_callk (Sign_ok n1 v1) rfl ⟨VT.le_refl _, trivial⟩) rfl ?_
  refine st (s_loadW 0 rfl rfl) rfl ?_
  refine st (s_callk (Sign_ok n2 v2) rfl ⟨VT.le_refl _, trivial⟩) rfl ?_
  refine st (s_assign rfl) rfl ?_
  refine st (s_assign rfl) rfl ?_
  refine Run.nil ?_
  refine Run.nil ?_
  refine pj_then ?_
  refine J_seq ?_
  refine J_seq ?_
  refine J_reg ?_
  refine st (s_move rfl) rfl ?_
  refine st (s_move rfl) rfl ?_
  refine st (s_ne rfl rfl) rfl ?_
  refine Run.nil ?_
  refine pj_then ?_
  refine J_cond rfl (fun hc => ?_) (fun hc => ?_) <;> simp only [decide_eq_true_eq, decide_eq_false_iff_not, ne_eq, Decidable.not_not] at hc
  · refine J_seq ?_
    refine J_reg ?_
    refine st (s_move rfl) rfl ?_
    refine st (s_move rfl) rfl ?_
    refine st (s_callk (cmpCompare_int _ _) rfl ⟨VT.le_refl _, VT.le_refl _, trivial⟩) rfl ?_
    refine st (s_assign rfl) rfl ?_
    refine Run.nil ?_
    refine pj_then ?_
    refine J_ret ?_
    refine pr_then ?_
    exact retc1 Try.results83 (.tmp rfl (one_le (by congr 1; unfold sgnI at *; unfold cmpI; split at hc <;> split at hc <;> (try split at hc) <;> (try split at hc) <;> simp at * <;> (repeat' split) <;> omega)))
  · refine J_skip ?_
    refine pj_then ?_
    refine J_seq ?_
    refine J_regd 10 mixed (by kernel_rfl) (by decide) ?_
    refine st (s_move rfl) rfl ?_
    refine st (s_fieldAddr rfl) rfl ?_
    refine st (s_loadB 1 rfl rfl rfl) rfl ?_
    refine st (s_callk (trim_ok _) rfl ⟨natT_digs _, trivial⟩) rfl ?_
    refine st (s_fieldAddr rfl) rfl ?_
    refine st (s_loadB 0 rfl rfl rfl) rfl ?_
    refine st (s_callk (trim_ok _) rfl ⟨natT_digs _, trivial⟩) rfl ?_
    skip
    refine st (s_callk (compare_ok _ _) rfl ⟨VT.le_refl _, VT.le_refl _, trivial⟩) rfl ?_
    refine st (s_mul (r := cmpI (sv n1 v1) (sv n2 v2)) rfl rfl (cmp_sgn hc)) rfl ?_
    refine st (s_assign rfl) rfl ?_
    refine Run.nil ?_
    refine Run.nil ?_
    refine pj_then ?_
    refine J_ret ?_
    exact retc1 Try.results83 (.tmp rfl (VT.le_refl _))
end Tor
