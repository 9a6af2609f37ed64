/-
  package matrix: Stack.
-/
import Derived.Test.YtmpnikllhpagcaaX9
import Derived.Test.YtmpnikllhpagcaaFwG
import Derived.Test.YtmpnikllhpagcaaFwH
set_option linter.unusedVariables false
set_option linter.unusedSimpArgs false
namespace Tor
open Go Go.RowKit Go.Proofs
theorem ConvM.nilSl {T : TypeId} {L : Lay} {φ : Nat → VT} (M : Mem) : ConvM M (sliO none T L 0 0 φ :: M) :=
  ⟨by simp [sliO], fun g h H o ho => by
    rcases List.mem_cons.1 ho with rfl | ho
    · exact ⟨Nat.le_refl _, by decide, fun _ => rfl, fun b hb => by cases hb⟩
    · exact H o ho⟩
/-- The rows that lie ahead of the i-th matrix. -/
def upTo (ra rb i : Nat) : Nat := if i = 0 then 0 else if i = 1 then ra else ra + rb
/-- Stacked matrices. -/
def stackF (ra : Nat) (F G : Nat → Nat → Int) : Nat → Nat → Int := fun i k => if i < ra then F i k else G (i - ra) k
attribute [local irreducible] Tor.J Tor.PJ Tor.StepO Tor.one Tor.slT Tor.ptrT Tor.aggT Tor.tupT Tor.exT Tor.andT Tor.gT Tor.eP Tor.boxO Tor.sliO Tor.slV Tor.VT.le Tor.Ret Tor.anyT
set_option maxHeartbeats 8000000 in
theorem Stack_ok (ra ca : Nat) (F : Nat → Nat → Int) (rb cb : Nat) (G : Nat → Nat → Int) (h1 : ra ≤ 1048576) (h2 : ca ≤ 1048576) (h3 : rb ≤ 1048576) (hF : ∀ i j, small (F i j)) (hG : ∀ i j, small (G i j)) :
    Ok Try.prog 17 [matF ra ca F, matF rb cb G] (resT (decide (ca = cb)) 50 (ra + rb) ca (stackF ra F G)) := by
  unfold resT
  refine Ok.enter Try.func17 rfl Try.ntmps17 rfl (fun w O => ?_)
  unfold matF
  refine J_seq ?_
  refine J_reg ?_
  refine a_boxS rfl rfl (ltN rfl) (fun b => ?_)
  refine a_boxS rfl rfl (ltN rfl) (fun b => ?_)
  refine a_allocS (T := 33) rfl rfl rfl (fun b => ?_)
  refine st (s_assign rfl) rfl ?_
  refine Run.nil ?_
  refine pj_then ?_
  refine J_seq ?_
  refine J_seq ?_
  refine J_reg ?_
  refine st (s_loadW 2 rfl rfl) rfl ?_
  refine st (s_loadW 1 rfl rfl) rfl ?_
  refine stS rfl rfl rfl rfl ?_
  refine PartsK.cons rfl ?_
  refine PartsK.cons rfl ?_
  refine PartsK.nil ?_
  refine st (s_callk (valid2_ok ra ca F rb cb G) rfl ⟨two_mat2, trivial⟩) rfl ?_
  refine st (s_not rfl) rfl ?_
  refine st (s_move rfl) rfl ?_
  refine sg1 rfl rfl (s_fieldAddr rfl) rfl ?_
  refine sg1 rfl rfl (s_loadB 2 rfl rfl rfl) rfl ?_
  refine sg1 rfl rfl (s_fieldAddr rfl) rfl ?_
  refine sg1 rfl rfl (s_loadB 1 rfl rfl rfl) rfl ?_
  refine sg1 rfl rfl (s_ne rfl rfl) rfl ?_
  refine st (s_pickF rfl rfl) rfl ?_
  refine Run.nil ?_
  refine pj_then ?_
  refine J_cond rfl (fun hc => ?_) (fun hc => ?_) <;> simp only [decide_eq_true_eq, decide_eq_false_iff_not, ne_eq, Decidable.not_not] at hc
  · have hne : ¬ ca = cb := by omega
    refine J_seq ?_
    refine J_reg ?_
    refine stB rfl rfl rfl ?_
    refine BuildK.nil ?_
    refine a_storeW 0 rfl rfl rfl rfl ?_
    refine st (s_assign rfl) rfl ?_
    refine Run.nil ?_
    refine pj_then ?_
    refine J_ret ?_
    refine pr_then ?_
    refine retc2 Try.results17 (.cellW 0 rfl rfl ?_) (.tmp rfl (one_le ?_))
    · rw [decide_eq_false hne]; exact zero_mat _
    · rw [decide_eq_false hne]; rfl
  · have he : ca = cb := by omega
    subst he
    refine J_skip ?_
    refine pj_then ?_
    refine J_seq ?_
    refine J_reg ?_
    refine st (s_fieldAddr rfl) rfl ?_
    refine st (s_loadB 2 rfl rfl rfl) rfl ?_
    refine st (s_fieldAddr rfl) rfl ?_
    refine st (s_loadB 1 rfl rfl rfl) rfl ?_
    (refine st (s_add rfl rfl (wrap_i64 ?_ ?_)) rfl ?_; omega; omega)
    refine st (s_fieldAddr rfl) rfl ?_
    refine st (s_loadB 2 rfl rfl rfl) rfl ?_
    refine stB rfl rfl rfl ?_
    refine BuildK.cons rfl rfl rfl ?_
    refine BuildK.cons rfl rfl rfl ?_
    refine BuildK.nil ?_
    refine a_allocS (T := 33) rfl rfl rfl (fun b => ?_)
    refine a_storeW 0 rfl rfl rfl rfl ?_
    refine Run.nil ?_
    refine pj_then ?_
    refine J_seq ?_
    refine J_seq ?_
    refine J_reg ?_
    refine st (s_loadW 3 rfl rfl) rfl ?_
    refine st (s_loadW 2 rfl rfl) rfl ?_
    refine stB rfl rfl rfl ?_
    refine BuildK.cons rfl rfl rfl ?_
    refine BuildK.cons rfl rfl rfl ?_
    refine BuildK.nil ?_
    refine st (s_move rfl) rfl ?_
    refine Run.nil ?_
    refine pj_then ?_
    refine J_block ?_
    rename_i b2 b3 b4
    have hlk1 : ∀ i, i < 2 → lookC [(0, Lay.agg 3, matF ra ca F), (3, Lay.agg 3, matF rb ca G)] (i * (Lay.agg 3).sz) = some (.agg 3, matF (if i = 0 then ra else rb) ca (if i = 0 then F else G)) := fun i hi => by
      rcases i with _ | _ | i
      · rfl
      · rfl
      · omega
    have hsm1 : ∀ i j k, small ((if i = 0 then F else G) j k) := fun i j k => by split <;> first | exact hF _ _ | exact hG _ _
    revert b
    intro b6
    refine J_conv (ConvM.nilSl (T := 35) (L := .one) (φ := fun q => rowF ca (stackF ra F G q)) _) ?_
    refine J_loop (σ := Nat × Option Nat × Nat) (fun s => [(4, one (.pointer (some ⟨b4, 0, none⟩))), (6, one (.pointer (some ⟨b6, 0, none⟩))), (34, aggT 6 [(0, .agg 3, matF ra ca F), (3, .agg 3, matF rb ca G)]), (35, one (.int .i64 (s.1 : Nat)))])
      (fun s => [sliO s.2.1 35 .one s.2.2 (upTo ra rb s.1) (fun q => rowF ca (stackF ra F G q)), boxO b6 33 3 [(0, .one, one (.int .i64 ((ra : Int) + rb))), (1, .one, one (.int .i64 ca)), (2, .one, one (slV s.2.1 (upTo ra rb s.1) s.2.2))],
        boxO b4 33 3 (zeroC #[Value.int IntKind.i64 0, Value.int IntKind.i64 0, Value.slice none 0 0] [(0, Lay.one), (1, Lay.one), (2, Lay.one)])])
      (fun s => s.1 ≤ 2) (fun s => 2 - s.1) (0, none, 0) (Nat.zero_le _) (by repeat (first | exact SubG.nil | refine SubG.cons rfl (VT.le_refl _) ?_ | (refine SubG.cons rfl (one_le ?_) ?_; (congr 1; first | omega | (simp; omega) | simp)))) (.keep (Own.le_refl _) (.keep (boxO_le fun q hq => ?_) (.keep (Own.le_refl _) (SubM.nilR _)))) (fun s hs => ?_)
    · rcases List.mem_cons.1 hq with rfl | hq
      · exact ⟨_, List.mem_cons_self, VT.le_refl _⟩
      rcases List.mem_cons.1 hq with rfl | hq
      · exact ⟨_, List.mem_cons_of_mem _ List.mem_cons_self, VT.le_refl _⟩
      rcases List.mem_cons.1 hq with rfl | hq
      · exact ⟨one (.slice none 0 0), List.mem_cons_of_mem _ (List.mem_cons_of_mem _ List.mem_cons_self), one_le (by simp [upTo, slV])⟩
      · cases hq
    obtain ⟨i, sv0, cap0⟩ := s
    simp only at hs ⊢
    refine J_seq ?_
    refine J_reg ?_
    refine st (s_lt rfl rfl) rfl ?_
    refine Run.nil ?_
    refine pj_then ?_
    refine J_seq ?_
    refine J_cond rfl (fun hc => ?_) (fun hc => ?_) <;> simp only [decide_eq_true_eq, decide_eq_false_iff_not] at hc
    · have hi2 : i < 2 := by omega
      have hup : upTo ra rb i ≤ 2097152 ∧ upTo ra rb i + (if i = 0 then ra else rb) = upTo ra rb (i + 1) ∧ upTo ra rb i + (if i = 0 then ra else rb) ≤ 2097152 := by
        unfold upTo
        rcases i with _ | _ | i
        · simp; omega
        · simp; omega
        · omega
      have hrow : ∀ j, j < (if i = 0 then ra else rb) → (if i = 0 then F else G) j = stackF ra F G (upTo ra rb i + j) := fun j hj => by
        unfold upTo stackF
        rcases i with _ | _ | i
        · simp at hj ⊢; funext k; rw [if_pos hj]
        · simp; funext k; rw [if_neg (by omega)]
        · omega
      have hlk := hlk1 i hi2
      have hsm := fun j k => hsm1 i j k
      generalize (if i = 0 then F else G) = H at *
      generalize (if i = 0 then ra else rb) = R at *
      refine J_skip ?_
      refine pj_then ?_
      refine J_seq ?_
      refine J_block ?_
      refine J_seq ?_
      refine J_reg ?_
      refine st (s_indexA rfl rfl hi2 hlk) rfl ?_
      unfold matF
      refine a_allocS (T := 33) rfl rfl rfl (fun b => ?_)
      refine a_storeW 0 rfl rfl rfl rfl ?_
      refine Run.nil ?_
      refine pj_then ?_
      refine J_seq ?_
      refine J_reg ?_
      refine st (s_fieldAddr rfl) rfl ?_
      refine st (s_loadB 0 rfl rfl rfl) rfl ?_
      refine st (s_len rfl) rfl ?_
      refine st (s_move rfl) rfl ?_
      refine Run.nil ?_
      refine pj_then ?_
      refine J_block ?_
      refine J_loop (σ := Nat × Option Nat × Nat) (fun s => [(4, one (.pointer (some ⟨b4, 0, none⟩))), (6, one (.pointer (some ⟨b6, 0, none⟩))), (34, aggT 6 [(0, .agg 3, matF ra ca F), (3, .agg 3, matF rb ca G)]), (35, one (.int .i64 (i : Nat))), (39, slT .one R (fun q => rowF ca (H q))), (40, one (.int .i64 R)), (41, one (.int .i64 (s.1 : Nat)))])
        (fun s => [sliO s.2.1 35 .one s.2.2 (upTo ra rb i + s.1) (fun q => rowF ca (stackF ra F G q)), boxO b6 33 3 [(0, .one, one (.int .i64 ((ra : Int) + rb))), (1, .one, one (.int .i64 ca)), (2, .one, one (slV s.2.1 (upTo ra rb i + s.1) s.2.2))],
          boxO b4 33 3 (zeroC #[Value.int IntKind.i64 0, Value.int IntKind.i64 0, Value.slice none 0 0] [(0, Lay.one), (1, Lay.one), (2, Lay.one)])])
        (fun s => s.1 ≤ R) (fun s => R - s.1) (0, sv0, cap0) (Nat.zero_le _) (by unfold matF; repeat (first | exact SubG.nil | refine SubG.cons rfl (VT.le_refl _) ?_ | (refine SubG.cons rfl (one_le ?_) ?_; (congr 1; first | omega | (simp; omega) | simp)))) (.drop (.keep (Own.le_refl _) (.keep (Own.le_refl _) (SubM.refl _)))) (fun s hs2 => ?_)
      obtain ⟨j, sv1, cap1⟩ := s
      simp only at hs2 ⊢
      refine J_seq ?_
      refine J_reg ?_
      refine st (s_lt rfl rfl) rfl ?_
      refine Run.nil ?_
      refine pj_then ?_
      refine J_seq ?_
      refine J_cond rfl (fun hc2 => ?_) (fun hc2 => ?_) <;> simp only [decide_eq_true_eq, decide_eq_false_iff_not, Int.ofNat_lt] at hc2
      · refine J_skip ?_
        refine pj_then ?_
        refine J_seq ?_
        refine J_block ?_
        refine J_seq ?_
        refine J_reg ?_
        (refine st (s_indexIN rfl rfl ?_) rfl ?_; omega)
        refine st (s_load rfl) rfl ?_
        refine st (s_assign rfl) rfl ?_
        refine Run.nil ?_
        refine pj_then ?_
        refine J_regdT 5 mixed (by kernel_rfl) (by decide) ?_
        refine st (s_fieldAddr rfl) rfl ?_
        refine st (s_loadB 1 rfl rfl rfl) rfl ?_
        refine st (s_move rfl) rfl ?_
        refine st (s_callk (ownRow_ok ca 0 (H j) (fun _ => 0) h2 (by decide) (hsm j) (fun _ => small_lt (by decide +kernel))) rfl ⟨VT.le_refl _, nil_slT, trivial⟩) rfl ?_
        have hfl : Flat (rowF (ca + 0) fun k => if k < ca then H j k else 0) .one := by unfold rowF; infer_instance
        have hfl2 : ∀ q, Flat (rowF ca (stackF ra F G q)) .one := fun q => by unfold rowF; infer_instance
        refine stS1 rfl rfl rfl rfl ?_
        refine Run.nil ?_
        (refine a_append 0 rfl rfl rfl (leN rfl) ?_ ?_ rfl (ltN rfl) (fun sv cap => ?_); omega; omega)
        refine st (s_fieldAddr rfl) rfl ?_
        refine a_storeB 1 rfl rfl rfl rfl rfl (leN rfl) rfl ?_
        refine Run.nil ?_
        refine pn_block ?_
        refine pj_then ?_
        refine J_reg ?_
        (refine st (s_add rfl rfl (wrap_i64 ?_ ?_)) rfl ?_; omega; omega)
        refine st (s_move rfl) rfl ?_
        refine Run.nil ?_
        refine pj_round (s := (j, sv1, cap1)) (j + 1, sv, cap) (show _ from by simp only; omega) (by show R - (j + 1) < R - j; omega) (by unfold matF; repeat (first | exact SubG.nil | refine SubG.cons rfl (VT.le_refl _) ?_ | (refine SubG.cons rfl (one_le ?_) ?_; (congr 1; first | omega | (simp; omega) | simp)))) (.keep (sliO_le fun q hq => ?_) (.keep (Own.le_refl _) (SubM.refl _)))
        by_cases h : q < upTo ra rb i + j
        · rw [if_pos h]; exact VT.le_refl _
        · have e : q = upTo ra rb i + j := by omega
          subst e
          rw [if_neg h, ← hrow j hc2]
          unfold rowF
          exact slT_le' (by simp) (fun k hk => by show bigT (if k < ca then H j k else 0) = _; rw [if_pos (by omega)])
      · have hj : j = R := by omega
        subst hj
        refine J_exit ?_
        refine px_then ?_
        refine px_then ?_
        refine px_block ?_
        refine pn_block ?_
        refine pj_then ?_
        refine J_reg ?_
        (refine st (s_add rfl rfl (wrap_i64 ?_ ?_)) rfl ?_; omega; omega)
        refine st (s_move rfl) rfl ?_
        refine Run.nil ?_
        have e := hup.2.1
        rw [e]
        exact pj_round (s := (i, sv0, cap0)) (i + 1, sv1, cap1) (show _ from by simp only; omega) (by show 2 - (i + 1) < 2 - i; omega) (by unfold matF; repeat (first | exact SubG.nil | refine SubG.cons rfl (VT.le_refl _) ?_ | (refine SubG.cons rfl (one_le ?_) ?_; (congr 1; first | omega | (simp; omega) | simp)))) (.keep (Own.le_refl _) (.keep (Own.le_refl _) (SubM.refl _)))
    · have hi2 : i = 2 := by omega
      subst hi2
      refine J_exit ?_
      refine px_then ?_
      refine px_then ?_
      refine px_block ?_
      refine pj_then ?_
      refine J_seq ?_
      refine J_reg ?_
      refine st (s_loadW 1 rfl rfl) rfl ?_
      refine a_storeW 2 rfl rfl rfl rfl ?_
      refine st (s_assign rfl) rfl ?_
      refine Run.nil ?_
      refine pj_then ?_
      refine J_ret ?_
      have e2 : upTo ra rb 2 = ra + rb := by simp [upTo]
      rw [e2]
      refine PJ_open [sliO sv0 35 .one cap0 (ra + rb) (fun q => rowF ca (stackF ra F G q))] (List.Perm.refl _) (.keep (EntO.refl _) (.keep (EntO.box (cs' := [(0, .one, one (.int .i64 ((ra + rb : Nat) : Int))), (1, .one, one (.int .i64 ca)), (2, .one, slT .one (ra + rb) (fun q => rowF ca (stackF ra F G q)))])
        (.cons List.mem_cons_self (Ent.le (one_le (by simp))) (.cons (List.mem_cons_of_mem _ List.mem_cons_self) (Ent.refl _) (.cons (List.mem_cons_of_mem _ (List.mem_cons_of_mem _ List.mem_cons_self)) (Ent.sl List.mem_cons_self) .nil)))) .nil)) (EntG.refl _) ?_
      refine retc2 Try.results17 (.cellW 1 rfl rfl ?_) (.tmp rfl (one_le ?_))
      · simp only [decide_true, if_true]
        exact VT.le_refl _
      · simp
end Tor
