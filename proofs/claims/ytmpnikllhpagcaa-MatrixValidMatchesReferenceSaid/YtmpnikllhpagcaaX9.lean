/-
  package matrix: Mul.
-/
import Derived.Test.YtmpnikllhpagcaaX8
import Derived.Test.YtmpnikllhpagcaaFwF
set_option linter.unusedVariables false
set_option linter.unusedSimpArgs false
namespace Tor
open Go Go.RowKit Go.Proofs
attribute [local irreducible] Tor.J Tor.PJ Tor.StepO Tor.one Tor.slT Tor.ptrT Tor.aggT Tor.tupT Tor.exT Tor.andT Tor.gT Tor.eP Tor.boxO Tor.sliO Tor.slV Tor.VT.le Tor.Ret Tor.anyT
set_option maxHeartbeats 4000000 in
theorem MMul_ok (ra ca : Nat) (F : Nat → Nat → Int) (rb cb : Nat) (G : Nat → Nat → Int) (h1 : ra ≤ 1048576) (h2 : ca ≤ 1048576) (h4 : cb ≤ 1048576) (hF : ∀ i j, mod4 (F i j)) (hG : ∀ i j, mod4 (G i j)) :
    Ok Try.prog 20 [matF ra ca F, matF rb cb G] (resT (decide (ca = rb)) 50 ra cb (mulF ca F G)) := by
  unfold resT
  refine Ok.enterD Try.func20 rfl Try.ntmps20 rfl (fun w O => ?_)
  unfold matF
  refine J_seq ?_
  refine J_reg ?_
  refine a_boxS rfl rfl (ltN rfl) (fun b => ?_)
  refine a_boxS rfl rfl (ltN rfl) (fun b => ?_)
  refine a_allocS (T := 33) rfl rfl rfl (fun b => ?_)
  refine st (s_assign rfl) rfl ?_
  refine Run.nil ?_
  refine pj_then ?_
  refine J_seq ?_
  refine J_reg ?_
  refine a_defer rfl ?_
  refine Run.nil ?_
  refine pj_then ?_
  refine J_seq ?_
  refine J_seq ?_
  refine J_reg ?_
  refine st (s_loadW 2 rfl rfl) rfl ?_
  refine st (s_loadW 1 rfl rfl) rfl ?_
  refine stS rfl rfl rfl rfl ?_
  refine PartsK.cons rfl ?_
  refine PartsK.cons rfl ?_
  refine PartsK.nil ?_
  refine st (s_callk (valid2_ok ra ca F rb cb G) rfl ⟨two_mat2, trivial⟩) rfl ?_
  refine st (s_not rfl) rfl ?_
  refine st (s_move rfl) rfl ?_
  refine sg1 rfl rfl (s_fieldAddr rfl) rfl ?_
  refine sg1 rfl rfl (s_loadB 2 rfl rfl rfl) rfl ?_
  refine sg1 rfl rfl (s_fieldAddr rfl) rfl ?_
  refine sg1 rfl rfl (s_loadB 1 rfl rfl rfl) rfl ?_
  refine sg1 rfl rfl (s_ne rfl rfl) rfl ?_
  refine st (s_pickF rfl rfl) rfl ?_
  refine Run.nil ?_
  refine pj_then ?_
  rename_i ba bb
  refine J_cond rfl (fun hc => ?_) (fun hc => ?_) <;> simp only [decide_eq_true_eq, decide_eq_false_iff_not, ne_eq, Decidable.not_not] at hc
  · have hne : ¬ ca = rb := by omega
    refine J_seq ?_
    refine J_reg ?_
    refine stB rfl rfl rfl ?_
    refine BuildK.nil ?_
    refine a_storeW 0 rfl rfl rfl rfl ?_
    refine st (s_assign rfl) rfl ?_
    refine Run.nil ?_
    refine pj_then ?_
    refine J_ret ?_
    refine pr_then ?_
    refine pj_idle (retc2 Try.results20 (.cellW 0 rfl rfl ?_) (.tmp rfl (one_le ?_)))
    · rw [decide_eq_false hne]; exact zero_mat _
    · rw [decide_eq_false hne]; rfl
  · have he : ca = rb := by omega
    subst he
    refine J_skip ?_
    refine pj_then ?_
    refine J_seq ?_
    refine J_regF mixed (by kernel_rfl) (by kernel_rfl) (fun a1 w1 hS1 => ?_)
    refine ux (fun B => s_fieldAddr rfl) rfl rfl ?_
    refine ux (fun B => s_loadB 2 rfl rfl rfl) rfl rfl ?_
    refine ux (fun B => s_fieldAddr rfl) rfl rfl ?_
    refine ux (fun B => s_loadB 1 rfl rfl rfl) rfl rfl ?_
    refine ux (fun B => s_fieldAddr rfl) rfl rfl ?_
    refine ux (fun B => s_loadB 2 rfl rfl rfl) rfl rfl ?_
    refine ux (fun B => s_makeSliceF w1.heap.size ra rfl rfl rfl rfl rfl rfl rfl ?_) rfl rfl ?_
    · omega
    refine uB rfl rfl rfl ?_
    refine BuildK.cons rfl rfl rfl ?_
    refine BuildK.cons rfl rfl rfl ?_
    refine BuildK.cons rfl rfl rfl ?_
    refine BuildK.nil ?_
    refine ua rfl ?_
    refine us rfl ?_
    refine .nil (fun γ a2 w2 hS2 hx hk2 => ?_)
    obtain ⟨b2, hS3⟩ := St_claimBR (t := 6) (b := γ 6) (T := 33) (m := 3) (k := 2) (n := ra) (cs1 := [(0, .one, one (.int .i64 ra)), (1, .one, one (.int .i64 cb))])
      (Γk := [(2, one (.pointer (some ⟨ba, 0, none⟩))), (3, one (.pointer (some ⟨bb, 0, none⟩))), (4, one (.pointer (some ⟨b, 0, none⟩)))])
      hS1 rfl hS2 hx hk2 (.cons rfl (by kernel_rfl) (.cons rfl (by kernel_rfl) (.cons rfl (by kernel_rfl) .nil))) rfl rfl (fun q hq => by
        rcases List.mem_cons.1 hq with rfl | hq
        · exact ⟨_, rfl, rfl⟩
        rcases List.mem_cons.1 hq with rfl | hq
        · exact ⟨_, rfl, rfl⟩
        cases hq)
    generalize γ 6 = b6 at hS3
    refine PJ_app ?_ hS3
    clear hS3 hS2 hx hk2 hS1
    refine pj_then ?_
    refine J_seq ?_
    refine J_seq ?_
    refine J_reg ?_
    refine st (s_fieldAddr rfl) rfl ?_
    refine st (s_loadB 4 rfl rfl rfl) rfl ?_
    refine st (s_len rfl) rfl ?_
    refine st (s_move rfl) rfl ?_
    refine Run.nil ?_
    refine pj_then ?_
    refine J_block ?_
    refine J_loop (σ := Nat) (fun i => [(3, one (.pointer (some ⟨bb, 0, none⟩))), (4, one (.pointer (some ⟨b, 0, none⟩))), (6, one (.pointer (some ⟨b6, 0, none⟩))), (31, slT .one ra (fun i => rowF ca (F i))), (32, one (.int .i64 ra)), (33, one (.int .i64 (i : Nat)))])
      (fun i => [boxO b6 33 3 [(2, .one, one (slV (some b2) ra ra)), (0, .one, one (.int .i64 ra)), (1, .one, one (.int .i64 cb))], sliO (some b2) 35 .one ra ra (fun q => if q < i then rowF cb (mulF ca F G q) else anyT),
        boxO b 33 3 (zeroC #[Value.int IntKind.i64 0, Value.int IntKind.i64 0, Value.slice none 0 0] [(0, Lay.one), (1, Lay.one), (2, Lay.one)]),
        boxO bb 33 3 [(0, .one, one (.int .i64 ca)), (1, .one, one (.int .i64 cb)), (2, .one, slT .one ca fun i => rowF cb (G i))]])
      (fun i => i ≤ ra) (fun i => ra - i) 0 (Nat.zero_le _) (by repeat (first | exact SubG.nil | refine SubG.cons rfl (VT.le_refl _) ?_ | (refine SubG.cons rfl (one_le ?_) ?_; (congr 1; first | omega | (simp; omega) | simp)))) (.keep (Own.le_refl _) (.keep (sliO_le fun q hq => by rw [if_neg (by omega)]; exact le_any _) (.keep (Own.le_refl _) (.keep (Own.le_refl _) (.drop .nil))))) (fun i hi => ?_)
    refine J_seq ?_
    refine J_reg ?_
    refine st (s_lt rfl rfl) rfl ?_
    refine Run.nil ?_
    refine pj_then ?_
    refine J_seq ?_
    refine J_cond rfl (fun hc => ?_) (fun hc => ?_) <;> simp only [decide_eq_true_eq, decide_eq_false_iff_not, Int.ofNat_lt] at hc
    · refine J_skip ?_
      refine pj_then ?_
      refine J_seq ?_
      refine J_block ?_
      refine J_seq ?_
      refine J_reg ?_
      refine st (s_move rfl) rfl ?_
      (refine st (s_indexIN rfl rfl ?_) rfl ?_; omega)
      refine st (s_load rfl) rfl ?_
      refine st (s_assign rfl) rfl ?_
      refine st (s_assign rfl) rfl ?_
      refine Run.nil ?_
      refine pj_then ?_
      refine J_regd 7 mixed (by kernel_rfl) (by decide) ?_
      refine st (s_fieldAddr rfl) rfl ?_
      refine st (s_loadB 0 rfl rfl rfl) rfl ?_
      refine st (s_move rfl) rfl ?_
      refine st (s_move rfl) rfl ?_
      refine st (s_loadW 3 rfl rfl) rfl ?_
      refine st (s_callk (mtimes_ok ca cb (F i) G h2 h4 (hF i) hG) rfl ⟨VT.le_refl _, VT.le_refl _, trivial⟩) rfl ?_
      have hfl : Flat (rowF cb fun j => sumF ca fun k => F i k * G k j) .one := by unfold rowF; infer_instance
      (refine st (s_indexON rfl rfl ?_) rfl ?_; omega)
      refine Run.nil ?_
      (refine a_storeE 1 rfl rfl rfl ?_ rfl ?_; omega)
      refine Run.nil ?_
      refine pn_block ?_
      refine pj_then ?_
      refine J_reg ?_
      (refine st (s_add rfl rfl (wrap_i64 ?_ ?_)) rfl ?_; omega; omega)
      refine st (s_move rfl) rfl ?_
      refine Run.nil ?_
      refine pj_round (s := i) (i + 1) (show _ from by omega) (by show ra - (i + 1) < ra - i; omega) (by repeat (first | exact SubG.nil | refine SubG.cons rfl (VT.le_refl _) ?_ | (refine SubG.cons rfl (one_le ?_) ?_; (congr 1; first | omega | (simp; omega) | simp)))) (.keep (Own.le_refl _) (.keep (sliO_eq fun q hq => ?_) (SubM.refl _)))
      unfold upd
      by_cases h : q = i
      · subst h; rw [if_pos rfl, if_pos (by omega)]; rfl
      · rw [if_neg h]
        have e : q < i + 1 ↔ q < i := by omega
        simp only [e]
    · have hin : i = ra := by omega
      subst hin
      refine J_exit ?_
      refine px_then ?_
      refine px_then ?_
      refine px_block ?_
      refine pj_then ?_
      refine J_seq ?_
      refine J_reg ?_
      refine st (s_loadW 0 rfl rfl) rfl ?_
      refine a_storeW 2 rfl rfl rfl rfl ?_
      refine st (s_assign rfl) rfl ?_
      refine Run.nil ?_
      refine pj_then ?_
      refine J_ret ?_
      have hperm : ∀ (x y z u : Own), [x, y, z, u].Perm ([y] ++ [x, z, u]) := fun x y z u => List.Perm.swap y x _
      refine PJ_open [sliO (some b2) 35 .one i i (fun q => if q < i then rowF cb (mulF ca F G q) else anyT)] (hperm _ _ _ _) (.keep (EntO.refl _) (.keep (EntO.box (cs' := [(0, .one, one (.int .i64 i)), (1, .one, one (.int .i64 cb)), (2, .one, slT .one i (fun q => rowF cb (mulF ca F G q)))]) (.cons (by simp) (Ent.refl _) (.cons (by simp) (Ent.refl _) (.cons List.mem_cons_self (Ent.slE List.mem_cons_self (fun q hq => Ent.le (by rw [if_pos hq]; exact VT.le_refl _))) .nil)))) (.keep (EntO.refl _) .nil))) (EntG.refl _) ?_
      refine pj_idle (retc2 Try.results20 (.cellW 1 rfl rfl ?_) (.tmp rfl (one_le ?_)))
      · simp only [decide_true, if_true]
        exact VT.le_refl _
      · simp
end Tor
