/-
  torsionlaw05: sanity answers true.
-/
import Derived.Test.YtmpnikllhpagcaaXB
set_option linter.unusedVariables false
set_option linter.unusedSimpArgs false
namespace Tor
open Go Go.RowKit Go.Proofs
section
variable {P : Program} {E : Env} {D : List Deferred} {Γ : Ctx} {M : Mem} {ops : Array Oper} {i : Nat} {os : List Oper} {ty : TypeId} {pos : String} {af : Array Edge}
theorem stBg {dr : Bool} {K' : List Deferred → Ctx → Mem → Prop} {j : Nat} {want : Bool} {t : Nat} {T : TypeId} {m d : Nat} {z : Array Value} {pl : List (Nat × Lay)} [hB : BuildOf P T m z pl] {parts : Array (Nat × Operand)}
    (hg : guardT ops ⟨some d, .build T parts, ty, pos, af, some (j, want)⟩ = some (some t, want)) (hb : look Γ t = some (one (.bool want)))
    (hz : (pl.all fun q => (valAt q.2 z q.1).isSome && decide (q.1 + q.2.sz ≤ m)) = true) (hap : apartC (zeroC z pl) = true) (hd : Nat.ble (d + 1) E.N = true)
    (h : BuildK Γ pl (fun C => Run P E ops dr (i + 1) D ((d, aggT m C) :: Γ) M os K') (zeroC z pl) parts.toList) : Run P E ops dr i D Γ M (⟨some d, .build T parts, ty, pos, af, some (j, want)⟩ :: os) K' :=
  let ⟨_, h1, h2⟩ := h.ok; sg1 hg hb (s_build h1 hz hap) hd h2
end
instance {r c : Nat} {l : List Int} : Flat (IN r c l) (.agg 3) := by unfold IN matF; infer_instance
theorem raw10 : VT.le (aggT 3 (setC (zeroC #[Value.int IntKind.i64 0, Value.int IntKind.i64 0, Value.slice none 0 0] [(0, Lay.one), (1, Lay.one), (2, Lay.one)]) 0 (one (.int .i64 1)))) (rawMatT 1 0 []) := by
  unfold rawMatT
  refine aggT_le (fun q hq => ?_)
  rcases List.mem_cons.1 hq with rfl | hq
  · exact ⟨_, List.mem_cons_self, VT.le_refl _⟩
  rcases List.mem_cons.1 hq with rfl | hq
  · exact ⟨_, List.mem_cons_of_mem _ List.mem_cons_self, VT.le_refl _⟩
  rcases List.mem_cons.1 hq with rfl | hq
  · exact ⟨_, List.mem_cons_of_mem _ (List.mem_cons_of_mem _ List.mem_cons_self), nil_slT⟩
  · cases hq
theorem row12 : VT.le (rowF 2 (intsF 2 [1, 2] (0 : Int).toNat)) (vecT [1, 2]) := VT.le_trans (rowF_vec 2 (intsF 2 [1, 2] (0 : Int).toNat)) (le_eq (congrArg vecT (by decide)))
theorem slT1_num (x : Int) : VT.le (slT .one 1 (fun _ => one (.int .i64 x))) (numT .i64 [x]) := by
  unfold numT
  exact slT_le' rfl fun i hi => by
    have : i = 0 := by omega
    subst this; rfl
theorem slT1_row (x : Int) : VT.le (slT (.agg 2) 1 (fun _ => bigT x)) (row [x]) := by
  unfold row rowF
  exact slT_le' rfl fun i hi => by
    have : i = 0 := by omega
    subst this; rfl
attribute [local irreducible] Tor.J Tor.PJ Tor.StepO Tor.one Tor.slT Tor.ptrT Tor.aggT Tor.tupT Tor.exT Tor.andT Tor.gT Tor.eP Tor.boxO Tor.sliO Tor.slV Tor.VT.le Tor.Ret Tor.anyT
attribute [local irreducible] bigT Tor.rowsO
set_option maxRecDepth 4000 in
set_option maxHeartbeats 20000000 in
theorem sanity_ok : Ok Try.prog 10 [] (one (.bool true)) := by
  refine Ok.enter Try.func10 rfl Try.ntmps10 rfl (fun w O => ?_)
  refine J_seq ?_
  refine J_reg ?_
  refine st (s_assign rfl) rfl ?_
  refine Run.nil ?_
  refine pj_then ?_
  refine J_seq ?_
  refine J_reg ?_
  refine stS rfl rfl rfl rfl ?_
  refine PartsK.cons rfl ?_
  refine PartsK.cons rfl ?_
  refine PartsK.cons rfl ?_
  refine PartsK.cons rfl ?_
  refine PartsK.nil ?_
  refine st (s_callk (ints_ok 2 2 [1, 2, 3, 4] (by decide) (by decide) (by decide)) rfl ⟨one_le rfl, one_le rfl, num_le .i64 [1, 2, 3, 4], trivial⟩) rfl ?_
  refine a_allocS (T := 33) rfl rfl rfl (fun b => ?_)
  refine a_storeW 0 rfl rfl rfl rfl ?_
  refine Run.nil ?_
  refine pj_then ?_
  refine J_seq ?_
  refine J_reg ?_
  refine stS rfl rfl rfl rfl ?_
  refine PartsK.cons rfl ?_
  refine PartsK.cons rfl ?_
  refine PartsK.nil ?_
  refine st (s_callk (ints_ok 1 2 [1, 2] (by decide) (by decide) (by decide)) rfl ⟨one_le rfl, one_le rfl, num_le .i64 [1, 2], trivial⟩) rfl ?_
  refine a_allocS (T := 33) rfl rfl rfl (fun b => ?_)
  refine a_storeW 0 rfl rfl rfl rfl ?_
  refine Run.nil ?_
  refine pj_then ?_
  refine J_seq ?_
  refine J_regU mixed (by kernel_rfl) (by kernel_rfl) ?_
  refine ux (fun B => s_loadW 1 rfl rfl) rfl rfl ?_
  refine uS rfl rfl rfl rfl ?_
  refine PartsK.cons rfl ?_
  refine PartsK.cons rfl ?_
  refine PartsK.cons rfl ?_
  refine PartsK.cons rfl ?_
  refine PartsK.nil ?_
  refine ux (fun B => s_callk (ints_ok 2 2 [0, 1, 1, 0] (by decide) (by decide) (by decide)) rfl ⟨one_le rfl, one_le rfl, num_le .i64 [0, 1, 1, 0], trivial⟩) rfl rfl ?_
  refine ux (fun B => s_callk (ex_a) rfl ⟨VT.le_refl _, VT.le_refl _, trivial⟩) rfl rfl ?_
  refine ux (fun B => s_move rfl) rfl rfl ?_
  refine ux (fun B => s_extract rfl rfl) rfl rfl ?_
  refine ux (fun B => s_extract rfl rfl) rfl rfl ?_
  refine ua rfl ?_
  refine us rfl ?_
  refine ux (fun B => s_assign rfl) rfl rfl ?_
  refine RunU.nil (fun γ => ?_); simp only [ptrG, boxM, List.map_cons, List.map_nil, List.cons_append, List.nil_append]
  refine PJ_sub (Γ' := [(1, _), (2, _), (3, _), (4, _)]) (SubG.cons rfl (VT.le_refl _) (SubG.cons rfl (VT.le_refl _) (SubG.cons rfl (VT.le_refl _) (SubG.cons rfl (VT.le_refl _) (SubG.nil))))) (SubM.refl _) ?_
  refine pj_then ?_
  refine J_seq ?_
  refine J_regU mixed (by kernel_rfl) (by kernel_rfl) ?_
  skip
  refine ux (fun B => s_callk (rOf_ok 1 (by decide) (by decide)) rfl ⟨VT.le_refl _, trivial⟩) rfl rfl ?_
  refine ux (fun B => s_callk (rOf_ok (-1) (by decide) (by decide)) rfl ⟨VT.le_refl _, trivial⟩) rfl rfl ?_
  refine uS rfl rfl rfl rfl ?_
  refine PartsK.cons rfl ?_
  refine PartsK.cons rfl ?_
  refine PartsK.nil ?_
  refine ux (fun B => s_loadW 2 rfl rfl) rfl rfl ?_
  refine ux (fun B => s_callk (ex_b) rfl ⟨vec_le [1, -1], VT.le_refl _, trivial⟩) rfl rfl ?_
  refine ux (fun B => s_move rfl) rfl rfl ?_
  refine ux (fun B => s_extract rfl rfl) rfl rfl ?_
  refine ux (fun B => s_extract rfl rfl) rfl rfl ?_
  refine ux (fun B => s_assign rfl) rfl rfl ?_
  refine ux (fun B => s_assign rfl) rfl rfl ?_
  refine RunU.nil (fun γ => ?_); simp only [ptrG, boxM, List.map_cons, List.map_nil, List.cons_append, List.nil_append]
  refine PJ_sub (Γ' := [(1, _), (2, _), (3, _), (4, _), (5, _), (6, _)]) (SubG.cons rfl (VT.le_refl _) (SubG.cons rfl (VT.le_refl _) (SubG.cons rfl (VT.le_refl _) (SubG.cons rfl (VT.le_refl _) (SubG.cons rfl (VT.le_refl _) (SubG.cons rfl (VT.le_refl _) (SubG.nil))))))) (SubM.refl _) ?_
  refine pj_then ?_
  refine J_seq ?_
  refine J_regU mixed (by kernel_rfl) (by kernel_rfl) ?_
  refine ux (fun B => s_loadW 1 rfl rfl) rfl rfl ?_
  refine uS rfl rfl rfl rfl ?_
  refine PartsK.cons rfl ?_
  refine PartsK.cons rfl ?_
  refine PartsK.nil ?_
  refine ux (fun B => s_callk (ints_ok 1 2 [3, 4] (by decide) (by decide) (by decide)) rfl ⟨one_le rfl, one_le rfl, num_le .i64 [3, 4], trivial⟩) rfl rfl ?_
  refine ux (fun B => s_callk (ex_c) rfl ⟨VT.le_refl _, VT.le_refl _, trivial⟩) rfl rfl ?_
  refine ux (fun B => s_move rfl) rfl rfl ?_
  refine ux (fun B => s_extract rfl rfl) rfl rfl ?_
  refine ux (fun B => s_extract rfl rfl) rfl rfl ?_
  refine ua rfl ?_
  refine us rfl ?_
  refine ux (fun B => s_assign rfl) rfl rfl ?_
  refine RunU.nil (fun γ => ?_); simp only [ptrG, boxM, List.map_cons, List.map_nil, List.cons_append, List.nil_append]
  refine PJ_sub (Γ' := [(1, _), (2, _), (3, _), (4, _), (5, _), (6, _), (7, _), (8, _)]) (SubG.cons rfl (VT.le_refl _) (SubG.cons rfl (VT.le_refl _) (SubG.cons rfl (VT.le_refl _) (SubG.cons rfl (VT.le_refl _) (SubG.cons rfl (VT.le_refl _) (SubG.cons rfl (VT.le_refl _) (SubG.cons rfl (VT.le_refl _) (SubG.cons rfl (VT.le_refl _) (SubG.nil))))))))) (SubM.refl _) ?_
  refine pj_then ?_
  refine J_seq ?_
  refine J_reg ?_
  refine stS rfl rfl rfl rfl ?_
  refine PartsK.cons rfl ?_
  refine PartsK.cons rfl ?_
  refine PartsK.nil ?_
  refine st (s_callk (ints_ok 2 1 [1, 2] (by decide) (by decide) (by decide)) rfl ⟨one_le rfl, one_le rfl, num_le .i64 [1, 2], trivial⟩) rfl ?_
  refine stS rfl rfl rfl rfl ?_
  refine PartsK.cons rfl ?_
  refine PartsK.cons rfl ?_
  refine PartsK.nil ?_
  refine st (s_callk (ints_ok 2 1 [3, 4] (by decide) (by decide) (by decide)) rfl ⟨one_le rfl, one_le rfl, num_le .i64 [3, 4], trivial⟩) rfl ?_
  skip
  refine st (s_callk (ex_d) rfl ⟨VT.le_refl _, VT.le_refl _, trivial⟩) rfl ?_
  refine st (s_move rfl) rfl ?_
  refine st (s_extract rfl rfl) rfl ?_
  refine st (s_extract rfl rfl) rfl ?_
  refine a_allocS (T := 33) rfl rfl rfl (fun b => ?_)
  refine a_storeW 0 rfl rfl rfl rfl ?_
  refine st (s_assign rfl) rfl ?_
  refine Run.nil ?_
  refine pj_then ?_
  refine J_seq ?_
  refine J_reg ?_
  refine stS rfl rfl rfl rfl ?_
  refine PartsK.cons rfl ?_
  refine PartsK.cons rfl ?_
  refine PartsK.cons rfl ?_
  refine PartsK.cons rfl ?_
  refine PartsK.cons rfl ?_
  refine PartsK.cons rfl ?_
  refine PartsK.nil ?_
  refine st (s_callk (ints_ok 2 3 [1, 2, 3, 4, 5, 6] (by decide) (by decide) (by decide)) rfl ⟨one_le rfl, one_le rfl, num_le .i64 [1, 2, 3, 4, 5, 6], trivial⟩) rfl ?_
  refine stS rfl rfl rfl rfl ?_
  refine PartsK.cons rfl ?_
  refine PartsK.cons rfl ?_
  refine PartsK.nil ?_
  refine stS rfl rfl rfl rfl ?_
  refine PartsK.cons rfl ?_
  refine PartsK.cons rfl ?_
  refine PartsK.nil ?_
  refine st (s_callk (ex_p) rfl ⟨VT.le_refl _, num_le .i64 [1, 1], num_le .i64 [2, 0], trivial⟩) rfl ?_
  refine st (s_move rfl) rfl ?_
  refine st (s_extract rfl rfl) rfl ?_
  refine st (s_extract rfl rfl) rfl ?_
  refine a_allocS (T := 33) rfl rfl rfl (fun b => ?_)
  refine a_storeW 0 rfl rfl rfl rfl ?_
  refine st (s_assign rfl) rfl ?_
  refine Run.nil ?_
  refine pj_then ?_
  refine J_seq ?_
  refine J_reg ?_
  refine st (s_callk (new_mat 2 0 (by decide) (by decide)) rfl ⟨one_le rfl, one_le rfl, trivial⟩) rfl ?_
  refine st (s_callk (new_mat 0 3 (by decide) (by decide)) rfl ⟨one_le rfl, one_le rfl, trivial⟩) rfl ?_
  refine st (s_callk (ex_z) rfl ⟨VT.le_refl _, VT.le_refl _, trivial⟩) rfl ?_
  refine st (s_move rfl) rfl ?_
  refine st (s_extract rfl rfl) rfl ?_
  refine st (s_extract rfl rfl) rfl ?_
  refine a_allocS (T := 33) rfl rfl rfl (fun b => ?_)
  refine a_storeW 0 rfl rfl rfl rfl ?_
  refine st (s_assign rfl) rfl ?_
  refine Run.nil ?_
  refine pj_then ?_
  refine J_seq ?_
  refine J_reg ?_
  refine st (s_loadW 5 rfl rfl) rfl ?_
  refine st (s_loadW 5 rfl rfl) rfl ?_
  refine st (s_callk (ex_k) rfl ⟨VT.le_refl _, VT.le_refl _, trivial⟩) rfl ?_
  refine st (s_move rfl) rfl ?_
  refine st (s_extract rfl rfl) rfl ?_
  refine st (s_extract rfl rfl) rfl ?_
  refine a_allocS (T := 33) rfl rfl rfl (fun b => ?_)
  refine a_storeW 0 rfl rfl rfl rfl ?_
  refine st (s_assign rfl) rfl ?_
  refine Run.nil ?_
  refine pj_then ?_
  refine J_seq ?_
  refine J_reg ?_
  refine st (s_loadW 7 rfl rfl) rfl ?_
  refine stS1 rfl rfl rfl rfl ?_
  refine st (s_callk (ex_l) rfl ⟨VT.le_refl _, slT1_num 2, nil_slT, trivial⟩) rfl ?_
  refine st (s_move rfl) rfl ?_
  refine st (s_extract rfl rfl) rfl ?_
  refine st (s_extract rfl rfl) rfl ?_
  refine a_allocS (T := 33) rfl rfl rfl (fun b => ?_)
  refine a_storeW 0 rfl rfl rfl rfl ?_
  refine st (s_assign rfl) rfl ?_
  refine Run.nil ?_
  refine pj_then ?_
  refine J_seq ?_
  refine J_reg ?_
  refine st (s_callk (rOf_ok 1 (by decide) (by decide)) rfl ⟨VT.le_refl _, trivial⟩) rfl ?_
  refine stS1 rfl rfl rfl rfl ?_
  refine st (s_callk (ex_n) rfl ⟨slT1_row 1, nil_slT, trivial⟩) rfl ?_
  refine st (s_move rfl) rfl ?_
  refine st (s_extract rfl rfl) rfl ?_
  refine st (s_extract rfl rfl) rfl ?_
  refine a_alloc (T := 29) rfl (ltN rfl) (fun b => ?_)
  refine a_storeB 0 rfl rfl rfl rfl rfl (leN rfl) rfl ?_
  refine st (s_assign rfl) rfl ?_
  refine Run.nil ?_
  refine pj_then ?_
  refine J_seq ?_
  refine J_sub (Γ' := [(1, _), (2, _), (3, _), (4, _), (5, _), (6, _), (7, _), (8, _), (9, _), (10, _), (11, _), (12, _), (13, _), (14, _), (16, _), (18, _), (20, _)]) (SubG.cons rfl (VT.le_refl _) (SubG.cons rfl (VT.le_refl _) (SubG.cons rfl (VT.le_refl _) (SubG.cons rfl (VT.le_refl _) (SubG.cons rfl (VT.le_refl _) (SubG.cons rfl (VT.le_refl _) (SubG.cons rfl (VT.le_refl _) (SubG.cons rfl (VT.le_refl _) (SubG.cons rfl (VT.le_refl _) (SubG.cons rfl (VT.le_refl _) (SubG.cons rfl (VT.le_refl _) (SubG.cons rfl (VT.le_refl _) (SubG.cons rfl (VT.le_refl _) (SubG.cons rfl (VT.le_refl _) (SubG.cons rfl (VT.le_refl _) (SubG.cons rfl (VT.le_refl _) (SubG.cons rfl (VT.le_refl _) (SubG.nil)))))))))))))))))) (SubM.drop (SubM.drop (SubM.drop (SubM.refl _)))) ?_
  refine J_regU mixed (by kernel_rfl) (by kernel_rfl) ?_
  refine ux (fun B => s_move rfl) rfl rfl ?_
  refine ux (fun B => s_eq rfl rfl) rfl rfl ?_
  refine ux (fun B => s_move rfl) rfl rfl ?_
  refine ug1 rfl rfl (fun B => s_loadB 4 rfl rfl rfl) rfl rfl ?_
  refine uSg rfl rfl rfl rfl rfl rfl ?_
  refine PartsK.cons rfl ?_
  refine PartsK.cons rfl ?_
  refine PartsK.cons rfl ?_
  refine PartsK.cons rfl ?_
  refine PartsK.nil ?_
  refine ug1 rfl rfl (fun B => s_callk (ints_ok 2 2 [2, 1, 4, 3] (by decide) (by decide) (by decide)) rfl ⟨one_le rfl, one_le rfl, num_le .i64 [2, 1, 4, 3], trivial⟩) rfl rfl ?_
  refine ug1 rfl rfl (fun B => s_callk (same_self 2 2 (intsF 2 [2, 1, 4, 3]) (by decide)) rfl ⟨VT.le_refl _, VT.le_refl _, trivial⟩) rfl rfl ?_
  refine ux (fun B => s_pickT rfl rfl) rfl rfl ?_
  refine ux (fun B => s_move rfl) rfl rfl ?_
  refine ug1 rfl rfl (fun B => s_move rfl) rfl rfl ?_
  refine ug1 rfl rfl (fun B => s_eq rfl rfl) rfl rfl ?_
  refine ux (fun B => s_pickT rfl rfl) rfl rfl ?_
  refine ux (fun B => s_move rfl) rfl rfl ?_
  refine ug1 rfl rfl (fun B => s_move rfl) rfl rfl ?_
  refine ug1 rfl rfl (fun B => s_callk (rOf_ok (-2) (by decide) (by decide)) rfl ⟨VT.le_refl _, trivial⟩) rfl rfl ?_
  refine ug1 rfl rfl (fun B => s_callk (rOf_ok (-2) (by decide) (by decide)) rfl ⟨VT.le_refl _, trivial⟩) rfl rfl ?_
  refine uSg rfl rfl rfl rfl rfl rfl ?_
  refine PartsK.cons rfl ?_
  refine PartsK.cons rfl ?_
  refine PartsK.nil ?_
  refine ug1 rfl rfl (fun B => s_callk (sameVec_self [-2, -2]) rfl ⟨VT.le_refl _, VT.le_trans (vec_le [-2, -2]) (rowF_vec' _), trivial⟩) rfl rfl ?_
  refine ux (fun B => s_pickT rfl rfl) rfl rfl ?_
  refine ux (fun B => s_move rfl) rfl rfl ?_
  refine ug1 rfl rfl (fun B => s_move rfl) rfl rfl ?_
  refine ug1 rfl rfl (fun B => s_eq rfl rfl) rfl rfl ?_
  refine ux (fun B => s_pickT rfl rfl) rfl rfl ?_
  refine ux (fun B => s_move rfl) rfl rfl ?_
  refine ug1 rfl rfl (fun B => s_loadW 0 rfl rfl) rfl rfl ?_
  refine ug1 rfl rfl (fun B => s_callk (new_mat 2 3 (by decide) (by decide)) rfl ⟨one_le rfl, one_le rfl, trivial⟩) rfl rfl ?_
  refine ug1 rfl rfl (fun B => s_callk (same_self 2 3 (fun _ _ => 0) (by decide)) rfl ⟨VT.le_refl _, VT.le_refl _, trivial⟩) rfl rfl ?_
  refine ux (fun B => s_pickT rfl rfl) rfl rfl ?_
  refine ux (fun B => s_assign rfl) rfl rfl ?_
  refine RunU.nil (fun γ => ?_); simp only [ptrG, boxM, List.map_cons, List.map_nil, List.cons_append, List.nil_append]
  refine PJ_sub (Γ' := [(1, _), (2, _), (7, _), (8, _), (9, _), (10, _), (11, _), (12, _), (16, _), (18, _), (20, _), (21, _)]) (SubG.cons rfl (VT.le_refl _) (SubG.cons rfl (VT.le_refl _) (SubG.cons rfl (VT.le_refl _) (SubG.cons rfl (VT.le_refl _) (SubG.cons rfl (VT.le_refl _) (SubG.cons rfl (VT.le_refl _) (SubG.cons rfl (VT.le_refl _) (SubG.cons rfl (VT.le_refl _) (SubG.cons rfl (VT.le_refl _) (SubG.cons rfl (VT.le_refl _) (SubG.cons rfl (VT.le_refl _) (SubG.cons rfl (VT.le_refl _) (SubG.nil))))))))))))) (SubM.refl _) ?_
  refine pj_then ?_
  refine J_seq ?_
  refine J_regU mixed (by kernel_rfl) (by kernel_rfl) ?_
  refine ux (fun B => s_move rfl) rfl rfl ?_
  refine ux (fun B => s_eq rfl rfl) rfl rfl ?_
  refine ux (fun B => s_move rfl) rfl rfl ?_
  refine ug1 rfl rfl (fun B => s_loadB 3 rfl rfl rfl) rfl rfl ?_
  refine ug1 rfl rfl (fun B => s_loadW 6 rfl rfl) rfl rfl ?_
  refine ug1 rfl rfl (fun B => s_callk (same_self 2 2 (intsF 2 [1, 2, 3, 4]) (by decide)) rfl ⟨VT.le_refl _, VT.le_refl _, trivial⟩) rfl rfl ?_
  refine ux (fun B => s_pickT rfl rfl) rfl rfl ?_
  refine ux (fun B => s_move rfl) rfl rfl ?_
  refine ug1 rfl rfl (fun B => s_move rfl) rfl rfl ?_
  refine ug1 rfl rfl (fun B => s_eq rfl rfl) rfl rfl ?_
  refine ux (fun B => s_pickT rfl rfl) rfl rfl ?_
  refine ux (fun B => s_move rfl) rfl rfl ?_
  refine ug1 rfl rfl (fun B => s_loadW 2 rfl rfl) rfl rfl ?_
  refine uSg rfl rfl rfl rfl rfl rfl ?_
  refine PartsK.cons rfl ?_
  refine PartsK.cons rfl ?_
  refine PartsK.cons rfl ?_
  refine PartsK.cons rfl ?_
  refine PartsK.nil ?_
  refine ug1 rfl rfl (fun B => s_callk (ints_ok 2 2 [1, 3, 2, 4] (by decide) (by decide) (by decide)) rfl ⟨one_le rfl, one_le rfl, num_le .i64 [1, 3, 2, 4], trivial⟩) rfl rfl ?_
  refine ug1 rfl rfl (fun B => s_callk (same_self 2 2 (intsF 2 [1, 3, 2, 4]) (by decide)) rfl ⟨VT.le_refl _, VT.le_refl _, trivial⟩) rfl rfl ?_
  refine ux (fun B => s_pickT rfl rfl) rfl rfl ?_
  refine ux (fun B => s_move rfl) rfl rfl ?_
  refine ug1 rfl rfl (fun B => s_move rfl) rfl rfl ?_
  refine ug1 rfl rfl (fun B => s_eq rfl rfl) rfl rfl ?_
  refine ux (fun B => s_pickT rfl rfl) rfl rfl ?_
  refine ux (fun B => s_move rfl) rfl rfl ?_
  refine ug1 rfl rfl (fun B => s_loadW 1 rfl rfl) rfl rfl ?_
  refine uSg rfl rfl rfl rfl rfl rfl ?_
  refine PartsK.cons rfl ?_
  refine PartsK.cons rfl ?_
  refine PartsK.cons rfl ?_
  refine PartsK.cons rfl ?_
  refine PartsK.nil ?_
  refine ug1 rfl rfl (fun B => s_callk (ints_ok 2 2 [6, 4, 6, 4] (by decide) (by decide) (by decide)) rfl ⟨one_le rfl, one_le rfl, num_le .i64 [6, 4, 6, 4], trivial⟩) rfl rfl ?_
  refine ug1 rfl rfl (fun B => s_callk (same_self 2 2 (intsF 2 [6, 4, 6, 4]) (by decide)) rfl ⟨VT.le_refl _, VT.le_refl _, trivial⟩) rfl rfl ?_
  refine ux (fun B => s_pickT rfl rfl) rfl rfl ?_
  refine ux (fun B => s_assign rfl) rfl rfl ?_
  refine RunU.nil (fun γ => ?_); simp only [ptrG, boxM, List.map_cons, List.map_nil, List.cons_append, List.nil_append]
  refine PJ_sub (Γ' := [(1, _), (2, _), (16, _), (18, _), (20, _), (21, _), (22, _)]) (SubG.cons rfl (VT.le_refl _) (SubG.cons rfl (VT.le_refl _) (SubG.cons rfl (VT.le_refl _) (SubG.cons rfl (VT.le_refl _) (SubG.cons rfl (VT.le_refl _) (SubG.cons rfl (VT.le_refl _) (SubG.cons rfl (VT.le_refl _) (SubG.nil)))))))) (SubM.refl _) ?_
  refine pj_then ?_
  refine J_seq ?_
  refine J_reg ?_
  refine st (s_move rfl) rfl ?_
  refine st (s_move rfl) rfl ?_
  refine sg1 rfl rfl (s_move rfl) rfl ?_
  refine st (s_pickT rfl rfl) rfl ?_
  refine st (s_move rfl) rfl ?_
  refine sg1 rfl rfl (s_move rfl) rfl ?_
  refine sg1 rfl rfl (s_eq rfl rfl) rfl ?_
  refine st (s_pickT rfl rfl) rfl ?_
  refine st (s_move rfl) rfl ?_
  refine sg1 rfl rfl (s_move rfl) rfl ?_
  refine sg1 rfl rfl (s_eq rfl rfl) rfl ?_
  refine st (s_pickT rfl rfl) rfl ?_
  refine st (s_move rfl) rfl ?_
  refine sg1 rfl rfl (s_move rfl) rfl ?_
  refine sg1 rfl rfl (s_eq rfl rfl) rfl ?_
  refine st (s_pickT rfl rfl) rfl ?_
  refine st (s_move rfl) rfl ?_
  refine sg1 rfl rfl (s_callk (Identity_ok 2 (by decide)) rfl ⟨one_le rfl, trivial⟩) rfl ?_
  refine sg1 rfl rfl (s_callk (rIdentity_ok 2 (by decide)) rfl ⟨one_le rfl, trivial⟩) rfl ?_
  refine sg1 rfl rfl (s_callk (same_self 2 2 (fun i j => if i = j then 1 else 0) (by decide)) rfl ⟨VT.le_refl _, VT.le_refl _, trivial⟩) rfl ?_
  refine st (s_pickT rfl rfl) rfl ?_
  refine st (s_move rfl) rfl ?_
  refine sg1 rfl rfl (s_loadW 6 rfl rfl) rfl ?_
  refine sg1 rfl rfl (s_callk (matValidF_ok 2 2 (intsF 2 [1, 2, 3, 4])) rfl ⟨VT.le_refl _, trivial⟩) rfl ?_
  refine st (s_pickT rfl rfl) rfl ?_
  refine st (s_move rfl) rfl ?_
  refine stBg rfl rfl rfl rfl rfl ?_
  refine BuildK.cons rfl rfl rfl ?_
  refine BuildK.nil ?_
  refine sg1 rfl rfl (s_callk (ex_v1) rfl ⟨raw10, trivial⟩) rfl ?_
  refine sg1 rfl rfl (s_not rfl) rfl ?_
  refine st (s_pickT rfl rfl) rfl ?_
  refine st (s_move rfl) rfl ?_
  refine sg1 rfl rfl (s_callk (ex_z1) rfl ⟨nil_slT, trivial⟩) rfl ?_
  refine st (s_pickT rfl rfl) rfl ?_
  refine st (s_move rfl) rfl ?_
  refine sg1 rfl rfl (s_fieldAddr rfl) rfl ?_
  refine sg1 rfl rfl (s_loadB 5 rfl rfl rfl) rfl ?_
  (refine sg1 rfl rfl (s_indexI rfl rfl ?_ ?_) rfl ?_; omega; omega)
  refine sg1 rfl rfl (s_load rfl) rfl ?_
  refine sg1 rfl rfl (s_callk (ex_z2) rfl ⟨row12, trivial⟩) rfl ?_
  refine sg1 rfl rfl (s_not rfl) rfl ?_
  refine st (s_pickT rfl rfl) rfl ?_
  refine st (s_assign rfl) rfl ?_
  refine Run.nil ?_
  refine pj_then ?_
  refine J_ret ?_
  exact retc1 Try.results10 (.tmp rfl (VT.le_refl _))
end Tor
