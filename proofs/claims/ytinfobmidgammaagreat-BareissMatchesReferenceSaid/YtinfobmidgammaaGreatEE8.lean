/-
  Theorems that the proofs of laws of this seat rest on.
  No condition.
-/
import Derived.Test.YtinfobmidgammaaGreatEE7
set_option linter.unusedVariables false
set_option linter.unusedSimpArgs false
section
namespace Tor
open Go Go.RowKit Go.Proofs
def skl (i k : Nat) : List Int := (List.range (if i < k then k - 1 else k)).map fun a => ((Lin.skip i a : Nat) : Int)
theorem skl_len (i k : Nat) : (skl i k).length = if i < k then k - 1 else k := by unfold skl; simp
theorem skl_get {i k a : Nat} (h : a < (skl i k).length) : (skl i k).getD a 0 = ((Lin.skip i a : Nat) : Int) := by
  rw [skl_len] at h
  unfold skl; simp [List.getD, h]
theorem skl_skip (i : Nat) : skl i (i + 1) = skl i i := by unfold skl; rw [if_pos (by omega), if_neg (by omega)]; rfl
theorem skl_next {i k : Nat} (h : k ≠ i) : skl i (k + 1) = skl i k ++ [((k : Nat) : Int)] := by
  unfold skl
  by_cases c : i < k
  · rw [if_pos (by omega), if_pos c, show k + 1 - 1 = (k - 1) + 1 by omega, List.range_succ, List.map_append]
    congr 2
    show [((Lin.skip i (k - 1) : Nat) : Int)] = _
    unfold Lin.skip
    rw [if_neg (by omega)]
    congr 2; omega
  · rw [if_neg (by omega), if_neg c, List.range_succ, List.map_append]
    congr 2
    show [((Lin.skip i k : Nat) : Int)] = _
    unfold Lin.skip
    rw [if_pos (by omega)]
theorem skl_outs {i n : Nat} : outs n (skl i n) = false := by
  unfold outs skl
  rw [List.any_eq_false]
  intro x hx
  obtain ⟨a, ha, rfl⟩ := List.mem_map.1 hx
  rw [List.mem_range] at ha
  have : Lin.skip i a < n := by unfold Lin.skip; split at ha <;> split <;> omega
  simp; omega
abbrev numF (l : List Int) : Nat → VT := fun q => one (.int .i64 (l.getD q 0))
theorem num_snoc {sv : Option Nat} {T : TypeId} {cap : Nat} {l m : List Int} {x : Int} (h : m = l ++ [x]) : Own.le (sliO sv T .one cap (l.length + 1) (fun q => if q < l.length then numF l q else one (.int .i64 x))) (sliO sv T .one cap m.length (numF m)) := by
  subst h
  refine sliO_len (by simp) (fun q hq => ?_)
  show _ = one (Value.int .i64 ((l ++ [x]).getD q 0))
  by_cases h : q < l.length
  · rw [if_pos h]; show one (Value.int .i64 (l.getD q 0)) = _; simp [List.getD, List.getElem?_append_left h]
  · have : q = l.length := by omega
    subst this; rw [if_neg h]; simp [List.getD]
theorem num_same {sv : Option Nat} {T : TypeId} {cap : Nat} {l m : List Int} (h : m = l) : Own.le (sliO sv T .one cap l.length (numF l)) (sliO sv T .one cap m.length (numF m)) := h ▸ Own.le_refl _
def cof (n : Nat) (F : Nat → Nat → Int) (i j : Nat) : Int := Lin.sgnZ (i + j) * Lin.detZ (n - 1) (fun a b => F (Lin.skip i a) (Lin.skip j b))
attribute [local irreducible] Tor.J Tor.PJ Tor.StepO Tor.one Tor.slT Tor.ptrT Tor.aggT Tor.tupT Tor.exT Tor.andT Tor.eP Tor.boxO Tor.sliO Tor.slV Tor.VT.le Tor.Ret Tor.anyT Tor.xO
attribute [local irreducible] bigT rowF
set_option maxHeartbeats 4000000 in
theorem cofactor_ok (r : Nat) (F : Nat → Nat → Int) (i j n : Nat) (hi : i < r) (hj : j < r) (hr : r ≤ 1024) (he : elim0 n r) (hF : ∀ i j, lz n (F i j)) : Ok Tryz.prog 66 [matF r r F, one (.int .i64 (i : Nat)), one (.int .i64 (j : Nat))] (bigT (cof r F i j)) := by
  have hl : (skl i r).length = r - 1 := by rw [skl_len, if_pos hi]
  have hm : (skl j r).length = r - 1 := by rw [skl_len, if_pos hj]
  have hpk := Pick_ok r r F (skl i r) (skl j r) (by omega) (by omega) (fun i j => (hF i j).small (Nat.le_trans (small_of_elim he) (by decide)))
  rw [skl_outs, skl_outs, hl, hm] at hpk
  refine Ok.enter Tryz.func66 rfl Tryz.ntmps66 rfl (fun w0 O => ?_)
  unfold matF
  refine J_seq (J_reg ?_)
  refine a_boxS rfl rfl (ltN rfl) (fun b3 => ?_)
  refine a_alloc (T := 43) rfl (ltN rfl) (fun b6 => ?_)
  refine Run.nil (pj_then (J_seq (J_reg (st (s_assign rfl) rfl (st (s_assign rfl) rfl (Run.nil (pj_then (J_seq (J_seq ?_)))))))))
  refine J_reg (st (s_fieldAddr rfl) rfl (st (s_loadB 1 rfl rfl rfl) rfl (st (s_move rfl) rfl (Run.nil (pj_then (J_block (J_retype (t := 7) (ψ := one (slV none 0 0)) rfl nil_slV (J_retype (t := 8) (ψ := one (slV none 0 0)) rfl nil_slV (J_addM (sliO_none0 3 .one (numF [])) ?_)))))))))
  refine J_addM (sliO_none0 3 .one (numF [])) (J_sub (Γ' := [(1, _), (2, _), (3, _), (6, _), (7, _), (8, _), (15, _), (16, _)]) (SubG.cons rfl (VT.le_refl _) (SubG.cons rfl (VT.le_refl _) (SubG.cons rfl (VT.le_refl _) (SubG.cons rfl (VT.le_refl _) (SubG.cons rfl (VT.le_refl _) (SubG.cons rfl (VT.le_refl _) (SubG.cons rfl (VT.le_refl _) (SubG.cons rfl (VT.le_refl _) (SubG.nil))))))))) (SubM.refl _) ?_)
  refine J_loopA (σ := Nat × Option Nat × Nat × Option Nat × Nat) (Γk := [(1, _), (2, _), (3, _), (6, _), (15, _)]) (SubG.cons rfl (VT.le_refl _) (SubG.cons rfl (VT.le_refl _) (SubG.cons rfl (VT.le_refl _) (SubG.cons rfl (VT.le_refl _) (SubG.cons rfl (VT.le_refl _) (SubG.nil)))))) (fun s => [(16, one (.int .i64 (s.1 : Nat))), (7, one (slV s.2.1 (skl i s.1).length s.2.2.1)), (8, one (slV s.2.2.2.1 (skl j s.1).length s.2.2.2.2))]) (fun s M0 => ((M0.set 0 (sliO s.2.1 3 .one s.2.2.1 (skl i s.1).length (numF (skl i s.1)))).set 1 (sliO s.2.2.2.1 3 .one s.2.2.2.2 (skl j s.1).length (numF (skl j s.1))))) (fun s => s.1 ≤ r) (fun s => r - s.1) ((0, none, 0, none, 0)) (Nat.zero_le _) (by repeat (first | exact SubG.refl _ | exact SubG.nil | refine SubG.cons rfl (VT.le_refl _) ?_ | (refine SubG.cons rfl (one_le ?_) ?_; (congr 1; first | omega | (simp; omega) | simp)))) (.keep (Own.le_refl _) (.keep (Own.le_refl _) (.keep (Own.le_refl _) (.keep (Own.le_refl _) (.nil))))) (fun s hs => ?_)
  refine J_norm (Γ' := [(16, _), (7, _), (8, _), (1, _), (2, _), (3, _), (6, _), (15, _)]) (M' := [_, _, _, _]) rfl rfl ?_
  obtain ⟨k, svr, capr, svc, capc⟩ := s
  dsimp only at hs ⊢
  have hki := skl_len i k
  have hkj := skl_len j k
  have hkl : (skl i k).length ≤ k := by rw [hki]; split <;> omega
  have hkl' : (skl j k).length ≤ k := by rw [hkj]; split <;> omega
  by_cases hk : k < r
  · by_cases h1 : k = i
    · have e1 : skl i (k + 1) = skl i k := by rw [h1]; exact skl_skip i
      have l1 := congrArg List.length e1
      by_cases h2 : k = j
      · have e2 : skl j (k + 1) = skl j k := by rw [h2]; exact skl_skip j
        have l2 := congrArg List.length e2
        refine J_seq (J_reg (st (sT (by omega) (s_lt rfl rfl)) rfl (Run.nil (pj_then (J_seq (J_cond1 rfl (J_skip (pj_then (J_seq ?_)))))))))
        refine J_block (J_seq (J_reg (st (s_move rfl) rfl (st (s_assign rfl) rfl (Run.nil (pj_then (J_seq (J_seq (J_reg ?_)))))))))
        refine st (s_move rfl) rfl (st (s_move rfl) rfl (st (sF (by omega) (s_ne rfl rfl)) rfl (Run.nil (pj_then (J_cond0 rfl (J_skip (pj_then (J_seq (J_reg ?_)))))))))
        refine st (s_move rfl) rfl (st (s_move rfl) rfl (st (sF (by omega) (s_ne rfl rfl)) rfl (Run.nil (pj_then (J_cond0 rfl (J_skip (pn_block (pj_then (J_reg ?_)))))))))
        refine st (s_addN _ 1 rfl rfl (by omega)) rfl (st (s_move rfl) rfl (Run.nil ?_))
        refine pj_roundM ((k + 1, svr, capr, svc, capc)) (hk) (by omega) (by (repeat (first | exact SubG.nil | refine SubG.cons rfl (VT.le_refl _) ?_ | refine SubG.cons rfl (slV_len (by dsimp only; omega)) ?_))) (.keep (num_same e1) (.keep (num_same e2) (.keep (Own.le_refl _) (.keep (Own.le_refl _) (.nil)))))
      · have e2 := skl_next h2
        have l2 : (skl j (k + 1)).length = (skl j k).length + 1 := by rw [e2, List.length_append]; rfl
        refine J_seq (J_reg (st (sT (by omega) (s_lt rfl rfl)) rfl (Run.nil (pj_then (J_seq (J_cond1 rfl (J_skip (pj_then (J_seq ?_)))))))))
        refine J_block (J_seq (J_reg (st (s_move rfl) rfl (st (s_assign rfl) rfl (Run.nil (pj_then (J_seq (J_seq (J_reg ?_)))))))))
        refine st (s_move rfl) rfl (st (s_move rfl) rfl (st (sF (by omega) (s_ne rfl rfl)) rfl (Run.nil (pj_then (J_cond0 rfl (J_skip (pj_then (J_seq (J_reg ?_)))))))))
        refine st (s_move rfl) rfl (st (s_move rfl) rfl (st (sT (by omega) (s_ne rfl rfl)) rfl (Run.nil (pj_then (J_cond1 rfl (J_reg (st (s_move rfl) rfl (st (s_move rfl) rfl (stS1 rfl rfl rfl rfl ?_)))))))))
        (refine a_append 1 rfl rfl rfl (leN rfl) ?_ ?_ rfl (ltN rfl) (fun sv32 cap32 => ?_); omega; omega)
        refine st (s_assign rfl) rfl (Run.nil (pn_block (pj_then (J_reg (st (s_addN _ 1 rfl rfl (by omega)) rfl (st (s_move rfl) rfl (Run.nil ?_)))))))
        refine pj_roundM ((k + 1, svr, capr, sv32, cap32)) (hk) (by omega) (by (repeat (first | exact SubG.nil | refine SubG.cons rfl (VT.le_refl _) ?_ | refine SubG.cons rfl (slV_len (by dsimp only; omega)) ?_))) (.keep (num_same e1) (.keep (num_snoc e2) (.keep (Own.le_refl _) (.keep (Own.le_refl _) (.nil)))))
    · have e1 := skl_next h1
      have l1 : (skl i (k + 1)).length = (skl i k).length + 1 := by rw [e1, List.length_append]; rfl
      by_cases h2 : k = j
      · have e2 : skl j (k + 1) = skl j k := by rw [h2]; exact skl_skip j
        have l2 := congrArg List.length e2
        refine J_seq (J_reg (st (sT (by omega) (s_lt rfl rfl)) rfl (Run.nil (pj_then (J_seq (J_cond1 rfl (J_skip (pj_then (J_seq ?_)))))))))
        refine J_block (J_seq (J_reg (st (s_move rfl) rfl (st (s_assign rfl) rfl (Run.nil (pj_then (J_seq (J_seq (J_reg ?_)))))))))
        refine st (s_move rfl) rfl (st (s_move rfl) rfl (st (sT (by omega) (s_ne rfl rfl)) rfl (Run.nil (pj_then (J_cond1 rfl (J_reg (st (s_move rfl) rfl (st (s_move rfl) rfl (stS1 rfl rfl rfl rfl ?_)))))))))
        (refine a_append 0 rfl rfl rfl (leN rfl) ?_ ?_ rfl (ltN rfl) (fun sv25 cap25 => ?_); omega; omega)
        refine st (s_assign rfl) rfl (Run.nil (pj_then (J_seq (J_reg (st (s_move rfl) rfl (st (s_move rfl) rfl (st (sF (by omega) (s_ne rfl rfl)) rfl (Run.nil (pj_then ?_)))))))))
        refine J_cond0 rfl (J_skip (pn_block (pj_then (J_reg (st (s_addN _ 1 rfl rfl (by omega)) rfl (st (s_move rfl) rfl (Run.nil ?_)))))))
        refine pj_roundM ((k + 1, sv25, cap25, svc, capc)) (hk) (by omega) (by (repeat (first | exact SubG.nil | refine SubG.cons rfl (VT.le_refl _) ?_ | refine SubG.cons rfl (slV_len (by dsimp only; omega)) ?_))) (.keep (num_snoc e1) (.keep (num_same e2) (.keep (Own.le_refl _) (.keep (Own.le_refl _) (.nil)))))
      · have e2 := skl_next h2
        have l2 : (skl j (k + 1)).length = (skl j k).length + 1 := by rw [e2, List.length_append]; rfl
        refine J_seq (J_reg (st (sT (by omega) (s_lt rfl rfl)) rfl (Run.nil (pj_then (J_seq (J_cond1 rfl (J_skip (pj_then (J_seq ?_)))))))))
        refine J_block (J_seq (J_reg (st (s_move rfl) rfl (st (s_assign rfl) rfl (Run.nil (pj_then (J_seq (J_seq (J_reg ?_)))))))))
        refine st (s_move rfl) rfl (st (s_move rfl) rfl (st (sT (by omega) (s_ne rfl rfl)) rfl (Run.nil (pj_then (J_cond1 rfl (J_reg (st (s_move rfl) rfl (st (s_move rfl) rfl (stS1 rfl rfl rfl rfl ?_)))))))))
        (refine a_append 0 rfl rfl rfl (leN rfl) ?_ ?_ rfl (ltN rfl) (fun sv25 cap25 => ?_); omega; omega)
        refine st (s_assign rfl) rfl (Run.nil (pj_then (J_seq (J_reg (st (s_move rfl) rfl (st (s_move rfl) rfl (st (sT (by omega) (s_ne rfl rfl)) rfl (Run.nil (pj_then ?_)))))))))
        refine J_cond1 rfl (J_reg (st (s_move rfl) rfl (st (s_move rfl) rfl (stS1 rfl rfl rfl rfl ?_))))
        (refine a_append 1 rfl rfl rfl (leN rfl) ?_ ?_ rfl (ltN rfl) (fun sv32 cap32 => ?_); omega; omega)
        refine st (s_assign rfl) rfl (Run.nil (pn_block (pj_then (J_reg (st (s_addN _ 1 rfl rfl (by omega)) rfl (st (s_move rfl) rfl (Run.nil ?_)))))))
        refine pj_roundM ((k + 1, sv25, cap25, sv32, cap32)) (hk) (by omega) (by (repeat (first | exact SubG.nil | refine SubG.cons rfl (VT.le_refl _) ?_ | refine SubG.cons rfl (slV_len (by dsimp only; omega)) ?_))) (.keep (num_snoc e1) (.keep (num_snoc e2) (.keep (Own.le_refl _) (.keep (Own.le_refl _) (.nil)))))
  · have hkr : k = r := by omega
    subst hkr
    have hd := Det_ok (k - 1) (pickF (skl i k) (skl j k) F) n (by omega) (he.le (Nat.sub_le _ _)) (fun a b => hF _ _)
    have hds := det_lz (he.le (Nat.sub_le k 1)) (F := pickF (skl i k) (skl j k) F) (fun a b => hF _ _)
    have hdet : Lin.detZ (k - 1) (pickF (skl i k) (skl j k) F) = Lin.detZ (k - 1) (fun a b => F (Lin.skip i a) (Lin.skip j b)) := Lin.detZ_congr fun a b ha hb => by
      show F ((skl i k).getD a 0).toNat ((skl j k).getD b 0).toNat = _
      rw [skl_get (by omega), skl_get (by omega), Int.toNat_natCast, Int.toNat_natCast]
    unfold cof Lin.sgnZ
    rw [hdet] at hd hds
    have hneg := fun d (h : lz 1099511627700 d) => NegI_ok d (h.small (by decide))
    have hpk' : Ok Tryz.prog 97 [matF k k F, numT .i64 (skl i k), numT .i64 (skl j k)] (tupT [matF (k - 1) (k - 1) (pickF (skl i k) (skl j k) F), one (.int .i64 0)]) := by simpa [resMT] using hpk
    clear hpk
    unfold matF numT at *
    generalize Lin.detZ (k - 1) (fun a b => F (Lin.skip i a) (Lin.skip j b)) = d at *
    have hneg' := hneg d hds
    refine J_open [_] (List.Perm.refl _) (EntM.refl _) (EntG.set (t := 7) rfl (Ent.sl List.mem_cons_self)) ?_
    refine J_open [_] (List.Perm.refl _) (EntM.refl _) (EntG.set (t := 8) rfl (Ent.sl List.mem_cons_self)) ?_
    by_cases hp : (i + j) % 2 = 0
    · rw [if_pos hp, Int.one_mul]
      refine J_seq (J_reg (st (sF (by omega) (s_lt rfl rfl)) rfl (Run.nil (pj_then (J_seq (J_cond0 rfl (J_exit (px_then (px_then ?_)))))))))
      refine px_block (pj_then (J_seq (J_reg (st (s_loadW 1 rfl rfl) rfl (st (s_move rfl) rfl (st (s_move rfl) rfl ?_))))))
      refine st (s_callk (hpk' ) rfl ⟨VT.le_refl _, VT.le_refl _, VT.le_refl _, trivial⟩) rfl ?_
      refine st (s_move rfl) rfl (st (s_extract rfl rfl) rfl (st (s_extract rfl rfl) rfl ?_))
      refine a_allocS (T := 28) rfl rfl rfl (fun b10 => ?_)
      refine a_storeW 0 rfl rfl rfl rfl (st (s_assign rfl) rfl (Run.nil (pj_then (J_seq (J_reg (st (s_loadW 0 rfl rfl) rfl ?_))))))
      refine st (s_callk (hd ) rfl ⟨VT.le_refl _, trivial⟩) rfl ?_
      refine st (s_move rfl) rfl (st (s_extract rfl rfl) rfl (st (s_extract rfl rfl) rfl ?_))
      refine a_alloc (T := 43) rfl (ltN rfl) (fun b12 => ?_)
      refine a_storeB 0 rfl rfl rfl rfl rfl (leN rfl) rfl (st (s_assign rfl) rfl (Run.nil (pj_then (J_seq (J_seq (J_reg (st (s_move rfl) rfl (st (s_move rfl) rfl (st (s_addN _ _ rfl rfl (by omega)) rfl ?_)))))))))
      refine st (s_remN 2 rfl rfl rfl (by decide)) rfl (st (sF (by omega) (s_eq rfl rfl)) rfl (Run.nil (pj_then (J_cond0 rfl (J_skip (pj_then (J_seq (J_reg (st (s_loadB 0 rfl rfl rfl) rfl ?_)))))))))
      refine a_storeB 2 rfl rfl rfl rfl rfl (leN rfl) rfl (Run.nil (pj_then (J_ret ?_)))
      refine retc1 Tryz.results66 (.cellB 2 rfl rfl rfl (VT.le_refl _))
    · rw [if_neg hp, show (-1 : Int) * d = -d by omega]
      refine J_seq (J_reg (st (sF (by omega) (s_lt rfl rfl)) rfl (Run.nil (pj_then (J_seq (J_cond0 rfl (J_exit (px_then (px_then ?_)))))))))
      refine px_block (pj_then (J_seq (J_reg (st (s_loadW 1 rfl rfl) rfl (st (s_move rfl) rfl (st (s_move rfl) rfl ?_))))))
      refine st (s_callk (hpk' ) rfl ⟨VT.le_refl _, VT.le_refl _, VT.le_refl _, trivial⟩) rfl ?_
      refine st (s_move rfl) rfl (st (s_extract rfl rfl) rfl (st (s_extract rfl rfl) rfl ?_))
      refine a_allocS (T := 28) rfl rfl rfl (fun b10 => ?_)
      refine a_storeW 0 rfl rfl rfl rfl (st (s_assign rfl) rfl (Run.nil (pj_then (J_seq (J_reg (st (s_loadW 0 rfl rfl) rfl ?_))))))
      refine st (s_callk (hd ) rfl ⟨VT.le_refl _, trivial⟩) rfl ?_
      refine st (s_move rfl) rfl (st (s_extract rfl rfl) rfl (st (s_extract rfl rfl) rfl ?_))
      refine a_alloc (T := 43) rfl (ltN rfl) (fun b12 => ?_)
      refine a_storeB 0 rfl rfl rfl rfl rfl (leN rfl) rfl (st (s_assign rfl) rfl (Run.nil (pj_then (J_seq (J_seq (J_reg (st (s_move rfl) rfl (st (s_move rfl) rfl (st (s_addN _ _ rfl rfl (by omega)) rfl ?_)))))))))
      refine st (s_remN 2 rfl rfl rfl (by decide)) rfl (st (sT (by omega) (s_eq rfl rfl)) rfl (Run.nil (pj_then (J_cond1 rfl (J_seq (J_reg (st (s_loadB 0 rfl rfl rfl) rfl ?_)))))))
      refine st (s_callk (hneg _ (by assumption)) rfl ⟨VT.le_refl _, trivial⟩) rfl ?_
      refine a_storeB 2 rfl rfl rfl rfl rfl (leN rfl) rfl (Run.nil (pj_then (J_ret (pr_then ?_))))
      refine retc1 Tryz.results66 (.cellB 2 rfl rfl rfl (VT.le_refl _))
end Tor
end
section
namespace Tor
open Go Go.RowKit Go.Proofs
theorem unit_at (q m : Nat) : upd (fun q => ratT ((0 : Int) : Rat)) m (ratT ((1 : Int) : Rat)) q = ratT (if (q : Int) = (m : Int) then 1 else 0) := by
  show (if q = m then ratT ((1 : Int) : Rat) else ratT ((0 : Int) : Rat)) = _
  by_cases h : q = m
  · rw [if_pos h, if_pos (by omega)]; rfl
  · rw [if_neg h, if_neg (by omega)]; rfl
attribute [local irreducible] Tor.J Tor.PJ Tor.StepO Tor.one Tor.slT Tor.ptrT Tor.aggT Tor.tupT Tor.exT Tor.andT Tor.eP Tor.boxO Tor.sliO Tor.slV Tor.VT.le Tor.Ret Tor.anyT Tor.xO
attribute [local irreducible] bigT ratT
set_option maxHeartbeats 4000000 in
theorem r8Value_ok (n : Nat) (F : Nat → Nat → Int) (α : Nat) (hn : n ≤ 1024) (hα : 1 ≤ α) (hF : ∀ i j, lz α (F i j)) (hz : rdB α n ≤ 1099511627700) : Ok Tryz.prog 26 [matF n n F] (bigT (Lin.detZ n F)) := by
  have h := r8Det_ok n F α hn hα hF hz
  refine Ok.enter Tryz.func26 rfl Tryz.ntmps26 rfl (fun w O => ?_)
  refine J_seq (J_reg ?_)
  refine a_boxS rfl rfl (ltN rfl) (fun b1 => ?_)
  refine a_alloc (T := 43) rfl (ltN rfl) (fun b2 => ?_)
  refine Run.nil (pj_then (J_seq (J_reg (st (s_loadW 1 rfl rfl) rfl ?_))))
  refine st (s_callk (h ) rfl ⟨VT.le_refl _, trivial⟩) rfl ?_
  refine st (s_move rfl) rfl (st (s_extract rfl rfl) rfl (st (s_extract rfl rfl) rfl ?_))
  refine a_alloc (T := 43) rfl (ltN rfl) (fun b3 => ?_)
  refine a_storeB 0 rfl rfl rfl rfl rfl (leN rfl) rfl (st (s_assign rfl) rfl (Run.nil (pj_then (J_seq (J_reg (st (s_loadB 0 rfl rfl rfl) rfl (a_storeB 1 rfl rfl rfl rfl rfl (leN rfl) rfl (Run.nil (pj_then ?_)))))))))
  refine J_ret ?_
  refine retc1 Tryz.results26 (.cellB 1 rfl rfl rfl (VT.le_refl _))
set_option maxHeartbeats 4000000 in
theorem r8unit_ok (n : Nat) (k : Int) (hn : n ≤ 1048576) : Ok Tryz.prog 51 [one (.int .i64 (n : Nat)), one (.int .i64 k)] (ratF n (fun i => if (i : Int) = k then 1 else 0)) := by
  have h0 := rqNumber_ok 0 (by decide) (by decide)
  have h1 := rqNumber_ok 1 (by decide) (by decide)
  unfold ratF
  refine Ok.enter Tryz.func51 rfl Tryz.ntmps51 rfl (fun w O => ?_)
  refine J_seq (J_reg (st (s_assign rfl) rfl (Run.nil (pj_then (J_seq (J_reg (stSO (n := 0) rfl rfl rfl rfl rfl ?_)))))))
  refine PartsK.nil (fun bl => ?_)
  refine st (s_assign rfl) rfl (Run.nil (pj_then (J_seq (J_seq (J_reg (st (s_assign rfl) rfl (Run.nil (pj_then (J_block ?_)))))))))
  refine J_sub (Γ' := [(0, _), (1, _), (4, _), (5, _), (6, _)]) (SubG.cons rfl (VT.le_refl _) (SubG.cons rfl (VT.le_refl _) (SubG.cons rfl (VT.le_refl _) (SubG.cons rfl (VT.le_refl _) (SubG.cons rfl (VT.le_refl _) (SubG.nil)))))) (SubM.refl _) ?_
  refine J_loopA (σ := Nat × Option Nat × Nat) (Γk := [(0, _), (1, _), (4, _)]) (SubG.cons rfl (VT.le_refl _) (SubG.cons rfl (VT.le_refl _) (SubG.cons rfl (VT.le_refl _) (SubG.nil)))) (fun s => [(6, one (.int .i64 (s.1 : Nat))), (5, one (slV s.2.1 s.1 s.2.2))]) (fun s M0 => (M0.set 0 (sliO s.2.1 63 (.agg 4) s.2.2 s.1 (fun q => ratT ((0 : Int) : Rat))))) (fun s => s.1 ≤ n) (fun s => n - s.1) ((0, some bl, 0)) (Nat.zero_le _) (by repeat (first | exact SubG.refl _ | exact SubG.nil | refine SubG.cons rfl (VT.le_refl _) ?_ | (refine SubG.cons rfl (one_le ?_) ?_; (congr 1; first | omega | (simp; omega) | simp)))) (.keep (sliO_eq (fun q hq => absurd hq (Nat.not_lt_zero _))) (.nil)) (fun s hs => ?_)
  refine J_norm (Γ' := [(6, _), (5, _), (0, _), (1, _), (4, _)]) (M' := [_]) rfl rfl ?_
  obtain ⟨i, sv, cap⟩ := s
  dsimp only at hs ⊢
  by_cases hi : i < n
  · refine J_seq (J_seq (J_reg (st (s_move rfl) rfl (st (s_move rfl) rfl (st (sT (by omega) (s_lt rfl rfl)) rfl (Run.nil (pj_then (J_cond1 rfl (J_skip ?_)))))))))
    refine pj_then (J_seq (J_block (J_reg (st (s_move rfl) rfl ?_))))
    refine st (s_callk (h0 ) rfl ⟨VT.le_refl _, trivial⟩) rfl ?_
    refine stS1 rfl rfl rfl rfl ?_
    (refine a_append 0 rfl rfl rfl (leN rfl) ?_ ?_ rfl (ltN rfl) (fun sv16 cap16 => ?_); omega; omega)
    refine st (s_assign rfl) rfl (Run.nil (pn_block (pj_then (J_reg (st (s_move rfl) rfl (st (s_addN _ 1 rfl rfl (by omega)) rfl (st (s_assign rfl) rfl (Run.nil ?_))))))))
    refine pj_roundM ((i + 1, sv16, cap16)) (hi) (by omega) (by repeat (first | exact SubG.refl _ | exact SubG.nil | refine SubG.cons rfl (VT.le_refl _) ?_ | (refine SubG.cons rfl (one_le ?_) ?_; (congr 1; first | omega | (simp; omega) | simp)))) (.keep (sliO_eq (fun q hq => by split <;> rfl)) (.nil))
  · have he : i = n := by omega
    subst he
    refine J_factM (i := 0) (F := sv = none → i = 0) rfl (fun g h hp he => sliO_none hp he) (fun hsv => ?_)
    by_cases hk0 : 0 ≤ k
    · by_cases hk1 : k < (i : Int)
      · obtain ⟨bs, rfl⟩ := sv_some hsv (by omega)
        obtain ⟨m, rfl⟩ : ∃ m : Nat, k = (m : Int) := ⟨k.toNat, by omega⟩
        refine J_seq (J_seq (J_reg (st (s_move rfl) rfl (st (s_move rfl) rfl (st (sF (by omega) (s_lt rfl rfl)) rfl (Run.nil (pj_then (J_cond0 rfl (J_exit ?_)))))))))
        refine px_then (px_then (px_block (pj_then (J_seq (J_seq (J_reg (st (s_move rfl) rfl (st (sT (by assumption) (s_ge rfl rfl)) rfl (st (s_move rfl) rfl ?_)))))))))
        refine sg1 rfl rfl (s_move rfl) rfl (sg1 rfl rfl (s_move rfl) rfl (sg1 rfl rfl (sT (by assumption) (s_lt rfl rfl)) rfl (st (s_pickT rfl rfl) rfl (Run.nil (pj_then (J_cond1 rfl (J_reg (st (s_move rfl) rfl (st (s_move rfl) rfl ?_)))))))))
        refine st (s_callk (h1 ) rfl ⟨VT.le_refl _, trivial⟩) rfl ?_
        refine st (s_indexON rfl rfl (by omega)) rfl ?_
        (refine a_storeE 0 rfl rfl rfl ?_ rfl ?_; omega)
        refine Run.nil (pj_then (J_seq (J_reg (st (s_move rfl) rfl (st (s_assign rfl) rfl (Run.nil (pj_then (J_ret (PJ_freeze (t := 4) (i := 0) rfl rfl ?_)))))))))
        refine retc1 Tryz.results51 (.tmp rfl (slT_le (fun q hq => le_eq (unit_at q m))))
      · refine J_seq (J_seq (J_reg (st (s_move rfl) rfl (st (s_move rfl) rfl (st (sF (by omega) (s_lt rfl rfl)) rfl (Run.nil (pj_then (J_cond0 rfl (J_exit ?_)))))))))
        refine px_then (px_then (px_block (pj_then (J_seq (J_seq (J_reg (st (s_move rfl) rfl (st (sT (by assumption) (s_ge rfl rfl)) rfl (st (s_move rfl) rfl ?_)))))))))
        refine sg1 rfl rfl (s_move rfl) rfl (sg1 rfl rfl (s_move rfl) rfl (sg1 rfl rfl (sF (by assumption) (s_lt rfl rfl)) rfl (st (s_pickT rfl rfl) rfl (Run.nil (pj_then (J_cond0 rfl (J_skip (pj_then (J_seq ?_)))))))))
        refine J_reg (st (s_move rfl) rfl (st (s_assign rfl) rfl (Run.nil (pj_then (J_ret (PJ_freeze (t := 4) (i := 0) rfl rfl ?_))))))
        refine retc1 Tryz.results51 (.tmp rfl (slT_le (fun q hq => le_eq (by rw [if_neg (by omega)]; rfl))))
    · refine J_seq (J_seq (J_reg (st (s_move rfl) rfl (st (s_move rfl) rfl (st (sF (by omega) (s_lt rfl rfl)) rfl (Run.nil (pj_then (J_cond0 rfl (J_exit ?_)))))))))
      refine px_then (px_then (px_block (pj_then (J_seq (J_seq (J_reg (st (s_move rfl) rfl (st (sF (by assumption) (s_ge rfl rfl)) rfl (st (s_move rfl) rfl ?_)))))))))
      refine sn0 rfl rfl rfl rfl rfl (sn0 rfl rfl rfl rfl rfl (sn0 rfl rfl rfl rfl rfl (st (s_pickF rfl rfl) rfl (Run.nil (pj_then (J_cond0 rfl (J_skip (pj_then (J_seq ?_)))))))))
      refine J_reg (st (s_move rfl) rfl (st (s_assign rfl) rfl (Run.nil (pj_then (J_ret (PJ_freeze (t := 4) (i := 0) rfl rfl ?_))))))
      refine retc1 Tryz.results51 (.tmp rfl (slT_le (fun q hq => le_eq (by rw [if_neg (by omega)]; rfl))))
set_option maxHeartbeats 4000000 in
theorem r8Ints_ok (n m : Nat) (f g : Nat → Int) (hn : n ≤ 1048576) : Ok Tryz.prog 15 [slT .one n (fun q => one (.int .i64 (f q))), slT .one m (fun q => one (.int .i64 (g q)))] (one (.bool (decide (n = m ∧ ∀ i, i < n → f i = g i)))) := by
  refine Ok.enter Tryz.func15 rfl Tryz.ntmps15 rfl (fun w O => ?_)
  by_cases h : n = m
  · subst h
    refine J_seq (J_reg (st (s_assign rfl) rfl (Run.nil (pj_then (J_seq (J_seq (J_reg (st (s_move rfl) rfl (st (s_len rfl) rfl ?_)))))))))
    refine st (s_move rfl) rfl (st (s_len rfl) rfl (st (sF (by omega) (s_ne rfl rfl)) rfl (Run.nil (pj_then (J_cond0 rfl (J_skip (pj_then (J_seq (J_seq ?_)))))))))
    refine J_reg (st (s_assign rfl) rfl (Run.nil (pj_then (J_block (J_sub (Γ' := [(0, _), (1, _), (4, _), (5, _)]) (SubG.cons rfl (VT.le_refl _) (SubG.cons rfl (VT.le_refl _) (SubG.cons rfl (VT.le_refl _) (SubG.cons rfl (VT.le_refl _) (SubG.nil))))) (SubM.refl _) ?_)))))
    refine J_loopA (σ := Nat) (Γk := [(0, _), (1, _)]) (SubG.cons rfl (VT.le_refl _) (SubG.cons rfl (VT.le_refl _) (SubG.nil))) (fun i => [(5, one (.int .i64 (i : Nat)))]) (fun i M0 => M0) (fun i => i ≤ n ∧ ∀ q, q < i → f q = g q) (fun i => n - i) (0) (⟨Nat.zero_le _, fun q h => absurd h (Nat.not_lt_zero _)⟩) (by repeat (first | exact SubG.refl _ | exact SubG.nil | refine SubG.cons rfl (VT.le_refl _) ?_ | (refine SubG.cons rfl (one_le ?_) ?_; (congr 1; first | omega | (simp; omega) | simp)))) (.nil) (fun i hi => ?_)
    refine J_norm (Γ' := [(5, _), (0, _), (1, _)]) (M' := []) rfl rfl ?_
    obtain ⟨hi, hq⟩ := hi
    by_cases hin : i < n
    · by_cases he : f i = g i
      · refine J_seq (J_seq (J_reg (st (s_move rfl) rfl (st (s_move rfl) rfl (st (s_len rfl) rfl (st (sT (by omega) (s_lt rfl rfl)) rfl (Run.nil (pj_then (J_cond1 rfl ?_)))))))))
        refine J_skip (pj_then (J_seq (J_block (J_seq (J_regd 9 mixed (by kernel_rfl) (by decide) (st (s_move rfl) rfl (st (s_move rfl) rfl (st (s_indexIN rfl rfl (by omega)) rfl (st (s_load rfl) rfl ?_)))))))))
        refine st (s_move rfl) rfl (st (s_move rfl) rfl (st (s_indexIN rfl rfl (by omega)) rfl (st (s_load rfl) rfl (st (sF (by omega) (s_ne rfl rfl)) rfl (Run.nil (Run.nil (pj_then (J_cond0 rfl (J_skip ?_)))))))))
        refine pn_block (pj_then (J_reg (st (s_move rfl) rfl (st (s_addN _ 1 rfl rfl (by omega)) rfl (st (s_assign rfl) rfl (Run.nil ?_))))))
        refine pj_roundM (i + 1) (⟨hin, fun q h => by by_cases h3 : q = i; exact h3 ▸ he; exact hq q (by omega)⟩) (by omega) (by repeat (first | exact SubG.refl _ | exact SubG.nil | refine SubG.cons rfl (VT.le_refl _) ?_ | (refine SubG.cons rfl (one_le ?_) ?_; (congr 1; first | omega | (simp; omega) | simp)))) (.nil)
      · rw [decide_eq_false (fun h => he (h.2 i hin))]
        refine J_seq (J_seq (J_reg (st (s_move rfl) rfl (st (s_move rfl) rfl (st (s_len rfl) rfl (st (sT (by omega) (s_lt rfl rfl)) rfl (Run.nil (pj_then (J_cond1 rfl ?_)))))))))
        refine J_skip (pj_then (J_seq (J_block (J_seq (J_regd 9 mixed (by kernel_rfl) (by decide) (st (s_move rfl) rfl (st (s_move rfl) rfl (st (s_indexIN rfl rfl (by omega)) rfl (st (s_load rfl) rfl ?_)))))))))
        refine st (s_move rfl) rfl (st (s_move rfl) rfl (st (s_indexIN rfl rfl (by omega)) rfl (st (s_load rfl) rfl (st (sT (by assumption) (s_ne rfl rfl)) rfl (Run.nil (Run.nil (pj_then (J_cond1 rfl (J_seq ?_)))))))))
        refine J_reg (st (s_assign rfl) rfl (Run.nil (pj_then (J_ret (pr_block (pr_then (pr_then (pr_block (pr_then ?_)))))))))
        refine retc1 Tryz.results15 (.tmp rfl (VT.le_refl _))
    · rw [decide_eq_true ⟨rfl, fun q h => hq q (by omega)⟩]
      refine J_seq (J_seq (J_reg (st (s_move rfl) rfl (st (s_move rfl) rfl (st (s_len rfl) rfl (st (sF (by omega) (s_lt rfl rfl)) rfl (Run.nil (pj_then (J_cond0 rfl ?_)))))))))
      refine J_exit (px_then (px_then (px_block (pj_then (J_seq (J_reg (st (s_assign rfl) rfl (Run.nil (pj_then ?_)))))))))
      refine J_ret ?_
      refine retc1 Tryz.results15 (.tmp rfl (VT.le_refl _))
  · rw [decide_eq_false (fun k => h k.1)]
    refine J_seq (J_reg (st (s_assign rfl) rfl (Run.nil (pj_then (J_seq (J_seq (J_reg (st (s_move rfl) rfl (st (s_len rfl) rfl ?_)))))))))
    refine st (s_move rfl) rfl (st (s_len rfl) rfl (st (sT (by omega) (s_ne rfl rfl)) rfl (Run.nil (pj_then (J_cond1 rfl (J_seq (J_reg (st (s_assign rfl) rfl (Run.nil ?_)))))))))
    refine pj_then (J_ret (pr_then ?_))
    refine retc1 Tryz.results15 (.tmp rfl (VT.le_refl _))
end Tor
end
section
namespace Tor
open Go Go.RowKit Go.Proofs
theorem upd2_twice {T : TypeId} {L : Lay} {c i j : Nat} {bs : List Nat} {φ : Nat → Nat → VT} {ψ χ : VT} : Own.le (rowsO T L c bs (upd2 (upd2 φ i j ψ) i j χ)) (rowsO T L c bs (upd2 φ i j χ)) := rowsO_eq fun a b _ _ => by
  unfold upd2; split <;> rfl
theorem Own.le_tr {a b c : Own} (h : Own.le a b) (k : Own.le b c) : Own.le a c := ⟨h.1.trans k.1, fun g x p => k.2 g x (h.2 g x p)⟩
theorem tup2_le {φ φ' χ : VT} (h : VT.le φ φ') : VT.le (tupT [φ, χ]) (tupT [φ', χ]) := by
  rintro v g ⟨vs, h1, h2⟩
  refine ⟨vs, h1, ?_⟩
  match vs, h2 with
  | [a, b], ⟨p, q, _⟩ => exact ⟨h _ _ p, q, trivial⟩
attribute [local irreducible] Tor.J Tor.PJ Tor.StepO Tor.one Tor.slT Tor.ptrT Tor.aggT Tor.tupT Tor.exT Tor.andT Tor.eP Tor.boxO Tor.sliO Tor.slV Tor.VT.le Tor.Ret Tor.anyT Tor.xO
attribute [local irreducible] bigT rowF Tor.rowsO
set_option maxHeartbeats 4000000 in
theorem r8Without_ok (r : Nat) (F : Nat → Nat → Int) (i j : Nat) (hi : i < r) (hj : j < r) (hr : r ≤ 1024) : Ok Tryz.prog 67 [matF r r F, one (.int .i64 (i : Nat)), one (.int .i64 (j : Nat))] (matF (r - 1) (r - 1) (fun a b => F (Lin.skip i a) (Lin.skip j b))) := by
  have hl : (skl i r).length = r - 1 := by rw [skl_len, if_pos hi]
  have hm : (skl j r).length = r - 1 := by rw [skl_len, if_pos hj]
  have hpk := rPick_ok r r F (skl i r) (skl j r) (by omega) (by omega)
  rw [skl_outs, skl_outs, hl, hm] at hpk
  have hpk' : Ok Tryz.prog 24 [matF r r F, numT .i64 (skl i r), numT .i64 (skl j r)] (tupT [matF (r - 1) (r - 1) (fun a b => F (Lin.skip i a) (Lin.skip j b)), one (.int .i64 0)]) := by
    unfold resMT at hpk
    refine hpk.le (leAll_refl _) ?_
    simp only [Bool.or_false, Bool.not_false, if_true]
    exact tup2_le (matF_le fun a b ha hb => by
      show F ((skl i r).getD a 0).toNat ((skl j r).getD b 0).toNat = _
      rw [skl_get (by omega), skl_get (by omega), Int.toNat_natCast, Int.toNat_natCast])
  clear hpk
  unfold matF numT at *
  refine Ok.enter Tryz.func67 rfl Tryz.ntmps67 rfl (fun w0 O => ?_)
  refine J_seq (J_reg ?_)
  refine a_boxS rfl rfl (ltN rfl) (fun b3 => ?_)
  refine a_allocS (T := 28) rfl rfl rfl (fun b6 => ?_)
  refine Run.nil (pj_then (J_seq (J_reg (stSO (n := 0) rfl rfl rfl rfl rfl ?_))))
  refine PartsK.nil (fun bl => ?_)
  refine stSO (n := 0) rfl rfl rfl rfl rfl ?_
  refine PartsK.nil (fun bl => ?_)
  refine st (s_assign rfl) rfl (st (s_assign rfl) rfl (Run.nil (pj_then (J_seq (J_seq (J_reg (st (s_assign rfl) rfl (Run.nil (pj_then ?_)))))))))
  refine J_block ?_
  rename_i blr
  refine J_sub (Γ' := [(1, _), (2, _), (3, _), (6, _), (7, _), (8, _), (9, _)]) (SubG.cons rfl (VT.le_refl _) (SubG.cons rfl (VT.le_refl _) (SubG.cons rfl (VT.le_refl _) (SubG.cons rfl (VT.le_refl _) (SubG.cons rfl (VT.le_refl _) (SubG.cons rfl (VT.le_refl _) (SubG.cons rfl (VT.le_refl _) (SubG.nil)))))))) (SubM.refl _) ?_
  refine J_loopA (σ := Nat × Option Nat × Nat) (Γk := [(1, _), (2, _), (3, _), (6, _), (8, _)]) (SubG.cons rfl (VT.le_refl _) (SubG.cons rfl (VT.le_refl _) (SubG.cons rfl (VT.le_refl _) (SubG.cons rfl (VT.le_refl _) (SubG.cons rfl (VT.le_refl _) (SubG.nil)))))) (fun s => [(9, one (.int .i64 (s.1 : Nat))), (7, one (slV s.2.1 (skl i s.1).length s.2.2))]) (fun s M0 => (M0.set 1 (sliO s.2.1 3 .one s.2.2 (skl i s.1).length (numF (skl i s.1))))) (fun s => s.1 ≤ r) (fun s => r - s.1) ((0, some blr, 0)) (Nat.zero_le _) (by repeat (first | exact SubG.refl _ | exact SubG.nil | refine SubG.cons rfl (VT.le_refl _) ?_ | (refine SubG.cons rfl (one_le ?_) ?_; (congr 1; first | omega | (simp; omega) | simp)))) (.keep (Own.le_refl _) (.keep (sliO_eq (fun q hq => absurd hq (Nat.not_lt_zero _))) (.keep (Own.le_refl _) (.keep (Own.le_refl _) (.nil))))) (fun s hs => ?_)
  refine J_norm (Γ' := [(9, _), (7, _), (1, _), (2, _), (3, _), (6, _), (8, _)]) (M' := [_, _, _, _]) rfl rfl ?_
  obtain ⟨k, svr, capr⟩ := s
  dsimp only at hs ⊢
  have hki := skl_len i k
  have hkl : (skl i k).length ≤ k := by rw [hki]; split <;> omega
  by_cases hk : k < r
  · by_cases h1 : k = i
    · have e1 : skl i (k + 1) = skl i k := by rw [h1]; exact skl_skip i
      have l1 := congrArg List.length e1
      refine J_seq (J_seq (J_reg (st (s_move rfl) rfl (st (s_fieldAddr rfl) rfl (st (s_loadB 3 rfl rfl rfl) rfl (st (sT (by omega) (s_lt rfl rfl)) rfl (Run.nil (pj_then (J_cond1 rfl ?_)))))))))
      refine J_skip (pj_then (J_seq (J_block (J_seq (J_reg (st (s_move rfl) rfl (st (s_move rfl) rfl (st (sF (by omega) (s_ne rfl rfl)) rfl (Run.nil ?_)))))))))
      refine pj_then (J_cond0 rfl (J_skip (pn_block (pj_then (J_reg (st (s_move rfl) rfl (st (s_addN _ 1 rfl rfl (by omega)) rfl (st (s_assign rfl) rfl (Run.nil ?_)))))))))
      refine pj_roundM ((k + 1, svr, capr)) (hk) (by omega) (by (repeat (first | exact SubG.nil | refine SubG.cons rfl (VT.le_refl _) ?_ | refine SubG.cons rfl (slV_len (by dsimp only; omega)) ?_))) (.keep (Own.le_refl _) (.keep (num_same e1) (.keep (Own.le_refl _) (.keep (Own.le_refl _) (.nil)))))
    · have e1 := skl_next h1
      have l1 : (skl i (k + 1)).length = (skl i k).length + 1 := by rw [e1, List.length_append]; rfl
      refine J_seq (J_seq (J_reg (st (s_move rfl) rfl (st (s_fieldAddr rfl) rfl (st (s_loadB 3 rfl rfl rfl) rfl (st (sT (by omega) (s_lt rfl rfl)) rfl (Run.nil (pj_then (J_cond1 rfl ?_)))))))))
      refine J_skip (pj_then (J_seq (J_block (J_seq (J_reg (st (s_move rfl) rfl (st (s_move rfl) rfl (st (sT (by omega) (s_ne rfl rfl)) rfl (Run.nil ?_)))))))))
      refine pj_then (J_cond1 rfl (J_reg (st (s_move rfl) rfl (st (s_move rfl) rfl (stS1 rfl rfl rfl rfl ?_)))))
      (refine a_append 1 rfl rfl rfl (leN rfl) ?_ ?_ rfl (ltN rfl) (fun sv27 cap27 => ?_); omega; omega)
      refine st (s_assign rfl) rfl (Run.nil (pn_block (pj_then (J_reg (st (s_move rfl) rfl (st (s_addN _ 1 rfl rfl (by omega)) rfl (st (s_assign rfl) rfl (Run.nil ?_))))))))
      refine pj_roundM ((k + 1, sv27, cap27)) (hk) (by omega) (by (repeat (first | exact SubG.nil | refine SubG.cons rfl (VT.le_refl _) ?_ | refine SubG.cons rfl (slV_len (by dsimp only; omega)) ?_))) (.keep (Own.le_refl _) (.keep (num_snoc e1) (.keep (Own.le_refl _) (.keep (Own.le_refl _) (.nil)))))
  · have hkr : k = r := by omega
    rw [hkr] at hkl ⊢
    refine J_seq (J_seq (J_reg (st (s_move rfl) rfl (st (s_fieldAddr rfl) rfl (st (s_loadB 3 rfl rfl rfl) rfl (st (sF (by omega) (s_lt rfl rfl)) rfl (Run.nil (pj_then (J_cond0 rfl ?_)))))))))
    refine J_exit (px_then (px_then (px_block (pj_then (J_seq (J_seq (J_reg (st (s_assign rfl) rfl (Run.nil ?_)))))))))
    refine pj_then (J_block (J_sub (Γ' := [(2, _), (3, _), (6, _), (7, _), (8, _), (10, _)]) (SubG.cons rfl (VT.le_refl _) (SubG.cons rfl (VT.le_refl _) (SubG.cons rfl (VT.le_refl _) (SubG.cons rfl (VT.le_refl _) (SubG.cons rfl (VT.le_refl _) (SubG.cons rfl (VT.le_refl _) (SubG.nil))))))) (SubM.refl _) ?_))
    refine J_loopA (σ := Nat × Option Nat × Nat) (Γk := [(2, _), (3, _), (6, _), (7, _)]) (SubG.cons rfl (VT.le_refl _) (SubG.cons rfl (VT.le_refl _) (SubG.cons rfl (VT.le_refl _) (SubG.cons rfl (VT.le_refl _) (SubG.nil))))) (fun s => [(10, one (.int .i64 (s.1 : Nat))), (8, one (slV s.2.1 (skl j s.1).length s.2.2))]) (fun s M0 => (M0.set 0 (sliO s.2.1 3 .one s.2.2 (skl j s.1).length (numF (skl j s.1))))) (fun s => s.1 ≤ r) (fun s => r - s.1) ((0, some bl, 0)) (Nat.zero_le _) (by repeat (first | exact SubG.refl _ | exact SubG.nil | refine SubG.cons rfl (VT.le_refl _) ?_ | (refine SubG.cons rfl (one_le ?_) ?_; (congr 1; first | omega | (simp; omega) | simp)))) (.keep (sliO_eq (fun q hq => absurd hq (Nat.not_lt_zero _))) (.keep (Own.le_refl _) (.keep (Own.le_refl _) (.keep (Own.le_refl _) (.nil))))) (fun s hs => ?_)
    refine J_norm (Γ' := [(10, _), (8, _), (2, _), (3, _), (6, _), (7, _)]) (M' := [_, _, _, _]) rfl rfl ?_
    obtain ⟨m, svc, capc⟩ := s
    dsimp only at hs ⊢
    have hkj := skl_len j m
    have hkl' : (skl j m).length ≤ m := by rw [hkj]; split <;> omega
    by_cases hm' : m < r
    · by_cases h1 : m = j
      · have e1 : skl j (m + 1) = skl j m := by rw [h1]; exact skl_skip j
        have l1 := congrArg List.length e1
        refine J_seq (J_seq (J_reg (st (s_move rfl) rfl (st (s_fieldAddr rfl) rfl (st (s_loadB 3 rfl rfl rfl) rfl (st (sT (by omega) (s_lt rfl rfl)) rfl (Run.nil (pj_then (J_cond1 rfl ?_)))))))))
        refine J_skip (pj_then (J_seq (J_block (J_seq (J_reg (st (s_move rfl) rfl (st (s_move rfl) rfl (st (sF (by omega) (s_ne rfl rfl)) rfl (Run.nil ?_)))))))))
        refine pj_then (J_cond0 rfl (J_skip (pn_block (pj_then (J_reg (st (s_move rfl) rfl (st (s_addN _ 1 rfl rfl (by omega)) rfl (st (s_assign rfl) rfl (Run.nil ?_)))))))))
        refine pj_roundM ((m + 1, svc, capc)) (hm') (by omega) (by (repeat (first | exact SubG.nil | refine SubG.cons rfl (VT.le_refl _) ?_ | refine SubG.cons rfl (slV_len (by dsimp only; omega)) ?_))) (.keep (num_same e1) (.keep (Own.le_refl _) (.keep (Own.le_refl _) (.keep (Own.le_refl _) (.nil)))))
      · have e1 := skl_next h1
        have l1 : (skl j (m + 1)).length = (skl j m).length + 1 := by rw [e1, List.length_append]; rfl
        refine J_seq (J_seq (J_reg (st (s_move rfl) rfl (st (s_fieldAddr rfl) rfl (st (s_loadB 3 rfl rfl rfl) rfl (st (sT (by omega) (s_lt rfl rfl)) rfl (Run.nil (pj_then (J_cond1 rfl ?_)))))))))
        refine J_skip (pj_then (J_seq (J_block (J_seq (J_reg (st (s_move rfl) rfl (st (s_move rfl) rfl (st (sT (by omega) (s_ne rfl rfl)) rfl (Run.nil ?_)))))))))
        refine pj_then (J_cond1 rfl (J_reg (st (s_move rfl) rfl (st (s_move rfl) rfl (stS1 rfl rfl rfl rfl ?_)))))
        (refine a_append 0 rfl rfl rfl (leN rfl) ?_ ?_ rfl (ltN rfl) (fun sv40 cap40 => ?_); omega; omega)
        refine st (s_assign rfl) rfl (Run.nil (pn_block (pj_then (J_reg (st (s_move rfl) rfl (st (s_addN _ 1 rfl rfl (by omega)) rfl (st (s_assign rfl) rfl (Run.nil ?_))))))))
        refine pj_roundM ((m + 1, sv40, cap40)) (hm') (by omega) (by (repeat (first | exact SubG.nil | refine SubG.cons rfl (VT.le_refl _) ?_ | refine SubG.cons rfl (slV_len (by dsimp only; omega)) ?_))) (.keep (num_snoc e1) (.keep (Own.le_refl _) (.keep (Own.le_refl _) (.keep (Own.le_refl _) (.nil)))))
    · have hmr : m = r := by omega
      rw [hmr]
      refine J_open [_] (List.Perm.refl _) (EntM.refl _) (EntG.set (t := 8) rfl (Ent.sl List.mem_cons_self)) ?_
      refine J_open [_] (List.Perm.refl _) (EntM.refl _) (EntG.set (t := 7) rfl (Ent.sl List.mem_cons_self)) ?_
      refine J_seq (J_seq (J_reg (st (s_move rfl) rfl (st (s_fieldAddr rfl) rfl (st (s_loadB 1 rfl rfl rfl) rfl (st (sF (by omega) (s_lt rfl rfl)) rfl (Run.nil (pj_then (J_cond0 rfl ?_)))))))))
      refine J_exit (px_then (px_then (px_block (pj_then (J_seq (J_reg (st (s_loadW 1 rfl rfl) rfl (st (s_move rfl) rfl (st (s_move rfl) rfl ?_)))))))))
      refine st (s_callk (hpk' ) rfl ⟨VT.le_refl _, VT.le_refl _, VT.le_refl _, trivial⟩) rfl ?_
      refine st (s_move rfl) rfl (st (s_extract rfl rfl) rfl (st (s_extract rfl rfl) rfl ?_))
      refine a_allocS (T := 28) rfl rfl rfl (fun b11 => ?_)
      refine a_storeW 0 rfl rfl rfl rfl (st (s_assign rfl) rfl (Run.nil (pj_then (J_seq (J_reg (st (s_loadW 0 rfl rfl) rfl (a_storeW 1 rfl rfl rfl rfl (Run.nil (pj_then ?_)))))))))
      refine J_ret ?_
      refine retc1 Tryz.results67 (.cellW 1 rfl rfl (VT.le_refl _))
set_option maxHeartbeats 4000000 in
theorem r8Adjugate_ok (n : Nat) (F : Nat → Nat → Int) (α : Nat) (hn : n ≤ 1024) (he : elim0 α n) (hF : ∀ i j, lz α (F i j)) (hz : rdB α n ≤ 1099511627700) : Ok Tryz.prog 20 [matF n n F] (tupT [matF n n (fun i j => cof n F j i), one (.int .i64 0)]) := by
  have hval := fun i j (hi : i < n) (hj : j < n) => r8Value_ok (n - 1) (fun a b => F (Lin.skip i a) (Lin.skip j b)) α (by omega) he.1 (fun a b => hF _ _) (Nat.le_trans (rdB_mono (Nat.sub_le n 1)) hz)
  have hlz := fun i j => det_lz (he.le (Nat.sub_le n 1)) (F := fun a b => F (Lin.skip i a) (Lin.skip j b)) (fun a b => hF _ _)
  unfold matF at *
  refine Ok.enter Tryz.func20 rfl Tryz.ntmps20 rfl (fun w O => ?_)
  refine J_seq (J_reg ?_)
  refine a_boxS rfl rfl (ltN rfl) (fun b1 => ?_)
  refine a_allocS (T := 28) rfl rfl rfl (fun b2 => ?_)
  refine st (s_assign rfl) rfl (Run.nil (pj_then (J_seq (J_seq (J_reg (st (s_fieldAddr rfl) rfl (st (s_loadB 1 rfl rfl rfl) rfl (st (s_fieldAddr rfl) rfl (st (s_loadB 1 rfl rfl rfl) rfl ?_)))))))))
  refine st (sF (by omega) (s_ne rfl rfl)) rfl (Run.nil (pj_then (J_cond0 rfl (J_skip (pj_then (J_seq (J_reg (st (s_fieldAddr rfl) rfl (st (s_loadB 1 rfl rfl rfl) rfl ?_)))))))))
  refine st (s_fieldAddr rfl) rfl (st (s_loadB 1 rfl rfl rfl) rfl ?_)
  refine a_callM (rNew_ok _ _ (by omega) (by omega)) rfl ⟨VT.le_refl _, VT.le_refl _, trivial⟩ rfl rfl (fun s17 => ?_)
  refine a_allocS (T := 28) rfl rfl rfl (fun b4 => ?_)
  refine a_storeW 0 rfl rfl rfl rfl (Run.nil (pj_then (J_seq (J_seq (J_reg (st (s_assign rfl) rfl (Run.nil (pj_then (J_block ?_)))))))))
  obtain ⟨⟨bs, sv1, cap1⟩, hlen, hsv⟩ := s17
  simp only at hlen hsv
  unfold newT
  dsimp only
  generalize hG : (fun i j => cof n F j i) = G
  refine J_sub (Γ' := [(1, _), (2, _), (3, _), (4, _), (5, _)]) (SubG.cons rfl (VT.le_refl _) (SubG.cons rfl (VT.le_refl _) (SubG.cons rfl (VT.le_refl _) (SubG.cons rfl (VT.le_refl _) (SubG.cons rfl (VT.le_refl _) (SubG.nil)))))) (SubM.refl _) ?_
  refine J_loopA (σ := Nat) (Γk := [(1, _), (2, _), (3, _), (4, _)]) (SubG.cons rfl (VT.le_refl _) (SubG.cons rfl (VT.le_refl _) (SubG.cons rfl (VT.le_refl _) (SubG.cons rfl (VT.le_refl _) (SubG.nil))))) (fun i => [(5, one (.int .i64 (i : Nat)))]) (fun i M0 => (M0.set 2 (ownR n bs (fill2 G i 0)))) (fun i => i ≤ n) (fun i => n - i) (0) (Nat.zero_le _) (by repeat (first | exact SubG.refl _ | exact SubG.nil | refine SubG.cons rfl (VT.le_refl _) ?_ | (refine SubG.cons rfl (one_le ?_) ?_; (congr 1; first | omega | (simp; omega) | simp)))) (.keep (Own.le_refl _) (.keep (Own.le_refl _) (.keep (ownR_le fun i j hi hj => by simp [fill2]) (.keep (Own.le_refl _) (.keep (Own.le_refl _) (.nil)))))) (fun i hi => ?_)
  refine J_norm (Γ' := [(5, _), (1, _), (2, _), (3, _), (4, _)]) (M' := [_, _, _, _, _]) rfl rfl ?_
  by_cases hi' : i < n
  · obtain ⟨bo, rfl⟩ := sv_some hsv (by omega)
    refine J_seq (J_seq (J_reg (st (s_move rfl) rfl (st (s_fieldAddr rfl) rfl (st (s_loadB 4 rfl rfl rfl) rfl (st (sT (by omega) (s_lt rfl rfl)) rfl (Run.nil (pj_then (J_cond1 rfl ?_)))))))))
    refine J_skip (pj_then (J_seq (J_block (J_seq (J_reg (st (s_assign rfl) rfl (Run.nil (pj_then (J_block ?_)))))))))
    refine J_sub (Γ' := [(1, _), (2, _), (3, _), (4, _), (5, _), (6, _)]) (SubG.cons rfl (VT.le_refl _) (SubG.cons rfl (VT.le_refl _) (SubG.cons rfl (VT.le_refl _) (SubG.cons rfl (VT.le_refl _) (SubG.cons rfl (VT.le_refl _) (SubG.cons rfl (VT.le_refl _) (SubG.nil))))))) (SubM.refl _) ?_
    refine J_loopA (σ := Nat) (Γk := [(1, _), (2, _), (3, _), (4, _), (5, _)]) (SubG.cons rfl (VT.le_refl _) (SubG.cons rfl (VT.le_refl _) (SubG.cons rfl (VT.le_refl _) (SubG.cons rfl (VT.le_refl _) (SubG.cons rfl (VT.le_refl _) (SubG.nil)))))) (fun j => [(6, one (.int .i64 (j : Nat)))]) (fun j M0 => (M0.set 2 (ownR n bs (fill2 G i j)))) (fun j => j ≤ n) (fun j => n - j) (0) (Nat.zero_le _) (by repeat (first | exact SubG.refl _ | exact SubG.nil | refine SubG.cons rfl (VT.le_refl _) ?_ | (refine SubG.cons rfl (one_le ?_) ?_; (congr 1; first | omega | (simp; omega) | simp)))) (.keep (Own.le_refl _) (.keep (Own.le_refl _) (.keep (Own.le_refl _) (.keep (Own.le_refl _) (.keep (Own.le_refl _) (.nil)))))) (fun j hj => ?_)
    refine J_norm (Γ' := [(6, _), (1, _), (2, _), (3, _), (4, _), (5, _)]) (M' := [_, _, _, _, _]) rfl rfl ?_
    by_cases hj' : j < n
    · have hwo := r8Without_ok n F j i hj' hi' hn
      have hv1 := hval j i hj' hi'
      have hl1 := hlz j i
      have hg : Lin.sgnZ (j + i) * Lin.detZ (n - 1) (fun a b => F (Lin.skip j a) (Lin.skip i b)) = G i j := by rw [← hG]; rfl
      unfold matF at hwo
      generalize Lin.detZ (n - 1) (fun a b => F (Lin.skip j a) (Lin.skip i b)) = d at *
      have hneg := rNegI_ok d (hl1.small (by decide))
      clear hval hlz
      by_cases hp : (i + j) % 2 = 0
      · have hg' : d = G i j := by rw [← hg]; unfold Lin.sgnZ; rw [if_pos (by omega)]; omega
        refine J_seq (J_seq (J_reg (st (s_move rfl) rfl (st (s_fieldAddr rfl) rfl (st (s_loadB 4 rfl rfl rfl) rfl (st (sT (by omega) (s_lt rfl rfl)) rfl (Run.nil (pj_then (J_cond1 rfl ?_)))))))))
        refine J_skip (pj_then (J_seq (J_block (J_seq (J_regd 11 mixed (by kernel_rfl) (by decide) (st (s_fieldAddr rfl) rfl (st (s_loadB 0 rfl rfl rfl) rfl (st (s_move rfl) rfl (st (s_indexON rfl rfl (by omega)) rfl ?_)))))))))
        refine st (s_loadE 1 rfl rfl (by omega)) rfl (st (s_move rfl) rfl (st (s_loadW 4 rfl rfl) rfl (st (s_move rfl) rfl (st (s_move rfl) rfl ?_))))
        refine st (s_callk (hwo ) rfl ⟨VT.le_refl _, VT.le_refl _, VT.le_refl _, trivial⟩) rfl ?_
        refine st (s_callk (hv1 ) rfl ⟨VT.le_refl _, trivial⟩) rfl ?_
        refine Run.nil (st (s_indexON rfl rfl (by omega)) rfl ?_)
        (refine a_storeR 2 rfl rfl rfl (getq ?_) ?_ rfl ?_; omega; omega)
        refine Run.nil (pj_then (J_seq (J_reg (st (s_move rfl) rfl (st (s_move rfl) rfl (st (s_addN _ _ rfl rfl (by omega)) rfl (st (s_remN 2 rfl rfl rfl (by decide)) rfl (st (sF (by omega) (s_eq rfl rfl)) rfl (Run.nil ?_)))))))))
        refine pj_then (J_cond0 rfl (J_skip (pn_block (pj_then (J_reg (st (s_move rfl) rfl (st (s_addN _ 1 rfl rfl (by omega)) rfl (st (s_assign rfl) rfl (Run.nil ?_)))))))))
        refine pj_roundM (j + 1) (hj') (by omega) (by repeat (first | exact SubG.refl _ | exact SubG.nil | refine SubG.cons rfl (VT.le_refl _) ?_ | (refine SubG.cons rfl (one_le ?_) ?_; (congr 1; first | omega | (simp; omega) | simp)))) (.keep (Own.le_refl _) (.keep (Own.le_refl _) (.keep (upd_fill2 _ hg') (.keep (Own.le_refl _) (.keep (Own.le_refl _) (.nil))))))
      · have hg' : -d = G i j := by rw [← hg]; unfold Lin.sgnZ; rw [if_neg (by omega)]; omega
        refine J_seq (J_seq (J_reg (st (s_move rfl) rfl (st (s_fieldAddr rfl) rfl (st (s_loadB 4 rfl rfl rfl) rfl (st (sT (by omega) (s_lt rfl rfl)) rfl (Run.nil (pj_then (J_cond1 rfl ?_)))))))))
        refine J_skip (pj_then (J_seq (J_block (J_seq (J_regd 11 mixed (by kernel_rfl) (by decide) (st (s_fieldAddr rfl) rfl (st (s_loadB 0 rfl rfl rfl) rfl (st (s_move rfl) rfl (st (s_indexON rfl rfl (by omega)) rfl ?_)))))))))
        refine st (s_loadE 1 rfl rfl (by omega)) rfl (st (s_move rfl) rfl (st (s_loadW 4 rfl rfl) rfl (st (s_move rfl) rfl (st (s_move rfl) rfl ?_))))
        refine st (s_callk (hwo ) rfl ⟨VT.le_refl _, VT.le_refl _, VT.le_refl _, trivial⟩) rfl ?_
        refine st (s_callk (hv1 ) rfl ⟨VT.le_refl _, trivial⟩) rfl ?_
        refine Run.nil (st (s_indexON rfl rfl (by omega)) rfl ?_)
        (refine a_storeR 2 rfl rfl rfl (getq ?_) ?_ rfl ?_; omega; omega)
        refine Run.nil (pj_then (J_seq (J_reg (st (s_move rfl) rfl (st (s_move rfl) rfl (st (s_addN _ _ rfl rfl (by omega)) rfl (st (s_remN 2 rfl rfl rfl (by decide)) rfl (st (sT (by omega) (s_eq rfl rfl)) rfl (Run.nil ?_)))))))))
        refine pj_then (J_cond1 rfl (J_regd 15 mixed (by kernel_rfl) (by decide) (st (s_fieldAddr rfl) rfl (st (s_loadB 0 rfl rfl rfl) rfl (st (s_move rfl) rfl (st (s_indexON rfl rfl (by omega)) rfl (st (s_loadE 1 rfl rfl (by omega)) rfl (st (s_move rfl) rfl (st (s_fieldAddr rfl) rfl ?_)))))))))
        refine st (s_loadB 0 rfl rfl rfl) rfl (st (s_move rfl) rfl (st (s_indexON rfl rfl (by omega)) rfl (st (s_loadE 1 rfl rfl (by omega)) rfl (st (s_move rfl) rfl (st (s_indexON rfl rfl (by omega)) rfl (st (s_loadR 2 rfl rfl (getq (by omega)) (by omega)) rfl ?_))))))
        refine st (s_callk (hneg ) rfl ⟨(by (unfold upd2; rw [if_pos ⟨rfl, rfl⟩]; exact VT.le_refl _)), trivial⟩) rfl ?_
        refine Run.nil (st (s_indexON rfl rfl (by omega)) rfl ?_)
        (refine a_storeR 2 rfl rfl rfl (getq ?_) ?_ rfl ?_; omega; omega)
        refine Run.nil (pn_block (pj_then (J_reg (st (s_move rfl) rfl (st (s_addN _ 1 rfl rfl (by omega)) rfl (st (s_assign rfl) rfl (Run.nil ?_)))))))
        refine pj_roundM (j + 1) (hj') (by omega) (by repeat (first | exact SubG.refl _ | exact SubG.nil | refine SubG.cons rfl (VT.le_refl _) ?_ | (refine SubG.cons rfl (one_le ?_) ?_; (congr 1; first | omega | (simp; omega) | simp)))) (.keep (Own.le_refl _) (.keep (Own.le_refl _) (.keep (Own.le_tr upd2_twice (upd_fill2 _ hg')) (.keep (Own.le_refl _) (.keep (Own.le_refl _) (.nil))))))
    · have hjn : j = n := by omega
      rw [hjn]
      refine J_seq (J_seq (J_reg (st (s_move rfl) rfl (st (s_fieldAddr rfl) rfl (st (s_loadB 4 rfl rfl rfl) rfl (st (sF (by omega) (s_lt rfl rfl)) rfl (Run.nil (pj_then (J_cond0 rfl ?_)))))))))
      refine J_exit (px_then (px_then (px_block (pn_block (pj_then (J_reg (st (s_move rfl) rfl (st (s_addN _ 1 rfl rfl (by omega)) rfl (st (s_assign rfl) rfl ?_)))))))))
      refine Run.nil ?_
      refine pj_roundM (i + 1) (hi') (by omega) (by repeat (first | exact SubG.refl _ | exact SubG.nil | refine SubG.cons rfl (VT.le_refl _) ?_ | (refine SubG.cons rfl (one_le ?_) ?_; (congr 1; first | omega | (simp; omega) | simp)))) (.keep (Own.le_refl _) (.keep (Own.le_refl _) (.keep (next_fill2) (.keep (Own.le_refl _) (.keep (Own.le_refl _) (.nil))))))
  · have hin : i = n := by omega
    rw [hin]
    refine J_seq (J_seq (J_reg (st (s_move rfl) rfl (st (s_fieldAddr rfl) rfl (st (s_loadB 4 rfl rfl rfl) rfl (st (sF (by omega) (s_lt rfl rfl)) rfl (Run.nil (pj_then (J_cond0 rfl ?_)))))))))
    refine J_exit (px_then (px_then (px_block (pj_then (J_seq (J_reg (st (s_loadW 0 rfl rfl) rfl (a_storeW 3 rfl rfl rfl rfl (st (s_assign rfl) rfl ?_)))))))))
    refine Run.nil (pj_then (J_ret ?_))
    refine PJ_open [outO sv1 cap1 n n bs, ownR n bs (fill2 G n 0)] (perm5 _ _ _ _ _) (.keep (EntO.refl _) (.keep (EntO.box (newT_open hlen ⟨by simp, by simp, by simp⟩)) (.keep (EntO.refl _) .nil))) (EntG.refl _) ?_
    refine retc2 Tryz.results20 (.cellW 1 rfl rfl ((matF_le fun a b ha hb => by rw [← hG]; simp [fill2, ha]))) (.tmp rfl (VT.le_refl _))
end Tor
end
section
namespace Tor
open Go Go.RowKit Go.Proofs
def wideF (n : Nat) (F : Nat → Nat → Int) : Nat → Nat → Int := fun i k => if k < n then F i k else (if i = k - n then 1 else 0)
def adjE (n : Nat) (F : Nat → Nat → Int) (e : ElS) : Nat → Nat → Int := fun i j => if e.piv.length < n - 1 then 0 else if e.piv.length < n then cof n F j i else if e.odd then -(e.R i (n + j)) else e.R i (n + j)
theorem lz_wide {n r : Nat} {F : Nat → Nat → Int} (hn : 1 ≤ n) (hF : ∀ i j, lz n (F i j)) : ∀ i j, lz n (wideF r F i j) := fun i j => by
  unfold wideF; split
  · exact hF _ _
  · split
    · exact lz_one hn
    · exact lz_zero _
attribute [local irreducible] Tor.J Tor.PJ Tor.StepO Tor.one Tor.slT Tor.ptrT Tor.aggT Tor.tupT Tor.exT Tor.andT Tor.eP Tor.boxO Tor.sliO Tor.slV Tor.VT.le Tor.Ret Tor.anyT Tor.xO
attribute [local irreducible] bigT rowF Tor.rowsO
set_option maxHeartbeats 4000000 in
theorem AdjugateS_ok (r c : Nat) (F : Nat → Nat → Int) (h : r ≠ c) : Ok Tryz.prog 19 [matF r c F] (tupT [matF 0 0 (fun _ _ => 0), one (.int .i64 50)]) := by
  have hs := square_ok r c F
  rw [decide_eq_false h] at hs
  refine Ok.enter Tryz.func19 rfl Tryz.ntmps19 rfl (fun w O => ?_)
  refine J_seq (J_reg ?_)
  refine a_boxS rfl rfl (ltN rfl) (fun b1 => ?_)
  refine a_allocS (T := 28) rfl rfl rfl (fun b2 => ?_)
  refine st (s_assign rfl) rfl (Run.nil (pj_then (J_seq (J_seq (J_reg (st (s_loadW 1 rfl rfl) rfl ?_))))))
  refine st (s_callk (hs ) rfl ⟨VT.le_refl _, trivial⟩) rfl ?_
  refine st (s_not rfl) rfl (Run.nil (pj_then (J_cond1 rfl (J_seq (J_reg (stB rfl rfl rfl (BuildK.nil (a_storeW 0 rfl rfl rfl rfl (st (s_assign rfl) rfl ?_)))))))))
  refine Run.nil (pj_then (J_ret (pr_then ?_)))
  refine retc2 Tryz.results19 (.cellW 0 rfl rfl (zero_mat _)) (.tmp rfl (VT.le_refl _))
set_option maxHeartbeats 4000000 in
theorem Adjugate_ok (r : Nat) (F : Nat → Nat → Int) (n : Nat) (hr : r ≤ 1024) (he : elim0 n r) (hF : ∀ i j, lz n (F i j)) : Ok Tryz.prog 19 [matF r r F] (tupT [matF r r (adjE r F (elN r true (wideF r F) r)), one (.int .i64 0)]) := by
  have hs := square_ok r r F
  rw [decide_eq_true rfl] at hs
  have hid := Identity_ok r (by omega)
  have hsm : ∀ i j, small (F i j) := fun i j => (hF i j).small (Nat.le_trans (small_of_elim he) (by decide))
  have hbe := Beside_ok r r F r r (fun i j => if i = j then 1 else 0) (by omega) (by omega) (by omega) hsm (fun i j => by split; exact small_one; exact small_zero)
  rw [decide_eq_true rfl] at hbe
  have hbe' : Ok Tryz.prog 63 [matF r r F, matF r r (fun i j => if i = j then 1 else 0)] (tupT [matF r (r + r) (wideF r F), one (.int .i64 0)]) := by
    unfold resMT at hbe
    rw [if_pos rfl, if_pos rfl, if_pos rfl] at hbe
    exact hbe
  clear hbe
  have hW := lz_wide (r := r) he.1 hF
  have hru := runR_ok r (r + r) r (wideF r F) true n (by omega) (by omega) (by omega) he.1 he.b hW
  obtain ⟨A, V, hE⟩ := Lin.elN_EL r (r + r) true (wideF r F) r (by omega)
  have hok := elN_ok (r := r) true he.1 hW r
  have hpr := hE.gj.pr
  have hcof := fun i j hi hj => cofactor_ok r F i j n hi hj hr he hF
  have hneg := fun d (h : lz 1099511627700 d) => NegI_ok d (h.small (by decide))
  generalize elN r true (wideF r F) r = e at *
  unfold elimT at hru
  generalize hG : adjE r F e = G
  unfold matF at *
  refine Ok.enter Tryz.func19 rfl Tryz.ntmps19 rfl (fun w O => ?_)
  refine J_seq (J_reg ?_)
  refine a_boxS rfl rfl (ltN rfl) (fun b1 => ?_)
  refine a_allocS (T := 28) rfl rfl rfl (fun b2 => ?_)
  refine st (s_assign rfl) rfl (Run.nil (pj_then (J_seq (J_seq (J_reg (st (s_loadW 1 rfl rfl) rfl ?_))))))
  refine st (s_callk (hs ) rfl ⟨VT.le_refl _, trivial⟩) rfl ?_
  refine st (s_not rfl) rfl (Run.nil (pj_then (J_cond0 rfl (J_skip (pj_then (J_seq (J_reg (st (s_fieldAddr rfl) rfl (st (s_loadB 1 rfl rfl rfl) rfl ?_)))))))))
  refine st (s_assign rfl) rfl (Run.nil (pj_then (J_seq ?_)))
  refine J_regU2 mixed (by kernel_rfl) (by kernel_rfl) ?_
  refine ux (fun B => s_loadW 1 rfl rfl) rfl rfl ?_
  refine ux (fun B => s_move rfl) rfl rfl ?_
  refine uxk (hid ) rfl ⟨VT.le_refl _, trivial⟩ rfl ?_
  refine uxk (hbe' ) rfl ⟨VT.le_refl _, VT.le_refl _, trivial⟩ rfl ?_
  refine ux (fun B => s_move rfl) rfl rfl ?_
  refine ux (fun B => s_extract rfl rfl) rfl rfl ?_
  refine ux (fun B => s_extract rfl rfl) rfl rfl ?_
  refine ua rfl (us rfl ?_)
  refine ux (fun B => s_assign rfl) rfl rfl ?_
  refine RunU.nil (fun γ => ?_)
  refine PJ_normM (M' := [_, _, _]) rfl (PJ_sub (SubG.refl _) (.keep box_flat (SubM.refl _)) (pj_then (J_seq (J_reg (st (s_fieldAddr rfl) rfl (st (s_loadB 0 rfl rfl rfl) rfl (st (s_move rfl) rfl ?_)))))))
  refine st (s_callk (hru ) rfl ⟨VT.le_refl _, VT.le_refl _, VT.le_refl _, trivial⟩) rfl ?_
  refine st (s_assign rfl) rfl (Run.nil (pj_then (J_seq (J_reg (st (s_move rfl) rfl (st (s_move rfl) rfl ?_))))))
  refine a_callM (New_ok _ _ (by omega) (by omega)) rfl ⟨VT.le_refl _, VT.le_refl _, trivial⟩ rfl rfl (fun s30 => ?_)
  refine a_allocS (T := 28) rfl rfl rfl (fun b8 => ?_)
  refine a_storeW 0 rfl rfl rfl rfl (Run.nil (pj_then (J_seq (J_seq (J_reg (st (s_move rfl) rfl (st (s_nilCheckI rfl) rfl (st (s_fieldI rfl rfl) rfl (st (s_load rfl) rfl ?_)))))))))
  refine st (s_len rfl) rfl (st (s_move rfl) rfl (st (s_sub rfl rfl (wrap_i64 (by omega) (by omega))) rfl (st (s_lt rfl rfl) rfl (Run.nil (pj_then ?_)))))
  obtain ⟨⟨bs, sv1, cap1⟩, hlen, hsv⟩ := s30
  simp only at hlen hsv
  unfold newT
  dsimp only
  by_cases hp1 : e.piv.length < r - 1
  · have hp1' : (e.piv.length : Int) < (r : Int) - 1 := by omega
    refine J_condT rfl (by assumption) (J_seq (J_reg (st (s_loadW 0 rfl rfl) rfl (a_storeW 4 rfl rfl rfl rfl (st (s_assign rfl) rfl (Run.nil (pj_then (J_ret (pr_then ?_)))))))))
    refine PJ_open [outO sv1 cap1 r r bs, ownR r bs (fun _ _ => 0)] (perm6 _ _ _ _ _ _) (.keep (EntO.refl _) (.keep (EntO.refl _) (.keep (EntO.box (newT_open hlen ⟨by simp, by simp, by simp⟩)) (.keep (EntO.refl _) .nil)))) (EntG.refl _) ?_
    refine retc2 Tryz.results19 (.cellW 2 rfl rfl ((matF_le fun a b ha hb => by rw [← hG]; unfold adjE; rw [if_pos hp1]))) (.tmp rfl (VT.le_refl _))
  · have hp1' : ¬ (e.piv.length : Int) < (r : Int) - 1 := by omega
    refine J_condF rfl (by assumption) (J_skip (pj_then (J_seq (J_seq (J_reg (st (s_move rfl) rfl (st (s_move rfl) rfl (Run.nil (pj_then ?_)))))))))
    refine J_block (J_sub (Γ' := [(1, _), (2, _), (3, _), (4, _), (7, _), (8, _), (40, _), (41, _)]) (SubG.cons rfl (VT.le_refl _) (SubG.cons rfl (VT.le_refl _) (SubG.cons rfl (VT.le_refl _) (SubG.cons rfl (VT.le_refl _) (SubG.cons rfl (VT.le_refl _) (SubG.cons rfl (VT.le_refl _) (SubG.cons rfl (VT.le_refl _) (SubG.cons rfl (VT.le_refl _) (SubG.nil))))))))) (SubM.refl _) ?_)
    refine J_loopA (σ := Nat) (Γk := [(1, _), (2, _), (3, _), (4, _), (7, _), (8, _), (40, _)]) (SubG.cons rfl (VT.le_refl _) (SubG.cons rfl (VT.le_refl _) (SubG.cons rfl (VT.le_refl _) (SubG.cons rfl (VT.le_refl _) (SubG.cons rfl (VT.le_refl _) (SubG.cons rfl (VT.le_refl _) (SubG.cons rfl (VT.le_refl _) (SubG.nil)))))))) (fun i => [(41, one (.int .i64 (i : Nat)))]) (fun i M0 => (M0.set 2 (ownR r bs (fill2 G i 0)))) (fun i => i ≤ r) (fun i => r - i) (0) (Nat.zero_le _) (by repeat (first | exact SubG.refl _ | exact SubG.nil | refine SubG.cons rfl (VT.le_refl _) ?_ | (refine SubG.cons rfl (one_le ?_) ?_; (congr 1; first | omega | (simp; omega) | simp)))) (.keep (Own.le_refl _) (.keep (Own.le_refl _) (.keep (ownR_le fun i j hi hj => by simp [fill2]) (.keep (Own.le_refl _) (.keep (Own.le_refl _) (.keep (Own.le_refl _) (.nil))))))) (fun i hi => ?_)
    refine J_norm (Γ' := [(41, _), (1, _), (2, _), (3, _), (4, _), (7, _), (8, _), (40, _)]) (M' := [_, _, _, _, _, _]) rfl rfl ?_
    by_cases hi' : i < r
    · obtain ⟨bo, rfl⟩ := sv_some hsv (by omega)
      refine J_seq (J_reg (st (sT (by omega) (s_lt rfl rfl)) rfl (Run.nil (pj_then (J_seq (J_cond1 rfl (J_skip (pj_then (J_seq ?_)))))))))
      refine J_block (J_seq (J_reg (st (s_move rfl) rfl (st (s_assign rfl) rfl (Run.nil (pj_then (J_seq (J_reg (st (s_move rfl) rfl ?_)))))))))
      refine st (s_move rfl) rfl (Run.nil (pj_then (J_block (J_sub (Γ' := [(1, _), (2, _), (3, _), (4, _), (7, _), (8, _), (9, _), (40, _), (41, _), (44, _), (45, _)]) (SubG.cons rfl (VT.le_refl _) (SubG.cons rfl (VT.le_refl _) (SubG.cons rfl (VT.le_refl _) (SubG.cons rfl (VT.le_refl _) (SubG.cons rfl (VT.le_refl _) (SubG.cons rfl (VT.le_refl _) (SubG.cons rfl (VT.le_refl _) (SubG.cons rfl (VT.le_refl _) (SubG.cons rfl (VT.le_refl _) (SubG.cons rfl (VT.le_refl _) (SubG.cons rfl (VT.le_refl _) (SubG.nil)))))))))))) (SubM.refl _) ?_))))
      refine J_loopA (σ := Nat) (Γk := [(1, _), (2, _), (3, _), (4, _), (7, _), (8, _), (9, _), (40, _), (41, _), (44, _)]) (SubG.cons rfl (VT.le_refl _) (SubG.cons rfl (VT.le_refl _) (SubG.cons rfl (VT.le_refl _) (SubG.cons rfl (VT.le_refl _) (SubG.cons rfl (VT.le_refl _) (SubG.cons rfl (VT.le_refl _) (SubG.cons rfl (VT.le_refl _) (SubG.cons rfl (VT.le_refl _) (SubG.cons rfl (VT.le_refl _) (SubG.cons rfl (VT.le_refl _) (SubG.nil))))))))))) (fun j => [(45, one (.int .i64 (j : Nat)))]) (fun j M0 => (M0.set 2 (ownR r bs (fill2 G i j)))) (fun j => j ≤ r) (fun j => r - j) (0) (Nat.zero_le _) (by repeat (first | exact SubG.refl _ | exact SubG.nil | refine SubG.cons rfl (VT.le_refl _) ?_ | (refine SubG.cons rfl (one_le ?_) ?_; (congr 1; first | omega | (simp; omega) | simp)))) (.keep (Own.le_refl _) (.keep (Own.le_refl _) (.keep (Own.le_refl _) (.keep (Own.le_refl _) (.keep (Own.le_refl _) (.keep (Own.le_refl _) (.nil))))))) (fun j hj => ?_)
      refine J_norm (Γ' := [(45, _), (1, _), (2, _), (3, _), (4, _), (7, _), (8, _), (9, _), (40, _), (41, _), (44, _)]) (M' := [_, _, _, _, _, _]) rfl rfl ?_
      by_cases hj' : j < r
      · by_cases hp : e.piv.length < r
        · have hc := hcof j i hj' hi'
          have hv : cof r F j i = G i j := by rw [← hG]; unfold adjE; rw [if_neg hp1, if_pos hp]
          refine J_seq (J_reg (st (sT (by omega) (s_lt rfl rfl)) rfl (Run.nil (pj_then (J_seq (J_cond1 rfl (J_skip (pj_then (J_seq ?_)))))))))
          refine J_block (J_seq (J_reg (st (s_move rfl) rfl (st (s_assign rfl) rfl (Run.nil (pj_then (J_block (J_seq (J_reg ?_)))))))))
          refine st (s_move rfl) rfl (st (s_nilCheckI rfl) rfl (st (s_fieldI rfl rfl) rfl (st (s_load rfl) rfl (st (s_len rfl) rfl (st (s_move rfl) rfl (st (sT (by omega) (s_lt rfl rfl)) rfl (st (s_assign rfl) rfl (Run.nil (pj_then ?_)))))))))
          refine J_cond1 rfl (J_regd 10 mixed (by kernel_rfl) (by decide) (st (s_fieldAddr rfl) rfl (st (s_loadB 0 rfl rfl rfl) rfl (st (s_move rfl) rfl (st (s_indexON rfl rfl (by omega)) rfl (st (s_loadE 1 rfl rfl (by omega)) rfl (st (s_move rfl) rfl (st (s_loadW 5 rfl rfl) rfl (st (s_move rfl) rfl ?_)))))))))
          refine st (s_move rfl) rfl ?_
          refine st (s_callk (hcof _ _ (by assumption) (by assumption)) rfl ⟨VT.le_refl _, VT.le_refl _, VT.le_refl _, trivial⟩) rfl ?_
          refine Run.nil (st (s_indexON rfl rfl (by omega)) rfl ?_)
          (refine a_storeR 2 rfl rfl rfl (getq ?_) ?_ rfl ?_; omega; omega)
          refine Run.nil (pn_block (pn_block (pj_then (J_reg (st (s_addN _ 1 rfl rfl (by omega)) rfl (st (s_move rfl) rfl (Run.nil ?_)))))))
          refine pj_roundM (j + 1) (by assumption) (by omega) (by repeat (first | exact SubG.refl _ | exact SubG.nil | refine SubG.cons rfl (VT.le_refl _) ?_ | (refine SubG.cons rfl (one_le ?_) ?_; (congr 1; first | omega | (simp; omega) | simp)))) (.keep (Own.le_refl _) (.keep (Own.le_refl _) (.keep (upd_fill2 _ hv) (.keep (Own.le_refl _) (.keep (Own.le_refl _) (.keep (Own.le_refl _) (.nil)))))))
        · have hp2 : ¬ (e.piv.length : Int) < (r : Int) := by omega
          have hs2 := he.lz hok (hok.R i (r + j))
          unfold rowF
          cases ho : e.odd with
          | true =>
            have hn := hneg _ hs2
            have hv : -(e.R i (r + j)) = G i j := by rw [← hG]; unfold adjE; rw [if_neg hp1, if_neg hp, if_pos ho]
            refine J_seq (J_reg (st (sT (by omega) (s_lt rfl rfl)) rfl (Run.nil (pj_then (J_seq (J_cond1 rfl (J_skip (pj_then (J_seq ?_)))))))))
            refine J_block (J_seq (J_reg (st (s_move rfl) rfl (st (s_assign rfl) rfl (Run.nil (pj_then (J_block (J_seq (J_reg ?_)))))))))
            refine st (s_move rfl) rfl (st (s_nilCheckI rfl) rfl (st (s_fieldI rfl rfl) rfl (st (s_load rfl) rfl (st (s_len rfl) rfl (st (s_move rfl) rfl (st (sF (by assumption) (s_lt rfl rfl)) rfl (st (s_assign rfl) rfl (Run.nil (pj_then ?_)))))))))
            refine J_cond0 rfl (J_seq (J_reg (st (s_move rfl) rfl (st (s_nilCheckI rfl) rfl (st (s_fieldI rfl rfl) rfl (st (s_fieldI rfl rfl) rfl (st (s_load rfl) rfl (st (s_assign rfl) rfl (Run.nil ?_)))))))))
            refine pj_then (J_cond1 rfl (J_regd 20 mixed (by kernel_rfl) (by decide) (st (s_fieldAddr rfl) rfl (st (s_loadB 0 rfl rfl rfl) rfl (st (s_move rfl) rfl (st (s_indexON rfl rfl (by omega)) rfl (st (s_loadE 1 rfl rfl (by omega)) rfl (st (s_move rfl) rfl (st (s_move rfl) rfl ?_)))))))))
            refine st (s_nilCheckI rfl) rfl (st (s_fieldI rfl rfl) rfl (st (s_fieldI rfl rfl) rfl (st (s_load rfl) rfl (st (s_move rfl) rfl (st (s_indexIN rfl rfl (by omega)) rfl (st (s_load rfl) rfl (st (s_move rfl) rfl (st (s_move rfl) rfl (st (s_addN _ _ rfl rfl (by omega)) rfl ?_)))))))))
            refine st (s_indexIN rfl rfl (by omega)) rfl (st (s_load rfl) rfl ?_)
            refine st (s_callk (hneg _ (by assumption)) rfl ⟨VT.le_refl _, trivial⟩) rfl ?_
            refine Run.nil (st (s_indexON rfl rfl (by omega)) rfl ?_)
            (refine a_storeR 2 rfl rfl rfl (getq ?_) ?_ rfl ?_; omega; omega)
            refine Run.nil (pn_block (pn_block (pj_then (J_reg (st (s_addN _ 1 rfl rfl (by omega)) rfl (st (s_move rfl) rfl (Run.nil ?_)))))))
            refine pj_roundM (j + 1) (by assumption) (by omega) (by repeat (first | exact SubG.refl _ | exact SubG.nil | refine SubG.cons rfl (VT.le_refl _) ?_ | (refine SubG.cons rfl (one_le ?_) ?_; (congr 1; first | omega | (simp; omega) | simp)))) (.keep (Own.le_refl _) (.keep (Own.le_refl _) (.keep (upd_fill2 _ hv) (.keep (Own.le_refl _) (.keep (Own.le_refl _) (.keep (Own.le_refl _) (.nil)))))))
          | false =>
            have hv : e.R i (r + j) = G i j := by rw [← hG]; unfold adjE; rw [if_neg hp1, if_neg hp, if_neg (by rw [ho]; decide)]
            refine J_seq (J_reg (st (sT (by omega) (s_lt rfl rfl)) rfl (Run.nil (pj_then (J_seq (J_cond1 rfl (J_skip (pj_then (J_seq ?_)))))))))
            refine J_block (J_seq (J_reg (st (s_move rfl) rfl (st (s_assign rfl) rfl (Run.nil (pj_then (J_block (J_seq (J_reg ?_)))))))))
            refine st (s_move rfl) rfl (st (s_nilCheckI rfl) rfl (st (s_fieldI rfl rfl) rfl (st (s_load rfl) rfl (st (s_len rfl) rfl (st (s_move rfl) rfl (st (sF (by assumption) (s_lt rfl rfl)) rfl (st (s_assign rfl) rfl (Run.nil (pj_then ?_)))))))))
            refine J_cond0 rfl (J_seq (J_reg (st (s_move rfl) rfl (st (s_nilCheckI rfl) rfl (st (s_fieldI rfl rfl) rfl (st (s_fieldI rfl rfl) rfl (st (s_load rfl) rfl (st (s_assign rfl) rfl (Run.nil ?_)))))))))
            refine pj_then (J_cond0 rfl (J_regd 19 mixed (by kernel_rfl) (by decide) (st (s_fieldAddr rfl) rfl (st (s_loadB 0 rfl rfl rfl) rfl (st (s_move rfl) rfl (st (s_indexON rfl rfl (by omega)) rfl (st (s_loadE 1 rfl rfl (by omega)) rfl (st (s_move rfl) rfl (st (s_move rfl) rfl ?_)))))))))
            refine st (s_nilCheckI rfl) rfl (st (s_fieldI rfl rfl) rfl (st (s_fieldI rfl rfl) rfl (st (s_load rfl) rfl (st (s_move rfl) rfl (st (s_indexIN rfl rfl (by omega)) rfl (st (s_load rfl) rfl (st (s_move rfl) rfl (st (s_move rfl) rfl (st (s_addN _ _ rfl rfl (by omega)) rfl ?_)))))))))
            refine st (s_indexIN rfl rfl (by omega)) rfl (st (s_load rfl) rfl (Run.nil (st (s_indexON rfl rfl (by omega)) rfl ?_)))
            (refine a_storeR 2 rfl rfl rfl (getq ?_) ?_ rfl ?_; omega; omega)
            refine Run.nil (pn_block (pn_block (pj_then (J_reg (st (s_addN _ 1 rfl rfl (by omega)) rfl (st (s_move rfl) rfl (Run.nil ?_)))))))
            refine pj_roundM (j + 1) (by assumption) (by omega) (by repeat (first | exact SubG.refl _ | exact SubG.nil | refine SubG.cons rfl (VT.le_refl _) ?_ | (refine SubG.cons rfl (one_le ?_) ?_; (congr 1; first | omega | (simp; omega) | simp)))) (.keep (Own.le_refl _) (.keep (Own.le_refl _) (.keep (upd_fill2 _ hv) (.keep (Own.le_refl _) (.keep (Own.le_refl _) (.keep (Own.le_refl _) (.nil)))))))
      · have hjr : j = r := by omega
        subst hjr
        refine J_seq (J_reg (st (sF (by omega) (s_lt rfl rfl)) rfl (Run.nil (pj_then (J_seq (J_cond0 rfl (J_exit (px_then (px_then ?_)))))))))
        refine px_block (pn_block (pj_then (J_reg (st (s_addN _ 1 rfl rfl (by omega)) rfl (st (s_move rfl) rfl (Run.nil ?_))))))
        refine pj_roundM (i + 1) (by assumption) (by omega) (by repeat (first | exact SubG.refl _ | exact SubG.nil | refine SubG.cons rfl (VT.le_refl _) ?_ | (refine SubG.cons rfl (one_le ?_) ?_; (congr 1; first | omega | (simp; omega) | simp)))) (.keep (Own.le_refl _) (.keep (Own.le_refl _) (.keep (next_fill2) (.keep (Own.le_refl _) (.keep (Own.le_refl _) (.keep (Own.le_refl _) (.nil)))))))
    · have hir : i = r := by omega
      subst hir
      refine J_seq (J_reg (st (sF (by omega) (s_lt rfl rfl)) rfl (Run.nil (pj_then (J_seq (J_cond0 rfl (J_exit (px_then (px_then ?_)))))))))
      refine px_block (pj_then (J_seq (J_reg (st (s_loadW 0 rfl rfl) rfl (a_storeW 4 rfl rfl rfl rfl (st (s_assign rfl) rfl (Run.nil (pj_then (J_ret ?_)))))))))
      refine PJ_open [outO sv1 cap1 i i bs, ownR i bs (fill2 G i 0)] (perm6 _ _ _ _ _ _) (.keep (EntO.refl _) (.keep (EntO.refl _) (.keep (EntO.box (newT_open hlen ⟨by simp, by simp, by simp⟩)) (.keep (EntO.refl _) .nil)))) (EntG.refl _) ?_
      refine retc2 Tryz.results19 (.cellW 2 rfl rfl ((matF_le fun a b ha hb => by simp [fill2, ha]))) (.tmp rfl (VT.le_refl _))
end Tor
end
section
namespace Tor
open Go Go.RowKit Go.Proofs
def intsF (c : Nat) (l : List Int) : Nat → Nat → Int := fun i j => l.getD (i * c + j) 0
def IN (r c : Nat) (l : List Int) : VT := matF r c (intsF c l)
theorem vec_le (l : List Int) : VT.le (slT (.agg 2) l.length (fun q => (l.map bigT).getD q anyT)) (rowF l.length (fun j => l.getD j 0)) := by
  unfold rowF
  refine slT_le fun i hi => ?_
  simp only [List.getD, List.getElem?_map, List.getElem?_eq_getElem hi, Option.map_some, Option.getD_some]
  exact VT.le_refl _
theorem i64_ints {l : List Int} (h : (l.all fun x => decide (-9223372036854775808 ≤ x) && decide (x ≤ 9223372036854775807)) = true) : ∀ x ∈ l, -9223372036854775808 ≤ x ∧ x ≤ 9223372036854775807 := fun x hx => by
  have := List.all_eq_true.1 h x hx
  simpa using this
theorem rSameF_ok (r c r' c' : Nat) (F G : Nat → Nat → Int) (hr : r ≤ 1048576) : Ok Tryz.prog 22 [matF r c F, matF r' c' G] (one (.bool (decide ((r : Int) = r' ∧ (c : Int) = c' ∧ tab r c F = tab r' c' G)))) :=
  (rSameMat_ok r c r' c' (tab r c F) (tab r' c' G) (by simp; omega)).le ⟨matF_mat _ _ _, matF_mat _ _ _, trivial⟩ (VT.le_refl _)
theorem same_self (r c : Nat) (F : Nat → Nat → Int) (hr : r ≤ 1048576) : Ok Tryz.prog 22 [matF r c F, matF r c F] (one (.bool true)) := by
  have h := rSameF_ok r c r c F F hr
  simpa using h
theorem ints_ok (r c : Nat) (l : List Int) (hr : r ≤ 1048576) (hc : c ≤ 1048576) (h : (l.all fun x => decide (-9223372036854775808 ≤ x) && decide (x ≤ 9223372036854775807)) = true) : Ok Tryz.prog 38 [one (.int .i64 r), one (.int .i64 c), numT .i64 l] (IN r c l) := rInts_ok r c l hr hc (i64_ints h)
end Tor
end
section
namespace Tor
open Go Go.RowKit Go.Proofs
theorem lzL {l : List Int} (h : (l.all fun x => decide (x.natAbs < 4294967296)) = true) (k : Nat) : lz 1 (l.getD k 0) := by
  refine digs_len_le (k := 1) ?_
  rw [Nat.pow_one]
  by_cases hk : k < l.length
  · have := List.all_eq_true.1 h (l.getD k 0) (by simp [List.getD, hk])
    exact of_decide_eq_true this
  · have : l.getD k 0 = 0 := by simp [List.getD, Nat.le_of_not_lt hk]
    rw [this]; decide
abbrev numV (l : List Int) : VT := slT .one l.length (fun q => one (.int .i64 (l.getD q 0)))
theorem numV_le (l : List Int) : VT.le (slT .one l.length (fun q => (l.map fun x => one (.int .i64 x)).getD q anyT)) (numV l) := by
  refine slT_le fun i hi => ?_
  simp only [List.getD, List.getElem?_map, List.getElem?_eq_getElem hi, Option.map_some, Option.getD_some]
  exact VT.le_refl _
theorem numV1_le (x : Int) : VT.le (slT .one 1 (fun _ => one (.int .i64 x))) (numV [x]) := slT_le' rfl fun q hq => by
  have hq : q < 1 := hq
  rw [show q = 0 by omega]; rfl
theorem pivT_num {l : List Nat} {m : List Int} (h : l.map (fun x : Nat => (x : Int)) = m) : VT.le (pivT l) (numV m) := by
  subst h
  refine slT_le' (by simp) (fun q hq => ?_)
  show one (Value.int .i64 ((l.getD q 0 : Nat) : Int)) = one (Value.int .i64 ((l.map fun x : Nat => (x : Int)).getD q 0))
  simp [List.getD, hq]
theorem newL_eq {r w c : Nat} (F : Nat → Nat → Int) (h : c ≤ w) : Lin.newL r w F c = (elN r false F c).piv := by
  obtain ⟨A, V, hE⟩ := Lin.elN_EL r w false F c h
  exact hE.pl.symm
theorem tup3_le {φ φ' ψ ψ' χ : VT} (h : VT.le φ φ') (k : VT.le ψ ψ') : VT.le (tupT [φ, ψ, χ]) (tupT [φ', ψ', χ]) := by
  rintro v g ⟨vs, h1, h2⟩
  refine ⟨vs, h1, ?_⟩
  match vs, h2 with
  | [a, b, c], ⟨p, q, r, _⟩ => exact ⟨h _ _ p, k _ _ q, r, trivial⟩
theorem ratS_le {n : Nat} {f g : Nat → Rat} (h : ∀ i, i < n → f i = g i) : VT.le (slT (.agg 4) n (fun i => ratT (f i))) (ratF n g) := ratF_le h
attribute [local irreducible] Tor.J Tor.PJ Tor.StepO Tor.one Tor.slT Tor.ptrT Tor.aggT Tor.tupT Tor.exT Tor.andT Tor.eP Tor.boxO Tor.sliO Tor.slV Tor.VT.le Tor.Ret Tor.anyT Tor.xO
attribute [local irreducible] bigT ratT
set_option maxHeartbeats 4000000 in
theorem halves_ok (l : List Int) (hl : l.length ≤ 1024) (h : (l.all fun x => decide (-9223372036854775808 ≤ x) && decide (x ≤ 9223372036854775807)) = true) : Ok Tryz.prog 41 [numV l] (ratF l.length (fun i => Rat.divInt (l.getD i 0) 2)) := by
  unfold ratF
  refine Ok.enter Tryz.func41 rfl Tryz.ntmps41 rfl (fun w O => ?_)
  refine J_seq (J_reg (st (s_assign rfl) rfl (Run.nil (pj_then (J_seq (J_reg (stSO (n := 0) rfl rfl rfl rfl rfl ?_)))))))
  refine PartsK.nil (fun bl => ?_)
  refine st (s_assign rfl) rfl (Run.nil (pj_then (J_seq (J_seq (J_reg (st (s_assign rfl) rfl (Run.nil (pj_then (J_block ?_)))))))))
  refine J_sub (Γ' := [(0, _), (2, _), (3, _), (4, _)]) (SubG.cons rfl (VT.le_refl _) (SubG.cons rfl (VT.le_refl _) (SubG.cons rfl (VT.le_refl _) (SubG.cons rfl (VT.le_refl _) (SubG.nil))))) (SubM.refl _) ?_
  refine J_loopA (σ := Nat × Option Nat × Nat) (Γk := [(0, _), (2, _)]) (SubG.cons rfl (VT.le_refl _) (SubG.cons rfl (VT.le_refl _) (SubG.nil))) (fun s => [(4, one (.int .i64 (s.1 : Nat))), (3, one (slV s.2.1 s.1 s.2.2))]) (fun s M0 => (M0.set 0 (sliO s.2.1 63 (.agg 4) s.2.2 s.1 (fun q => ratT (Rat.divInt (l.getD q 0) 2))))) (fun s => s.1 ≤ l.length) (fun s => l.length - s.1) ((0, some bl, 0)) (Nat.zero_le _) (by repeat (first | exact SubG.refl _ | exact SubG.nil | refine SubG.cons rfl (VT.le_refl _) ?_ | (refine SubG.cons rfl (one_le ?_) ?_; (congr 1; first | omega | (simp; omega) | simp)))) (.keep (sliO_eq (fun q hq => absurd hq (Nat.not_lt_zero _))) (.nil)) (fun s hs => ?_)
  refine J_norm (Γ' := [(4, _), (3, _), (0, _), (2, _)]) (M' := [_]) rfl rfl ?_
  obtain ⟨i, sv, cap⟩ := s
  dsimp only at hs ⊢
  by_cases hi : i < l.length
  · have hx := List.all_eq_true.1 h (l.getD i 0) (by simp [List.getD, hi])
    simp only [Bool.and_eq_true, decide_eq_true_eq] at hx
    have hm := rqMade_ok (l.getD i 0) 2 (by decide) hx.1 hx.2 (by decide) (by decide)
    refine J_seq (J_seq (J_reg (st (s_move rfl) rfl (st (s_move rfl) rfl (st (s_len rfl) rfl (st (sT (by omega) (s_lt rfl rfl)) rfl (Run.nil (pj_then (J_cond1 rfl ?_)))))))))
    refine J_skip (pj_then (J_seq (J_block (J_reg (st (s_move rfl) rfl (st (s_move rfl) rfl (st (s_move rfl) rfl (st (s_indexIN rfl rfl (by omega)) rfl (st (s_load rfl) rfl ?_)))))))))
    refine st (s_callk (hm ) rfl ⟨VT.le_refl _, VT.le_refl _, trivial⟩) rfl ?_
    refine stS1 rfl rfl rfl rfl ?_
    (refine a_append 0 rfl rfl rfl (leN rfl) ?_ ?_ rfl (ltN rfl) (fun sv19 cap19 => ?_); omega; omega)
    refine st (s_assign rfl) rfl (Run.nil (pn_block (pj_then (J_reg (st (s_move rfl) rfl (st (s_addN _ 1 rfl rfl (by omega)) rfl (st (s_assign rfl) rfl (Run.nil ?_))))))))
    refine pj_roundM ((i + 1, sv19, cap19)) (hi) (by omega) (by repeat (first | exact SubG.refl _ | exact SubG.nil | refine SubG.cons rfl (VT.le_refl _) ?_ | (refine SubG.cons rfl (one_le ?_) ?_; (congr 1; first | omega | (simp; omega) | simp)))) (.keep (rat_snoc (h := fun q => Rat.divInt (l.getD q 0) 2) rfl) (.nil))
  · have he : i = l.length := by omega
    rw [he]
    refine J_seq (J_seq (J_reg (st (s_move rfl) rfl (st (s_move rfl) rfl (st (s_len rfl) rfl (st (sF (by omega) (s_lt rfl rfl)) rfl (Run.nil (pj_then (J_cond0 rfl ?_)))))))))
    refine J_exit (px_then (px_then (px_block (pj_then (J_seq (J_reg (st (s_move rfl) rfl (st (s_assign rfl) rfl (Run.nil ?_)))))))))
    refine pj_then (J_ret (PJ_freeze (t := 2) (i := 0) rfl rfl ?_))
    refine retc1 Tryz.results41 (.tmp rfl (VT.le_refl _))
theorem rNewF_ok (r c : Nat) (hr : r ≤ 1048576) (hc : c ≤ 1048576) : Ok Tryz.prog 39 [one (.int .i64 r), one (.int .i64 c)] (matF r c (fun _ _ => 0)) := (rNew_ok r c hr hc).ok fun s => newT_mat _ s
theorem rqListF_ok (n m : Nat) (l k : Nat → Rat) (hn : n ≤ 1048576) : Ok Tryz.prog 16 [ratF n l, ratF m k] (one (.bool (decide (n = m ∧ ∀ i, i < n → l i = k i)))) := rqList_ok n m l k hn
attribute [local irreducible] matF rowF ratF
set_option maxRecDepth 20000 in
set_option maxHeartbeats 20000000 in
theorem sanity_ok : Ok Tryz.prog 7 [] (one (.bool true)) := by
  have i1 : Ok Tryz.prog 38 [one (.int .i64 (2 : Nat)), one (.int .i64 (2 : Nat)), numT .i64 [1, 2, 3, 4]] (matF 2 2 (intsF 2 [1, 2, 3, 4])) := ints_ok 2 2 [1, 2, 3, 4] (by decide) (by decide) (by decide)
  have i2 : Ok Tryz.prog 38 [one (.int .i64 (1 : Nat)), one (.int .i64 (2 : Nat)), numT .i64 [1, 1]] (matF 1 2 (intsF 2 [1, 1])) := ints_ok 1 2 [1, 1] (by decide) (by decide) (by decide)
  have i3 : Ok Tryz.prog 38 [one (.int .i64 (4 : Nat)), one (.int .i64 (2 : Nat)), numT .i64 [0, 0, 0, 2, 0, 3, 1, 1]] (matF 4 2 (intsF 2 [0, 0, 0, 2, 0, 3, 1, 1])) := ints_ok 4 2 [0, 0, 0, 2, 0, 3, 1, 1] (by decide) (by decide) (by decide)
  have i4 : Ok Tryz.prog 38 [one (.int .i64 (2 : Nat)), one (.int .i64 (2 : Nat)), numT .i64 [2, 4, 1, 2]] (matF 2 2 (intsF 2 [2, 4, 1, 2])) := ints_ok 2 2 [2, 4, 1, 2] (by decide) (by decide) (by decide)
  have i5 : Ok Tryz.prog 38 [one (.int .i64 (1 : Nat)), one (.int .i64 (1 : Nat)), numT .i64 [5]] (matF 1 1 (intsF 1 [5])) := ints_ok 1 1 [5] (by decide) (by decide) (by decide)
  have i6 : Ok Tryz.prog 38 [one (.int .i64 (2 : Nat)), one (.int .i64 (2 : Nat)), numT .i64 [4, -2, -3, 1]] (matF 2 2 (intsF 2 [4, -2, -3, 1])) := ints_ok 2 2 [4, -2, -3, 1] (by decide) (by decide) (by decide)
  have i7 : Ok Tryz.prog 38 [one (.int .i64 (1 : Nat)), one (.int .i64 (1 : Nat)), numT .i64 [1]] (matF 1 1 (intsF 1 [1])) := ints_ok 1 1 [1] (by decide) (by decide) (by decide)
  have d1 := Det_ok 2 (intsF 2 [1, 2, 3, 4]) 1 (by decide) ⟨by decide, by decide⟩ (fun i j => lzL (by decide) _)
  rw [show Lin.detZ 2 (intsF 2 [1, 2, 3, 4]) = -2 by decide +kernel] at d1
  have d2 := Det_ok 0 (fun _ _ => 0) 1 (by decide) ⟨by decide, by decide⟩ (fun i j => lz_zero 1)
  rw [show Lin.detZ 0 (fun _ _ => 0) = 1 by decide +kernel] at d2
  have d3 := DetS_ok 1 2 (intsF 2 [1, 1]) (by decide)
  have r1 := Rank_ok 4 2 (intsF 2 [0, 0, 0, 2, 0, 3, 1, 1]) 1 (by decide) (by decide) ⟨by decide, by decide⟩ ⟨by decide, by decide⟩ (fun i j => lzL (by decide) _)
  have s1 := Solve_ok 2 2 (intsF 2 [2, 4, 1, 2]) (fun j => [1, 2].getD j 0) 1 (by decide) (by decide) ⟨by decide, by decide⟩ (fun i j => lzL (by decide) _) (fun j => lzL (by decide) _)
  have s2 := Solve_ok 1 2 (intsF 2 [1, 1]) (fun j => [1, 2].getD j 0) 1 (by decide) (by decide) ⟨by decide, by decide⟩ (fun i j => lzL (by decide) _) (fun j => lzL (by decide) _)
  rw [newL_eq _ (by decide), newL_eq _ (by decide), show (elN 2 false (fun i j => intsF 2 [0, 0, 0, 2, 0, 3, 1, 1] j i) 4).piv = [1, 3] by decide +kernel, show (elN 4 false (intsF 2 [0, 0, 0, 2, 0, 3, 1, 1]) 2).piv = [0, 1] by decide +kernel] at r1
  rw [show firstP (elN 2 true (eqS 2 (intsF 2 [2, 4, 1, 2]) (fun j => [1, 2].getD j 0)) 2).R 2 (elN 2 true (eqS 2 (intsF 2 [2, 4, 1, 2]) (fun j => [1, 2].getD j 0)) 2).piv.length 2 = none by decide +kernel] at s1
  have s1' := s1.le (leAll_refl _) (tup3_le (ratS_le (g := fun i => Rat.divInt ([1, 0].getD i 0) 2) (by decide +kernel)) (VT.le_refl _))
  rw [show firstP (elN 2 true (eqS 1 (intsF 2 [1, 1]) (fun j => [1, 2].getD j 0)) 1).R 1 (elN 2 true (eqS 1 (intsF 2 [1, 1]) (fun j => [1, 2].getD j 0)) 1).piv.length 2 = some 1 by decide +kernel] at s2
  have s2' := s2.le (leAll_refl _) (tup3_le (VT.le_refl _) (ratS_le (g := fun i => Rat.divInt ([-2, 2].getD i 0) 2) (by decide +kernel)))
  clear s1 s2
  have a1 := Adjugate_ok 2 (intsF 2 [1, 2, 3, 4]) 1 (by decide) ⟨by decide, by decide⟩ (fun i j => lzL (by decide) _)
  have a2 := Adjugate_ok 1 (intsF 1 [5]) 1 (by decide) ⟨by decide, by decide⟩ (fun i j => lzL (by decide) _)
  have a3 := AdjugateS_ok 1 2 (intsF 2 [1, 1]) (by decide)
  refine Ok.enter Tryz.func7 rfl Tryz.ntmps7 rfl (fun w O => ?_)
  have hh1 := halves_ok [1, 0] (by decide) (by decide)
  have hh2 := halves_ok [-2, 2] (by decide) (by decide)
  have hl1 := rqListF_ok 2 2 (fun i => Rat.divInt ([1, 0].getD i 0) 2) (fun i => Rat.divInt ([1, 0].getD i 0) 2) (by decide)
  have hl2 := rqListF_ok 2 2 (fun i => Rat.divInt ([-2, 2].getD i 0) 2) (fun i => Rat.divInt ([-2, 2].getD i 0) 2) (by decide)
  have hn1 := r8Ints_ok 2 2 (fun q => ([1, 3] : List Int).getD q 0) (fun q => ([1, 3] : List Int).getD q 0) (by decide)
  have hn2 := r8Ints_ok 2 2 (fun q => ([0, 1] : List Int).getD q 0) (fun q => ([0, 1] : List Int).getD q 0) (by decide)
  rw [decide_eq_true ⟨rfl, fun i _ => rfl⟩] at hl1 hl2 hn1 hn2
  refine J_seq (J_reg (st (s_assign rfl) rfl (Run.nil (pj_then (J_seq (J_reg (stS rfl rfl rfl rfl (PartsK.cons rfl (PartsK.cons rfl ?_)))))))))
  refine PartsK.cons rfl (PartsK.cons rfl (PartsK.nil ?_))
  refine st (s_callk (i1 ) rfl ⟨VT.le_refl _, VT.le_refl _, (numV_le [1, 2, 3, 4]), trivial⟩) rfl ?_
  refine stS rfl rfl rfl rfl (PartsK.cons rfl (PartsK.cons rfl (PartsK.nil ?_)))
  refine st (s_callk (i2 ) rfl ⟨VT.le_refl _, VT.le_refl _, (numV_le [1, 1]), trivial⟩) rfl ?_
  refine a_allocS (T := 28) rfl rfl rfl (fun b1 => ?_)
  refine a_allocS (T := 28) rfl rfl rfl (fun b2 => ?_)
  refine a_storeV 1 rfl rfl rfl rfl (a_storeV 0 rfl rfl rfl rfl (Run.nil (pj_then (J_seq (J_reg (st (s_loadB 1 rfl rfl rfl) rfl ?_))))))
  refine st (s_callk (d1 ) rfl ⟨VT.le_refl _, trivial⟩) rfl ?_
  refine st (s_move rfl) rfl (st (s_extract rfl rfl) rfl (st (s_extract rfl rfl) rfl ?_))
  refine a_alloc (T := 43) rfl (ltN rfl) (fun b3 => ?_)
  refine a_storeB 0 rfl rfl rfl rfl rfl (leN rfl) rfl (st (s_assign rfl) rfl (Run.nil (pj_then (J_seq (J_reg ?_)))))
  refine st (s_callk (rNewF_ok _ _ (by decide) (by decide)) rfl ⟨VT.le_refl _, VT.le_refl _, trivial⟩) rfl ?_
  refine st (s_callk (d2 ) rfl ⟨VT.le_refl _, trivial⟩) rfl ?_
  refine st (s_move rfl) rfl (st (s_extract rfl rfl) rfl (st (s_extract rfl rfl) rfl ?_))
  refine a_alloc (T := 43) rfl (ltN rfl) (fun b5 => ?_)
  refine a_storeB 0 rfl rfl rfl rfl rfl (leN rfl) rfl (st (s_assign rfl) rfl (Run.nil (pj_then (J_seq (J_reg (st (s_loadB 2 rfl rfl rfl) rfl ?_))))))
  refine st (s_callk (d3 ) rfl ⟨VT.le_refl _, trivial⟩) rfl ?_
  refine st (s_move rfl) rfl (st (s_extract rfl rfl) rfl (st (s_extract rfl rfl) rfl ?_))
  refine a_alloc (T := 43) rfl (ltN rfl) (fun b7 => ?_)
  refine a_storeB 0 rfl rfl rfl rfl rfl (leN rfl) rfl (st (s_assign rfl) rfl (Run.nil (pj_then (J_seq (J_reg (stS rfl rfl rfl rfl (PartsK.cons rfl (PartsK.cons rfl (PartsK.cons rfl ?_)))))))))
  refine PartsK.cons rfl (PartsK.cons rfl (PartsK.cons rfl (PartsK.cons rfl (PartsK.cons rfl (PartsK.nil ?_)))))
  refine st (s_callk (i3 ) rfl ⟨VT.le_refl _, VT.le_refl _, (numV_le [0, 0, 0, 2, 0, 3, 1, 1]), trivial⟩) rfl ?_
  refine st (s_callk (r1 ) rfl ⟨VT.le_refl _, trivial⟩) rfl ?_
  refine st (s_move rfl) rfl (st (s_extract rfl rfl) rfl (st (s_extract rfl rfl) rfl (st (s_assign rfl) rfl (st (s_assign rfl) rfl (Run.nil (pj_then (J_seq (J_reg (stS rfl rfl rfl rfl ?_)))))))))
  refine PartsK.cons rfl (PartsK.cons rfl (PartsK.cons rfl (PartsK.cons rfl (PartsK.nil ?_))))
  refine st (s_callk (i4 ) rfl ⟨VT.le_refl _, VT.le_refl _, (numV_le [2, 4, 1, 2]), trivial⟩) rfl ?_
  refine st (s_callk (rOf_ok _ (by omega) (by omega)) rfl ⟨VT.le_refl _, trivial⟩) rfl ?_
  refine st (s_callk (rOf_ok _ (by omega) (by omega)) rfl ⟨VT.le_refl _, trivial⟩) rfl ?_
  refine stS rfl rfl rfl rfl (PartsK.cons rfl (PartsK.cons rfl (PartsK.nil ?_)))
  refine st (s_callk (s1' ) rfl ⟨VT.le_refl _, (vec_le [1, 2]), trivial⟩) rfl ?_
  refine st (s_move rfl) rfl (st (s_extract rfl rfl) rfl (st (s_extract rfl rfl) rfl (st (s_extract rfl rfl) rfl (st (s_assign rfl) rfl (st (s_assign rfl) rfl (st (s_assign rfl) rfl (Run.nil (pj_then (J_seq ?_)))))))))
  refine J_regd 11 mixed (by kernel_rfl) (by decide) (st (s_loadB 3 rfl rfl rfl) rfl ?_)
  refine st (s_callk (rOf_ok _ (by omega) (by omega)) rfl ⟨VT.le_refl _, trivial⟩) rfl ?_
  refine st (s_callk (rOf_ok _ (by omega) (by omega)) rfl ⟨VT.le_refl _, trivial⟩) rfl ?_
  refine stS rfl rfl rfl rfl (PartsK.cons rfl (PartsK.cons rfl (PartsK.nil ?_)))
  refine st (s_callk (s2' ) rfl ⟨VT.le_refl _, (vec_le [1, 2]), trivial⟩) rfl ?_
  refine st (s_move rfl) rfl (st (s_extract rfl rfl) rfl (st (s_extract rfl rfl) rfl (st (s_extract rfl rfl) rfl (st (s_assign rfl) rfl (st (s_assign rfl) rfl (Run.nil (st (s_assign rfl) rfl (Run.nil (pj_then ?_)))))))))
  refine J_seq (J_reg (st (s_loadB 4 rfl rfl rfl) rfl ?_))
  refine st (s_callk (a1 ) rfl ⟨VT.le_refl _, trivial⟩) rfl ?_
  refine st (s_move rfl) rfl (st (s_extract rfl rfl) rfl (st (s_extract rfl rfl) rfl ?_))
  refine a_allocS (T := 28) rfl rfl rfl (fun b17 => ?_)
  refine a_storeV 0 rfl rfl rfl rfl (st (s_assign rfl) rfl (Run.nil (pj_then (J_seq (J_reg (stS1 rfl rfl rfl rfl ?_))))))
  refine st (s_callk (i5 ) rfl ⟨VT.le_refl _, VT.le_refl _, (numV1_le 5), trivial⟩) rfl ?_
  refine st (s_callk (a2 ) rfl ⟨VT.le_refl _, trivial⟩) rfl ?_
  refine st (s_move rfl) rfl (st (s_extract rfl rfl) rfl (st (s_extract rfl rfl) rfl ?_))
  refine a_allocS (T := 28) rfl rfl rfl (fun b19 => ?_)
  refine a_storeV 0 rfl rfl rfl rfl (st (s_assign rfl) rfl (Run.nil (pj_then (J_seq (J_reg (st (s_loadB 5 rfl rfl rfl) rfl ?_))))))
  refine st (s_callk (a3 ) rfl ⟨VT.le_refl _, trivial⟩) rfl ?_
  refine st (s_move rfl) rfl (st (s_extract rfl rfl) rfl (st (s_extract rfl rfl) rfl ?_))
  refine a_allocS (T := 28) rfl rfl rfl (fun b21 => ?_)
  refine a_storeV 0 rfl rfl rfl rfl (st (s_assign rfl) rfl (Run.nil (pj_then (J_seq (J_regd 20 mixed (by kernel_rfl) (by decide) (st (s_move rfl) rfl (st (sT (by omega) (s_eq rfl rfl)) rfl (st (s_move rfl) rfl (sg1 rfl rfl (s_loadB 5 rfl rfl rfl) rfl ?_)))))))))
  refine sg1 rfl rfl (s_callk (rOf_ok _ (by omega) (by omega)) rfl ⟨VT.le_refl _, trivial⟩) rfl ?_
  refine sg1 rfl rfl (sT (by omega) (s_callk (rSame_ok _ _) rfl ⟨VT.le_refl _, VT.le_refl _, trivial⟩)) rfl ?_
  refine st (s_pickT rfl rfl) rfl (st (s_move rfl) rfl (sg1 rfl rfl (s_move rfl) rfl (sg1 rfl rfl (sT (by omega) (s_eq rfl rfl)) rfl (st (s_pickT rfl rfl) rfl (st (s_move rfl) rfl (sg1 rfl rfl (s_loadB 4 rfl rfl rfl) rfl ?_))))))
  refine sg1 rfl rfl (s_callk (rOf_ok _ (by omega) (by omega)) rfl ⟨VT.le_refl _, trivial⟩) rfl ?_
  refine sg1 rfl rfl (sT (by omega) (s_callk (rSame_ok _ _) rfl ⟨VT.le_refl _, VT.le_refl _, trivial⟩)) rfl ?_
  refine st (s_pickT rfl rfl) rfl (st (s_move rfl) rfl (sg1 rfl rfl (s_move rfl) rfl (sg1 rfl rfl (sT (by omega) (s_eq rfl rfl)) rfl (st (s_pickT rfl rfl) rfl (Run.nil (st (s_assign rfl) rfl (Run.nil (pj_then (J_seq ?_)))))))))
  refine J_reg (st (s_move rfl) rfl (st (s_move rfl) rfl (sg1 rfl rfl (s_move rfl) rfl (stSg rfl rfl rfl rfl rfl rfl (PartsK.cons rfl (PartsK.cons rfl (PartsK.nil ?_)))))))
  refine sg1 rfl rfl (s_callk (hh1 ) rfl ⟨(numV_le [1, 0]), trivial⟩) rfl ?_
  refine sg1 rfl rfl (s_callk (hl1 ) rfl ⟨VT.le_refl _, VT.le_refl _, trivial⟩) rfl ?_
  refine st (s_pickT rfl rfl) rfl (st (s_move rfl) rfl (sg1 rfl rfl (s_move rfl) rfl (sg1 rfl rfl (s_not rfl) rfl (st (s_pickT rfl rfl) rfl (st (s_move rfl) rfl (sg1 rfl rfl (s_move rfl) rfl (stSg rfl rfl rfl rfl rfl rfl (PartsK.cons rfl (PartsK.cons rfl ?_)))))))))
  refine PartsK.nil ?_
  refine sg1 rfl rfl (s_callk (hh2 ) rfl ⟨(numV_le [-2, 2]), trivial⟩) rfl ?_
  refine sg1 rfl rfl (s_callk (hl2 ) rfl ⟨VT.le_refl _, VT.le_refl _, trivial⟩) rfl ?_
  refine st (s_pickT rfl rfl) rfl (st (s_assign rfl) rfl (Run.nil (pj_then (J_seq (J_regd 22 mixed (by kernel_rfl) (by decide) (st (s_move rfl) rfl (st (sT (by omega) (s_eq rfl rfl)) rfl (st (s_move rfl) rfl (sg1 rfl rfl (s_loadB 2 rfl rfl rfl) rfl ?_)))))))))
  refine stSg rfl rfl rfl rfl rfl rfl (PartsK.cons rfl (PartsK.cons rfl (PartsK.cons rfl (PartsK.cons rfl (PartsK.nil ?_)))))
  refine sg1 rfl rfl (s_callk (i6 ) rfl ⟨VT.le_refl _, VT.le_refl _, (numV_le [4, -2, -3, 1]), trivial⟩) rfl ?_
  refine sg1 rfl rfl (sT (⟨rfl, rfl, by decide +kernel⟩) (s_callk (rSameF_ok _ _ _ _ _ _ (by omega)) rfl ⟨VT.le_refl _, VT.le_refl _, trivial⟩)) rfl ?_
  refine st (s_pickT rfl rfl) rfl (st (s_move rfl) rfl (sg1 rfl rfl (s_move rfl) rfl (sg1 rfl rfl (sT (by omega) (s_eq rfl rfl)) rfl (st (s_pickT rfl rfl) rfl (st (s_move rfl) rfl (sg1 rfl rfl (s_loadB 1 rfl rfl rfl) rfl (stSg rfl rfl rfl rfl rfl rfl (PartsK.cons rfl (PartsK.nil ?_)))))))))
  refine sg1 rfl rfl (s_callk (i7 ) rfl ⟨VT.le_refl _, VT.le_refl _, (numV_le [1]), trivial⟩) rfl ?_
  refine sg1 rfl rfl (sT (⟨rfl, rfl, by decide +kernel⟩) (s_callk (rSameF_ok _ _ _ _ _ _ (by omega)) rfl ⟨VT.le_refl _, VT.le_refl _, trivial⟩)) rfl ?_
  refine st (s_pickT rfl rfl) rfl (st (s_move rfl) rfl (sg1 rfl rfl (s_move rfl) rfl (sg1 rfl rfl (sT (by omega) (s_eq rfl rfl)) rfl (st (s_pickT rfl rfl) rfl (Run.nil (st (s_assign rfl) rfl (Run.nil (pj_then (J_seq ?_)))))))))
  refine J_reg (st (s_move rfl) rfl (st (s_move rfl) rfl (sg1 rfl rfl (s_move rfl) rfl (stSg rfl rfl rfl rfl rfl rfl (PartsK.cons rfl (PartsK.cons rfl (PartsK.nil ?_)))))))
  refine sg1 rfl rfl (s_callk (hn1 ) rfl ⟨(pivT_num (m := [1, 3]) rfl), (numV_le [1, 3]), trivial⟩) rfl ?_
  refine st (s_pickT rfl rfl) rfl (st (s_move rfl) rfl (sg1 rfl rfl (s_move rfl) rfl (stSg rfl rfl rfl rfl rfl rfl (PartsK.cons rfl (PartsK.cons rfl (PartsK.nil ?_))))))
  refine sg1 rfl rfl (s_callk (hn2 ) rfl ⟨(pivT_num (m := [0, 1]) rfl), (numV_le [0, 1]), trivial⟩) rfl ?_
  refine st (s_pickT rfl rfl) rfl (st (s_move rfl) rfl (sg1 rfl rfl (s_move rfl) rfl (st (s_pickT rfl rfl) rfl (st (s_move rfl) rfl (sg1 rfl rfl (s_move rfl) rfl (st (s_pickT rfl rfl) rfl (st (s_assign rfl) rfl (Run.nil (pj_then ?_)))))))))
  refine J_ret ?_
  refine retc1 Tryz.results7 (.tmp rfl (VT.le_refl _))
end Tor
end
section
namespace Tor
open Go Go.RowKit Go.Proofs
def rawInT (r c : Nat) (l : List Int) : VT := aggT 3 [(0, .one, one (.int .u8 r)), (1, .one, one (.int .u8 c)), (2, .one, numT .i8 l)]
def madeF (c : Nat) (l : List Int) : Nat → Nat → Int := fun i j => dig l (i * (c % 5) + j)
theorem tmod5 (n : Nat) : (n : Int).tmod 5 = ((n % 5 : Nat) : Int) := by
  rw [Int.tmod_eq_emod_of_nonneg (by omega)]; omega
attribute [local irreducible] Tor.J Tor.PJ Tor.StepO Tor.one Tor.slT Tor.ptrT Tor.aggT Tor.tupT Tor.exT Tor.andT Tor.eP Tor.boxO Tor.sliO Tor.slV Tor.VT.le Tor.Ret Tor.anyT
attribute [local irreducible] bigT Tor.rowsO
set_option maxHeartbeats 2000000 in
theorem rMadeM_ok (r c : Nat) (l : List Int) : OkM Tryz.prog 8 [rawInT r c l] (newT (r % 5) (c % 5)) (fun s => [outO s.1.2.1 s.1.2.2 (r % 5) (c % 5) s.1.1, ownR (c % 5) s.1.1 (madeF c l)]) := by
  unfold rawInT numT
  refine OkM.enter Tryz.func8 rfl Tryz.ntmps8 rfl (fun w O => ?_)
  have h5 := tmod5 r
  have h6 := tmod5 c
  have hr : r % 5 < 5 := Nat.mod_lt _ (by decide)
  have hc : c % 5 < 5 := Nat.mod_lt _ (by decide)
  refine J_seq (J_reg ?_)
  refine a_boxS rfl rfl (ltN rfl) (fun b => ?_)
  refine a_allocS (T := 28) rfl rfl rfl (fun b => ?_)
  refine Run.nil (pj_then (J_seq (J_reg (st (s_fieldAddr rfl) rfl (st (s_loadB 1 rfl rfl rfl) rfl (st (s_rem rfl rfl (by decide) rfl) rfl ?_))))))
  (refine st (s_toI64 rfl ?_ ?_) rfl ?_; omega; omega)
  refine st (s_fieldAddr rfl) rfl (st (s_loadB 1 rfl rfl rfl) rfl (st (s_rem rfl rfl (by decide) rfl) rfl ?_))
  (refine st (s_toI64 rfl ?_ ?_) rfl ?_; omega; omega)
  refine st (s_fieldAddr rfl) rfl (st (s_loadB 1 rfl rfl rfl) rfl ?_)
  rw [h5]
  skip
  rw [h6]
  skip
  refine a_callM (rFilledM_ok (r % 5) (c % 5) l (by omega) (by omega)) rfl ⟨VT.le_refl _, VT.le_refl _, VT.le_refl _, trivial⟩ rfl rfl (fun s => ?_)
  unfold newT
  refine a_storeW 2 rfl rfl rfl rfl (Run.nil (pj_then (J_ret ?_)))
  refine retM1 s Tryz.results8 (.cellW 2 rfl rfl ?_) ?_
  · exact VT.le_refl _
  · exact .keep (Own.le_refl _) (.keep (Own.le_refl _) (SubM.nilR _))
end Tor
end
section
namespace Tor
open Go Go.RowKit Go.Proofs
theorem dig_abs (l : List Int) (n : Nat) : (dig l n).natAbs ≤ 9 := by
  unfold dig; rw [Int.natAbs_tmod]
  show (l.getD n 0).natAbs % 10 ≤ 9
  omega
theorem lz_dig (l : List Int) (n : Nat) : lz 1 (dig l n) := digs_len_le (k := 1) (by have := dig_abs l n; omega)
theorem rMade5_ok (r c : Nat) (l : List Int) : Ok Tryz.prog 8 [rawInT r c l] (matF (r % 5) (c % 5) (fun i j => dig l (i * (c % 5) + j))) := (rMadeM_ok r c l).ok fun s => newT_mat _ s
attribute [local irreducible] Tor.J Tor.PJ Tor.StepO Tor.one Tor.slT Tor.ptrT Tor.aggT Tor.tupT Tor.exT Tor.andT Tor.eP Tor.boxO Tor.sliO Tor.slV Tor.VT.le Tor.Ret Tor.anyT Tor.xO
attribute [local irreducible] bigT rowF
set_option maxHeartbeats 4000000 in
theorem rSquare_ok (r c : Nat) (l : List Int) : Ok Tryz.prog 9 [rawInT r c l] (matF (r % 5) (r % 5) (fun i j => dig l (i * (r % 5) + j))) := by
  have h := rFilled_ok (r % 5) (r % 5) l (by omega) (by omega)
  have h5 := tmod5 r
  have hr : r % 5 < 5 := Nat.mod_lt _ (by decide)
  unfold rawInT matF at *
  refine Ok.enter Tryz.func9 rfl Tryz.ntmps9 rfl (fun w O => ?_)
  refine J_seq (J_reg ?_)
  refine a_boxS rfl rfl (ltN rfl) (fun b1 => ?_)
  refine a_allocS (T := 28) rfl rfl rfl (fun b2 => ?_)
  refine Run.nil (pj_then (J_seq (J_reg (st (s_fieldAddr rfl) rfl (st (s_loadB 1 rfl rfl rfl) rfl (st (s_remN 5 rfl rfl rfl (by decide)) rfl (st (s_toI64 rfl (by omega) (by omega)) rfl (st (s_fieldAddr rfl) rfl (st (s_loadB 1 rfl rfl rfl) rfl ?_)))))))))
  refine st (s_remN 5 rfl rfl rfl (by decide)) rfl (st (s_toI64 rfl (by omega) (by omega)) rfl (st (s_fieldAddr rfl) rfl (st (s_loadB 1 rfl rfl rfl) rfl ?_)))
  refine st (s_callk (h ) rfl ⟨VT.le_refl _, VT.le_refl _, VT.le_refl _, trivial⟩) rfl ?_
  refine a_storeW 0 rfl rfl rfl rfl (Run.nil (pj_then (J_ret ?_)))
  refine retc1 Tryz.results9 (.cellW 0 rfl rfl (VT.le_refl _))
end Tor
end
section
namespace Tor
open Go Go.RowKit Go.Proofs
theorem sumF_cast (n : Nat) (f : Nat → Int) : ((sumF n f : Int) : Rat) = Lin.sm n (fun i => (f i : Rat)) := by
  induction n with
  | zero => rfl
  | succ n ih => rw [sumF_step, Lin.sm, Rat.intCast_add, ih]
theorem SolveN_ok (r c : Nat) (F : Nat → Nat → Int) (b : Nat → Int) (n : Nat) (hr : r ≤ 1024) (hc : c ≤ 1024) (he : elim0 n c) (hF : ∀ i j, lz n (F i j)) (hb : ∀ j, lz n (b j)) (h0 : firstP (elN c true (eqS r F b) r).R r (elN c true (eqS r F b) r).piv.length c = none) :
    Ok Tryz.prog 13 [matF r c F, rowF c b] (tupT [ratF r (xsN (elN c true (eqS r F b) r) r (elN c true (eqS r F b) r).piv.length), ratF 0 (fun _ => 0), one (.bool true)]) := by
  have h := Solve_ok r c F b n hr hc he hF hb
  rw [h0] at h; exact h
theorem SolveY_ok (r c : Nat) (F : Nat → Nat → Int) (b : Nat → Int) (n : Nat) (hr : r ≤ 1024) (hc : c ≤ 1024) (he : elim0 n c) (hF : ∀ i j, lz n (F i j)) (hb : ∀ j, lz n (b j)) {q : Nat} (h0 : firstP (elN c true (eqS r F b) r).R r (elN c true (eqS r F b) r).piv.length c = some q) :
    Ok Tryz.prog 13 [matF r c F, rowF c b] (tupT [ratF 0 (fun _ => 0), ratF c (fun k => Rat.divInt ((elN c true (eqS r F b) r).R q (r + 1 + k)) ((elN c true (eqS r F b) r).R q r)), one (.bool false)]) := by
  have h := Solve_ok r c F b n hr hc he hF hb
  rw [h0] at h; exact h
theorem elim04 {c : Nat} (hc : c ≤ 4) : elim0 1 c := ⟨by decide, by
  have : 2 ^ c ≤ 2 ^ 4 := Nat.pow_le_pow_right (by decide) hc
  have h16 : 2 ^ 4 = 16 := rfl
  omega⟩
attribute [local irreducible] Tor.J Tor.PJ Tor.StepO Tor.one Tor.slT Tor.ptrT Tor.aggT Tor.tupT Tor.exT Tor.andT Tor.eP Tor.boxO Tor.sliO Tor.slV Tor.VT.le Tor.Ret Tor.anyT Tor.xO
attribute [local irreducible] bigT ratT rowF ratF
end Tor
end
section
namespace Tor
open Go Go.RowKit Go.Proofs
theorem detZ_tr (n : Nat) (F : Nat → Nat → Int) : Lin.detZ n (fun i j => F j i) = Lin.detZ n F := by
  have h : ((Lin.detZ n (fun i j => F j i) : Int) : Rat) = ((Lin.detZ n F : Int) : Rat) := by
    rw [Lin.detZ_cast, Lin.detZ_cast]
    exact Lin.det_tr n Lin.two_rat (fun i j => (F i j : Rat))
  exact_mod_cast h
theorem detZ_new {n : Nat} {F : Nat → Nat → Int} : (Lin.newL n n (fun i j => F j i) n).length < n ↔ Lin.detZ n F = 0 := by
  rw [← detZ_tr, ← Lin.detE_eq]
  obtain ⟨A, V, h⟩ := Lin.elN_EL n n false (fun i j => F j i) n (Nat.le_refl _)
  unfold Lin.detE
  rw [← h.pl]
  have h0 := h.gj.d0
  constructor
  · intro hl; rw [if_pos hl]
  · intro hd
    refine Classical.byContradiction fun hl => ?_
    rw [if_neg hl] at hd
    split at hd <;> omega
end Tor
end
section
namespace Tor.Lin
open Tor
def up (i : Nat) (F : Nat → Nat → Rat) : Nat → Nat → Rat := fun a b => if a = 0 then F i b else F (skip i (a - 1)) b
theorem det_up : ∀ (i n : Nat) (F : Nat → Nat → Rat), i < n → det n (up i F) = sgn i * det n F
  | 0, n, F, h => by
    rw [show sgn 0 = 1 from rfl, Rat.one_mul]
    refine det_congr fun a b _ _ => ?_
    unfold up
    by_cases h0 : a = 0
    · rw [if_pos h0, h0]
    · rw [if_neg h0]; unfold skip; rw [if_neg (by omega), show a - 1 + 1 = a by omega]
  | i + 1, n, F, h => by
    have e : det n (up (i + 1) F) = det n (up i (fun a b => F (if a = i then i + 1 else if a = i + 1 then i else a) b)) := det_congr fun a b _ _ => by
      unfold up
      by_cases h0 : a = 0
      · rw [if_pos h0, if_pos h0]; dsimp only; rw [if_pos rfl]
      · rw [if_neg h0, if_neg h0]
        congr 1
        unfold skip
        by_cases h1 : a - 1 < i
        · rw [if_pos (by omega), if_pos h1, if_neg (by omega), if_neg (by omega)]
        · rw [if_neg h1]
          by_cases h2 : a - 1 = i
          · rw [if_pos (by omega), if_neg (by omega), if_pos (by omega)]; omega
          · rw [if_neg (by omega), if_neg (by omega), if_neg (by omega)]
    rw [e, det_up i n _ (by omega), det_rowswap (by omega), sgn_succ]
    grind
theorem lap0 {m i : Nat} (hi : i < m + 1) (F : Nat → Nat → Rat) : sm (m + 1) (fun j => sgn j * F i j * det m (fun a b => F (skip i a) (skip j b))) = sgn i * det (m + 1) F := by
  rw [← det_up i (m + 1) F hi, det]
  exact sm_congr fun j _ => rfl
theorem sgn_sq (i : Nat) : sgn i * sgn i = 1 := by unfold sgn; split <;> grind
theorem sgn_add (i j : Nat) : sgn (i + j) = sgn i * sgn j := by
  induction j with
  | zero => rw [Nat.add_zero, show sgn 0 = 1 from rfl, Rat.mul_one]
  | succ j ih => rw [← Nat.add_assoc, sgn_succ, sgn_succ, ih]; grind
theorem skip_ne (i a : Nat) : skip i a ≠ i := by unfold skip; split <;> omega
theorem lap_row {m i l : Nat} (hi : i < m + 1) (hl : l < m + 1) (F : Nat → Nat → Rat) : sm (m + 1) (fun k => F l k * (sgn (i + k) * det m (fun a b => F (skip i a) (skip k b)))) = if l = i then det (m + 1) F else 0 := by
  have h := lap0 hi (fun a b => if a = i then F l b else F a b)
  rw [sm_congr (g := fun k => sgn i * (F l k * (sgn (i + k) * det m (fun a b => F (skip i a) (skip k b))))) (fun k _ => by
    rw [if_pos rfl, det_congr (G := fun a b => F (skip i a) (skip k b)) (fun a b _ _ => by rw [if_neg (skip_ne i a)]), sgn_add]
    have := sgn_sq i
    grind), sm_mull] at h
  have hq := sgn_sq i
  have e : ∀ S D : Rat, sgn i * S = sgn i * D → S = D := fun S D h => by
    have h2 : sgn i * (sgn i * S) = sgn i * (sgn i * D) := by rw [h]
    rw [← Rat.mul_assoc, ← Rat.mul_assoc, hq, Rat.one_mul, Rat.one_mul] at h2; exact h2
  rw [e _ _ h]
  by_cases hli : l = i
  · rw [if_pos hli]
    exact det_congr fun a b _ _ => by
      by_cases ha : a = i
      · rw [if_pos ha, ha, hli]
      · rw [if_neg ha]
  · rw [if_neg hli]
    rcases Nat.lt_or_ge l i with h1 | h1
    · exact det_eqrow two_rat h1 hi (fun j _ => by rw [if_neg hli, if_pos rfl])
    · exact det_eqrow two_rat (show i < l by omega) hl (fun j _ => by rw [if_pos rfl, if_neg hli])
theorem lap_col {m i l : Nat} (hi : i < m + 1) (hl : l < m + 1) (F : Nat → Nat → Rat) : sm (m + 1) (fun k => (sgn (k + i) * det m (fun a b => F (skip k a) (skip i b))) * F k l) = if l = i then det (m + 1) F else 0 := by
  have h := lap_row hi hl (fun a b => F b a)
  rw [det_tr (m + 1) two_rat F] at h
  rw [← h]
  exact sm_congr fun k _ => by
    rw [det_tr m two_rat (fun a b => F (skip k a) (skip i b)), Nat.add_comm k i, Rat.mul_comm]
end Tor.Lin
namespace Tor
open Go Go.RowKit Go.Proofs
theorem cof_cast (m : Nat) (F : Nat → Nat → Int) (i j : Nat) : ((cof (m + 1) F i j : Int) : Rat) = Lin.sgn (i + j) * Lin.det m (fun a b => (F (Lin.skip i a) (Lin.skip j b) : Rat)) := by
  unfold cof
  rw [Rat.intCast_mul, Lin.sgnZ_cast, Lin.detZ_cast]; rfl
theorem mulF_cast (n : Nat) (F G : Nat → Nat → Int) (i j : Nat) : ((mulF n F G i j : Int) : Rat) = Lin.sm n (fun k => (F i k : Rat) * (G k j : Rat)) := by
  show ((sumF n (fun k => F i k * G k j) : Int) : Rat) = _
  rw [sumF_cast]
  exact Lin.sm_congr fun k _ => Rat.intCast_mul _ _
theorem wide_at {n : Nat} {F : Nat → Nat → Int} {i j : Nat} (h : j < n) : wideF n F i j = F i j := by unfold wideF; rw [if_pos h]
theorem wide_at' {n : Nat} {F : Nat → Nat → Int} {i j : Nat} : wideF n F i (n + j) = if i = j then 1 else 0 := by
  unfold wideF; rw [if_neg (by omega), show n + j - n = j by omega]
theorem adj_both (n : Nat) (F : Nat → Nat → Int) (i j : Nat) (hi : i < n) (hj : j < n) :
    mulF n F (adjE n F (elN n true (wideF n F) n)) i j = (if i = j then Lin.detZ n F else 0) ∧ mulF n (adjE n F (elN n true (wideF n F) n)) F i j = (if i = j then Lin.detZ n F else 0) := by
  obtain ⟨A, V, h⟩ := Lin.elN_EL n (n + n) true (wideF n F) n (by omega)
  generalize elN n true (wideF n F) n = e at *
  have hpr := h.gj.pr
  by_cases hp : e.piv.length < n
  · have hd0 : Lin.detZ n F = 0 := by
      have hp' := hp
      rw [h.pl] at hp'
      obtain ⟨c, hc, hn⟩ := Lin.newL_short hp'
      obtain ⟨y, y1, y2, y3⟩ := Classical.not_not.1 hn
      have := Lin.det_dep (F := fun i j => (F i j : Rat)) hc y1 (fun i hi => by
        have h3 := y3 i hi
        rw [Lin.sm_app, Lin.sm_all0 (n := n) (f := fun k => y (n + k) * (wideF n F i (n + k) : Rat)) (fun k _ => by rw [y2 _ (by omega), Rat.zero_mul]), Rat.add_zero] at h3
        rw [← h3]
        exact Lin.sm_congr fun k hk => by rw [wide_at hk])
      rw [← Lin.detZ_cast] at this
      exact_mod_cast this
    by_cases hp1 : e.piv.length < n - 1
    · have ha : ∀ a b, adjE n F e a b = 0 := fun a b => by unfold adjE; rw [if_pos hp1]
      have z : ∀ f : Nat → Int, (∀ k, f k = 0) → sumF n f = 0 := fun f hf => by
        have : ((sumF n f : Int) : Rat) = 0 := by rw [sumF_cast]; exact Lin.sm_all0 fun k _ => by rw [hf]; rfl
        exact_mod_cast this
      rw [hd0, ite_self]
      exact ⟨z _ fun k => by rw [ha, Int.mul_zero], z _ fun k => by rw [ha, Int.zero_mul]⟩
    · have ha : ∀ a b, adjE n F e a b = cof n F b a := fun a b => by unfold adjE; rw [if_neg hp1, if_pos hp]
      obtain ⟨m, rfl⟩ : ∃ m, n = m + 1 := ⟨n - 1, by omega⟩
      constructor
      · have : ((mulF (m + 1) F (adjE (m + 1) F e) i j : Int) : Rat) = (((if i = j then Lin.detZ (m + 1) F else 0) : Int) : Rat) := by
          rw [mulF_cast, Lin.sm_congr (g := fun k => (F i k : Rat) * (Lin.sgn (j + k) * Lin.det m (fun a b => (F (Lin.skip j a) (Lin.skip k b) : Rat)))) (fun k _ => by rw [ha, cof_cast])]
          rw [Lin.lap_row hj hi (fun a b => (F a b : Rat))]
          by_cases hij : i = j
          · rw [if_pos hij, if_pos hij, Lin.detZ_cast]
          · rw [if_neg hij, if_neg hij]; rfl
        exact_mod_cast this
      · have : ((mulF (m + 1) (adjE (m + 1) F e) F i j : Int) : Rat) = (((if i = j then Lin.detZ (m + 1) F else 0) : Int) : Rat) := by
          rw [mulF_cast, Lin.sm_congr (g := fun k => (Lin.sgn (k + i) * Lin.det m (fun a b => (F (Lin.skip k a) (Lin.skip i b) : Rat))) * (F k j : Rat)) (fun k _ => by rw [ha, cof_cast])]
          rw [Lin.lap_col hi hj (fun a b => (F a b : Rat))]
          by_cases hij : i = j
          · rw [if_pos hij, if_pos hij.symm, Lin.detZ_cast]
          · rw [if_neg hij, if_neg (fun k => hij k.symm)]; rfl
        exact_mod_cast this
  · have hl : e.piv.length = n := by omega
    have hpl := Lin.newL_full (by rw [← h.pl]; exact hp)
    have hpv : ∀ k, k < n → e.piv.getD k 0 = k := fun k hk => by rw [h.pl, hpl]; simp [List.getD, hk]
    have hdet : (e.last : Rat) = (if e.odd then -1 else 1) * (Lin.detZ n F : Rat) := by
      have hd := h.gj.dP
      rw [hl] at hd
      rw [hd, Lin.detZ_cast]
      have e1 : Lin.det n (fun a b => (A a (e.piv.getD b 0) : Rat)) = Lin.det n (fun a b => (A a b : Rat)) := Lin.det_congr fun a b _ hb => by rw [hpv b hb]
      have e2 : Lin.det n (fun a b => (wideF n F a b : Rat)) = Lin.det n (fun a b => (F a b : Rat)) := Lin.det_congr fun a b _ hb => by rw [wide_at hb]
      rw [← e2, ← h.sg, ← e1]
    have hadj : ∀ a b, a < n → b < n → ((adjE n F e a b : Int) : Rat) = (Lin.detZ n F : Rat) * V a (n + b) := fun a b ha hb => by
      have hR := h.gj.B3 a ha (n + b) (by omega) (.inl rfl)
      unfold adjE
      rw [if_neg (by omega), if_neg hp]
      cases ho : e.odd
      · rw [ho] at hdet
        simp at hdet ⊢
        rw [hR, hdet]
      · rw [ho] at hdet
        simp at hdet ⊢
        rw [hR, hdet]; grind
    have hR : ∀ k b, k < n → b < n → Lin.sm n (fun l => (F k l : Rat) * V l (n + b)) = if k = b then 1 else 0 := fun k b hk hb => by
      obtain ⟨a, ha, ea⟩ := h.p2 k hk
      have h2 := h.gj.A2 a ha (n + b) (by omega)
      rw [hl, if_pos ha, Rat.add_zero, ea, wide_at'] at h2
      have h3 : Lin.sm n (fun l => (F k l : Rat) * V l (n + b)) = Lin.sm n (fun l => (wideF n F k (Lin.pv e l) : Rat) * V l (n + b)) := Lin.sm_congr fun l hl' => by
        show _ = (wideF n F k (e.piv.getD l 0) : Rat) * _
        rw [hpv l hl', wide_at hl']
      rw [h3, ← h2]; split <;> rfl
    have hL : ∀ a c, a < n → c < n → Lin.sm n (fun l => V a (n + l) * (F l c : Rat)) = if a = c then 1 else 0 := fun a c ha hc => by
      have key : ∀ T : Nat → Rat, Lin.sm (n + n) (fun x => ((if x = c then 1 else 0) - (if n ≤ x then (F (x - n) c : Rat) else 0)) * T x) = T c - Lin.sm n (fun l => (F l c : Rat) * T (n + l)) := fun T => by
        rw [Lin.sm_congr (g := fun x => (if x = c then T x else 0) - (if n ≤ x then (F (x - n) c : Rat) else 0) * T x) (fun x _ => by split <;> grind), Lin.sm_sub, Lin.sm_ite (by omega), Lin.sm_app]
        rw [Lin.sm_all0 (f := fun x => (if n ≤ x then (F (x - n) c : Rat) else 0) * T x) (fun x hx => by rw [if_neg (by omega)]; grind)]
        rw [Lin.sm_congr (f := fun k => (if n ≤ n + k then (F (n + k - n) c : Rat) else 0) * T (n + k)) (g := fun k => (F k c : Rat) * T (n + k)) (fun k _ => by rw [if_pos (by omega), show n + k - n = k by omega])]
        grind
      have z := h.gj.V6 (fun x => (if x = c then 1 else 0) - (if n ≤ x then (F (x - n) c : Rat) else 0)) (fun i hi' => by
        obtain ⟨k, hk, ek⟩ := h.p1 i hi'
        rw [key (fun x => (A i x : Rat)), ek]
        rw [wide_at hc, Lin.sm_congr (g := fun l => if l = k then (F l c : Rat) else 0) (fun l _ => by
          rw [wide_at']
          by_cases e1 : l = k
          · rw [if_pos e1, if_pos e1.symm]; exact Rat.mul_one _
          · rw [if_neg e1, if_neg (fun h => e1 h.symm)]; exact Rat.mul_zero _), Lin.sm_ite hk]
        grind) a ha
      rw [key (fun x => V a x)] at z
      have h4 := h.gj.V4 c (by omega) a ha
      rw [show Lin.pv e c = c from hpv c hc] at h4
      rw [Lin.sm_congr (g := fun l => (F l c : Rat) * V a (n + l)) (fun l _ => Rat.mul_comm _ _), ← h4]
      grind
    constructor
    · have : ((mulF n F (adjE n F e) i j : Int) : Rat) = (((if i = j then Lin.detZ n F else 0) : Int) : Rat) := by
        rw [mulF_cast, Lin.sm_congr (g := fun k => (Lin.detZ n F : Rat) * ((F i k : Rat) * V k (n + j))) (fun k hk => by rw [hadj k j hk hj]; grind), Lin.sm_mull, hR i j hi hj]
        split
        · grind
        · rw [Rat.mul_zero]; rfl
      exact_mod_cast this
    · have : ((mulF n (adjE n F e) F i j : Int) : Rat) = (((if i = j then Lin.detZ n F else 0) : Int) : Rat) := by
        rw [mulF_cast, Lin.sm_congr (g := fun k => (Lin.detZ n F : Rat) * (V i (n + k) * (F k j : Rat))) (fun k hk => by rw [hadj i k hi hk]; grind), Lin.sm_mull, hL i j hi hj]
        split
        · grind
        · rw [Rat.mul_zero]; rfl
      exact_mod_cast this
end Tor
end
section
namespace Tor
open Go Go.RowKit Go.Proofs
theorem adj_rat {n : Nat} {F : Nat → Nat → Int} {i j : Nat} (hi : i < n) (hj : j < n) :
    Lin.sm n (fun k => (F i k : Rat) * (adjE n F (elN n true (wideF n F) n) k j : Rat)) = (if i = j then (Lin.detZ n F : Rat) else 0) ∧ Lin.sm n (fun k => (adjE n F (elN n true (wideF n F) n) i k : Rat) * (F k j : Rat)) = (if i = j then (Lin.detZ n F : Rat) else 0) := by
  obtain ⟨h1, h2⟩ := adj_both n F i j hi hj
  rw [← mulF_cast, ← mulF_cast, h1, h2]
  split
  · exact ⟨rfl, rfl⟩
  · exact ⟨rfl, rfl⟩
end Tor
end
section
namespace Tor
open Go Go.RowKit Go.Proofs
theorem adj_cof {n : Nat} {F : Nat → Nat → Int} (hd : Lin.detZ n F ≠ 0) {i j : Nat} (hi : i < n) (hj : j < n) : adjE n F (elN n true (wideF n F) n) i j = cof n F j i := by
  have hadj := fun i j (hi : i < n) (hj : j < n) => adj_rat (F := F) hi hj
  have hd' : (Lin.detZ n F : Rat) ≠ 0 := Lin.int_ne hd
  generalize adjE n F (elN n true (wideF n F) n) = G at *
  obtain ⟨m, rfl⟩ : ∃ m, n = m + 1 := ⟨n - 1, by omega⟩
  have hc : ∀ a, a < m + 1 → Lin.sm (m + 1) (fun k => (F a k : Rat) * (cof (m + 1) F j k : Rat)) = if a = j then (Lin.detZ (m + 1) F : Rat) else 0 := fun a ha => by
    rw [Lin.sm_congr (g := fun k => (F a k : Rat) * (Lin.sgn (j + k) * Lin.det m (fun x y => (F (Lin.skip j x) (Lin.skip k y) : Rat)))) (fun k _ => by rw [cof_cast])]
    rw [Lin.lap_row hj ha (fun a b => (F a b : Rat)), Lin.detZ_cast]
  have key : ∀ T : Nat → Rat, (∀ a, a < m + 1 → Lin.sm (m + 1) (fun k => (F a k : Rat) * T k) = if a = j then (Lin.detZ (m + 1) F : Rat) else 0) → (Lin.detZ (m + 1) F : Rat) * T i = Lin.sm (m + 1) (fun a => (G i a : Rat) * (if a = j then (Lin.detZ (m + 1) F : Rat) else 0)) := fun T hT => by
    rw [Lin.sm_congr (g := fun a => Lin.sm (m + 1) (fun k => (G i a : Rat) * ((F a k : Rat) * T k))) (fun a ha => by rw [← hT a ha]; exact (Lin.sm_mull _ _ _).symm), Lin.sm_swap]
    rw [Lin.sm_congr (g := fun k => if k = i then (Lin.detZ (m + 1) F : Rat) * T k else 0) (fun k hk => by
      rw [Lin.sm_congr (g := fun a => ((G i a : Rat) * (F a k : Rat)) * T k) (fun a _ => by grind), Lin.sm_mulr, (hadj i k hi hk).2]
      by_cases e1 : k = i
      · rw [if_pos e1, if_pos e1.symm]
      · rw [if_neg e1, if_neg (fun h => e1 h.symm)]; exact Rat.zero_mul _), Lin.sm_ite hi]
  have h1 := key (fun k => (G k j : Rat)) (fun a ha => (hadj a j ha hj).1)
  have h2 := key (fun k => (cof (m + 1) F j k : Rat)) hc
  have h3 : ((G i j : Int) : Rat) = ((cof (m + 1) F j i : Int) : Rat) := by
    have h4 : (Lin.detZ (m + 1) F : Rat) * ((G i j : Rat) - (cof (m + 1) F j i : Rat)) = 0 := by
      have : (Lin.detZ (m + 1) F : Rat) * (G i j : Rat) = (Lin.detZ (m + 1) F : Rat) * (cof (m + 1) F j i : Rat) := h1.trans h2.symm
      grind
    rcases Rat.mul_eq_zero.1 h4 with h | h
    · exact absurd h hd'
    · grind
  exact_mod_cast h3
end Tor
end
section
namespace Tor
open Go Go.RowKit Go.Proofs
theorem cof_low {n : Nat} {F : Nat → Nat → Int} (h : (Lin.newL n n F n).length < n - 1) {i j : Nat} (hi : i < n) (hj : j < n) : cof n F i j = 0 := by
  obtain ⟨V, hV⟩ := Lin.span_cols n n F
  obtain ⟨m, rfl⟩ : ∃ m, n = m + 1 := ⟨n - 1, by omega⟩
  generalize Lin.newL (m + 1) (m + 1) F (m + 1) = l at *
  have hd : Lin.det m (fun a b => (F (Lin.skip i a) (Lin.skip j b) : Rat)) = 0 := by
    have e : Lin.det m (fun a b => (F (Lin.skip i a) (Lin.skip j b) : Rat)) = Lin.det m (fun a b => Lin.sm m (fun k => (if k < l.length then (F (Lin.skip i a) (l.getD k 0) : Rat) else 0) * V k (Lin.skip j b))) := Lin.det_congr fun a b ha hb => by
      rw [hV _ (by unfold Lin.skip; split <;> omega) _ (by unfold Lin.skip; split <;> omega)]
      rw [Lin.sm_trunc (n := m) (m := l.length) (by omega) (fun k h1 _ => by rw [if_neg (by omega)]; exact Rat.zero_mul _)]
      exact Lin.sm_congr fun k hk => by rw [if_pos hk]
    refine e.trans ((Lin.det_mul m (fun a k => if k < l.length then (F (Lin.skip i a) (l.getD k 0) : Rat) else 0) (fun k b => V k (Lin.skip j b))).trans ?_)
    rw [Lin.det_dep (n := m) (c := l.length) (y := fun q => if q = l.length then 1 else 0) (by omega) (by rw [if_pos rfl]) (fun a ha => Lin.sm_all0 fun q hq => by
      by_cases hq' : q < l.length
      · rw [if_neg (by omega)]; exact Rat.zero_mul _
      · rw [if_neg hq']; exact Rat.mul_zero _)]
    exact Rat.zero_mul _
  have hc := cof_cast m F i j
  rw [hd, Rat.mul_zero] at hc
  exact_mod_cast hc
theorem adj_all {n : Nat} {F : Nat → Nat → Int} {i j : Nat} (hi : i < n) (hj : j < n) : adjE n F (elN n true (wideF n F) n) i j = cof n F j i := by
  by_cases hd : Lin.detZ n F = 0
  · obtain ⟨A, V, hE⟩ := Lin.elN_EL n (n + n) true (wideF n F) n (by omega)
    have e1 : (elN n true (wideF n F) n).piv = Lin.newL n n F n := hE.pl.trans (Lin.newL_congr (by omega) (Nat.le_refl _) fun a b _ hb => wide_at hb)
    have e2 : (Lin.newL n n F n).length < n := (detZ_new (F := fun i j => F j i)).2 (by rw [detZ_tr]; exact hd)
    unfold adjE
    rw [e1]
    by_cases hs : (Lin.newL n n F n).length < n - 1
    · rw [if_pos hs, cof_low hs hj hi]
    · rw [if_neg hs, if_pos e2]
  · exact adj_cof hd hi hj
def basQ (n : Nat) (L : Nat → Nat → Rat) : Nat → List (Nat → Rat)
  | 0 => []
  | j + 1 => if firstQ (redN (basF (basQ n L j)) n (L j) (basQ n L j).length) n < n then basQ n L j ++ [redN (basF (basQ n L j)) n (L j) (basQ n L j).length] else basQ n L j
def consQ (n : Nat) (L : Nat → Nat → Rat) (j : Nat) : Prop := firstQ (redN (basF (basQ n L j)) n (L j) (basQ n L j).length) n < n ∨ redN (basF (basQ n L j)) n (L j) (basQ n L j).length n = 0
structure BasI (n : Nat) (L : Nat → Nat → Rat) (j : Nat) (B : List (Nat → Rat)) : Prop where
  le : B.length ≤ j
  ech : Ech (basF B) n B.length
  cb : ∀ t, t < B.length → ∃ z : Nat → Rat, ∀ p, basF B t p = Lin.sm j (fun q => z q * L q p)
  sp : (∀ q, q < j → consQ n L q) → ∀ q, q < j → ∃ y : Nat → Rat, ∀ p, p ≤ n → L q p = Lin.sm B.length (fun t => y t * basF B t p)
theorem red_comb {n j : Nat} {L : Nat → Nat → Rat} {B : List (Nat → Rat)} (h : ∀ t, t < B.length → ∃ z : Nat → Rat, ∀ p, basF B t p = Lin.sm j (fun q => z q * L q p)) : ∃ z : Nat → Rat, z j = 1 ∧ ∀ p, redN (basF B) n (L j) B.length p = Lin.sm (j + 1) (fun q => z q * L q p) := by
  obtain ⟨Z, hZ⟩ := choose_below h
  obtain ⟨co, hco⟩ : ∃ co : Nat → Rat, ∀ p, redN (basF B) n (L j) B.length p = L j p - Lin.sm B.length (fun t => co t * basF B t p) := ⟨_, fun p => red_span (basF B) n (L j) B.length p⟩
  refine ⟨fun q => if q = j then 1 else - Lin.sm B.length (fun t => co t * Z t q), if_pos rfl, fun p => ?_⟩
  rw [hco p, Lin.sm]; dsimp only; rw [if_pos rfl]
  have e : Lin.sm B.length (fun t => co t * basF B t p) = - Lin.sm j (fun q => (if q = j then 1 else - Lin.sm B.length (fun t => co t * Z t q)) * L q p) := by
    rw [Lin.sm_congr (n := j) (g := fun q => (-1 : Rat) * Lin.sm B.length (fun t => co t * (Z t q * L q p)) + 0 * (0 : Rat)) (fun q hq => by
      rw [if_neg (by omega)]
      have : Lin.sm B.length (fun t => co t * (Z t q * L q p)) = Lin.sm B.length (fun t => co t * Z t q) * L q p := by
        rw [← Lin.sm_mulr]; exact Lin.sm_congr fun t _ => by grind
      rw [this]; grind), Lin.sm_lin, Lin.sm_zero, Lin.sm_swap]
    rw [Lin.sm_congr (f := fun t => Lin.sm j (fun q => co t * (Z t q * L q p))) (g := fun t => co t * basF B t p) (fun t ht => by
      rw [hZ t ht p, Rat.mul_comm, ← Lin.sm_mulr]; exact Lin.sm_congr fun q _ => by grind)]
    grind
  rw [e]; grind
theorem basQ_I (n : Nat) (L : Nat → Nat → Rat) : ∀ j, BasI n L j (basQ n L j)
  | 0 => ⟨Nat.le_refl _, ⟨fun i h => absurd h (Nat.not_lt_zero _), fun i j _ h => absurd h (Nat.not_lt_zero _)⟩, fun t h => absurd h (Nat.not_lt_zero _), fun _ q h => absurd h (Nat.not_lt_zero _)⟩
  | j + 1 => by
    have ih := basQ_I n L j
    have hz := red_zero ih.ech (L j) _ (Nat.le_refl _)
    obtain ⟨z, z1, hcR⟩ := red_comb (n := n) ih.cb
    obtain ⟨co, hsp⟩ : ∃ co : Nat → Rat, ∀ p, redN (basF (basQ n L j)) n (L j) (basQ n L j).length p = L j p - Lin.sm (basQ n L j).length (fun t => co t * basF (basQ n L j) t p) := ⟨_, fun p => red_span (basF (basQ n L j)) n (L j) (basQ n L j).length p⟩
    have hcons : consQ n L j ↔ (firstQ (redN (basF (basQ n L j)) n (L j) (basQ n L j).length) n < n ∨ redN (basF (basQ n L j)) n (L j) (basQ n L j).length n = 0) := Iff.rfl
    show BasI n L (j + 1) (if _ then _ else basQ n L j)
    have ext : ∀ t, t < (basQ n L j).length → ∃ z : Nat → Rat, ∀ p, basF (basQ n L j) t p = Lin.sm (j + 1) (fun q => z q * L q p) := fun t ht => by
      obtain ⟨z, hz⟩ := ih.cb t ht
      refine ⟨fun q => if q < j then z q else 0, fun p => ?_⟩
      rw [Lin.sm]; dsimp only; rw [if_neg (Nat.lt_irrefl _), hz p, Lin.sm_congr (g := fun q => (if q < j then z q else 0) * L q p) (fun q hq => by rw [if_pos hq])]
      grind
    generalize redN (basF (basQ n L j)) n (L j) (basQ n L j).length = R at *
    generalize basQ n L j = B at *
    by_cases hf : firstQ R n < n
    · rw [if_pos hf]
      have hl : (B ++ [R]).length = B.length + 1 := by simp
      refine ⟨by rw [hl]; have := ih.le; omega, ech_snoc ih.ech hf hz, fun t ht => ?_, fun hc q hq => ?_⟩
      · by_cases e : t < B.length
        · rw [bas_app e]; exact ext t e
        · rw [show t = B.length by omega, bas_last]; exact ⟨z, hcR⟩
      · by_cases e : q = j
        · subst e
          refine ⟨fun t => if t < B.length then co t else 1, fun p hp => ?_⟩
          rw [sm_snocB (y := fun t => if t < B.length then co t else 1), if_neg (Nat.lt_irrefl _), hsp p, Lin.sm_congr (f := fun t => (if t < B.length then co t else 1) * basF B t p) (g := fun t => co t * basF B t p) (fun t ht => by rw [if_pos ht])]
          grind
        · obtain ⟨y, hy⟩ := ih.sp (fun q hq => hc q (by omega)) q (by omega)
          refine ⟨fun t => if t < B.length then y t else 0, fun p hp => ?_⟩
          rw [sm_snocB (y := fun t => if t < B.length then y t else 0), if_neg (Nat.lt_irrefl _), hy p hp, Lin.sm_congr (f := fun t => (if t < B.length then y t else 0) * basF B t p) (g := fun t => y t * basF B t p) (fun t ht => by rw [if_pos ht])]
          grind
    · rw [if_neg hf]
      refine ⟨by have := ih.le; omega, ih.ech, ext, fun hc q hq => ?_⟩
      by_cases e : q = j
      · subst e
        refine ⟨co, fun p hp => ?_⟩
        have h0 : R p = 0 := by
          by_cases hp' : p < n
          · rcases firstQ_cases R n with ⟨_, h⟩ | ⟨h, _⟩
            · exact h p hp'
            · exact absurd h hf
          · rw [show p = n by omega]
            exact (hcons.1 (hc q (by omega))).resolve_left hf
        have := hsp p
        grind
      · exact ih.sp (fun q hq => hc q (by omega)) q (by omega)
def sumQ (b : Nat → Rat) (n : Nat) (x : Nat → Rat) (rows : List Nat) (f : Nat) : Nat → Rat
  | 0 => b n
  | j + 1 => if j = f then sumQ b n x rows f j else sumQ b n x rows f j - b j * x (rows.getD j 0)
theorem sumQ_eq (b : Nat → Rat) (n : Nat) (x : Nat → Rat) (rows : List Nat) (f : Nat) : ∀ j, sumQ b n x rows f j = b n - Lin.sm j (fun p => if p = f then 0 else b p * x (rows.getD p 0))
  | 0 => by show b n = b n - 0; grind
  | j + 1 => by
    show (if j = f then sumQ b n x rows f j else sumQ b n x rows f j - b j * x (rows.getD j 0)) = b n - (Lin.sm j _ + _)
    rw [sumQ_eq b n x rows f j]
    split <;> grind
def xQ (n : Nat) (B : Nat → Nat → Rat) (rows : List Nat) (k : Nat) : Nat → Nat → Rat
  | 0 => fun _ => 0
  | d + 1 => fun i => if i = rows.getD (firstQ (B (k - 1 - d)) n) 0 then sumQ (B (k - 1 - d)) n (xQ n B rows k d) rows (firstQ (B (k - 1 - d)) n) n / B (k - 1 - d) (firstQ (B (k - 1 - d)) n) else xQ n B rows k d i
theorem xQ_out {n : Nat} {B : Nat → Nat → Rat} {rows : List Nat} {k : Nat} (hr : rows.length = n) (hB : ∀ t, t < k → firstQ (B t) n < n) {i : Nat} (hi : i ∉ rows) : ∀ d, d ≤ k → xQ n B rows k d i = 0
  | 0, _ => rfl
  | d + 1, hd => by
    show (if i = rows.getD (firstQ (B (k - 1 - d)) n) 0 then _ else xQ n B rows k d i) = 0
    have h1 := hB (k - 1 - d) (by omega)
    rw [if_neg (fun e => hi (by rw [e]; simp [List.getD, hr, h1]))]
    exact xQ_out hr hB hi d (by omega)
theorem xQ_solves {n : Nat} {B : Nat → Nat → Rat} {rows : List Nat} {k : Nat} (hr : rows.length = n) (hs : rows.Pairwise (· < ·)) (hB : Ech B n k) : ∀ d, d ≤ k → ∀ t, t < k → k ≤ t + d → Lin.sm n (fun p => B t p * xQ n B rows k d (rows.getD p 0)) = B t n
  | 0, _, t, h1, h2 => absurd h2 (by omega)
  | d + 1, hd, t, h1, h2 => by
    have hf := hB.1 (k - 1 - d) (by omega)
    have hne := (firstQ_lt hf).1
    have val : ∀ p, p < n → xQ n B rows k (d + 1) (rows.getD p 0) = if p = firstQ (B (k - 1 - d)) n then sumQ (B (k - 1 - d)) n (xQ n B rows k d) rows (firstQ (B (k - 1 - d)) n) n / B (k - 1 - d) (firstQ (B (k - 1 - d)) n) else xQ n B rows k d (rows.getD p 0) := fun p hp => by
      show (if rows.getD p 0 = rows.getD (firstQ (B (k - 1 - d)) n) 0 then _ else _) = _
      by_cases e : p = firstQ (B (k - 1 - d)) n
      · rw [if_pos e, if_pos (by rw [← e])]
      · rw [if_neg e, if_neg (fun h => e (Lin.sorted_ne hs (by omega) (by omega) h))]
    rw [Lin.sm_congr (fun p hp => by rw [val p hp])]
    by_cases e : t = k - 1 - d
    · subst e
      rw [sumQ_eq]
      generalize firstQ (B (k - 1 - d)) n = f at *
      generalize B (k - 1 - d) = b at *
      generalize xQ n B rows k d = x at *
      rw [Lin.sm_congr (g := fun p => (if p = f then b f * ((b n - Lin.sm n (fun p => if p = f then 0 else b p * x (rows.getD p 0))) / b f) else 0) + (if p = f then 0 else b p * x (rows.getD p 0))) (fun p hp => by
        by_cases e : p = f
        · rw [if_pos e, if_pos e, if_pos e, e]; grind
        · rw [if_neg e, if_neg e, if_neg e]; grind)]
      have hadd : ∀ (m : Nat) (f g : Nat → Rat), Lin.sm m (fun i => f i + g i) = Lin.sm m f + Lin.sm m g := fun m f g => by
        have := Lin.sm_lin 1 1 m f g
        rw [Rat.one_mul, Rat.one_mul] at this
        rw [← this]; exact Lin.sm_congr fun i _ => by rw [Rat.one_mul, Rat.one_mul]
      rw [hadd, Lin.sm_ite hf (fun p => b f * ((b n - Lin.sm n (fun p => if p = f then 0 else b p * x (rows.getD p 0))) / b f))]
      generalize Lin.sm n (fun p => if p = f then 0 else b p * x (rows.getD p 0)) = S at *
      grind
    · have ih := xQ_solves hr hs hB d (by omega) t h1 (by omega)
      rw [← ih]
      refine Lin.sm_congr fun p hp => ?_
      by_cases e2 : p = firstQ (B (k - 1 - d)) n
      · rw [if_pos e2, e2, hB.2 (k - 1 - d) t (by omega) h1, Rat.zero_mul, Rat.zero_mul]
      · rw [if_neg e2]
theorem sm_rows {r : Nat} {rows : List Nat} {x g : Nat → Rat} (hs : rows.Pairwise (· < ·)) (hr : ∀ i ∈ rows, i < r) (h0 : ∀ i, i ∉ rows → x i = 0) : Lin.sm r (fun i => x i * g i) = Lin.sm rows.length (fun p => x (rows.getD p 0) * g (rows.getD p 0)) := by
  have e : ∀ i, x i * g i = Lin.sm rows.length (fun p => if i = rows.getD p 0 then x i * g i else 0) := fun i => by
    by_cases hi : i ∈ rows
    · obtain ⟨p, hp, e⟩ := List.mem_iff_getElem.1 hi
      have e' : rows.getD p 0 = i := by simp [List.getD, hp, e]
      rw [Lin.sm_one hp (fun q hq hne => by rw [if_neg]; exact fun h => hne (Lin.sorted_ne hs hq hp (by rw [← h, e']))), if_pos e'.symm]
    · rw [h0 i hi, Rat.zero_mul, Lin.sm_all0 fun p _ => by split <;> rfl]
  rw [Lin.sm_congr (fun i _ => e i), Lin.sm_swap]
  exact Lin.sm_congr fun p hp => Lin.sm_ite (hr _ (by simp [List.getD, hp])) (fun i => x i * g i)
def linQ (n c : Nat) (F : Nat → Nat → Int) (b : Nat → Int) (rows : List Nat) (j : Nat) : Nat → Rat := fun p => if p < n then (F (rows.getD p 0) j : Rat) else if p = n then (b j : Rat) else if p = n + 1 + j then 1 else 0
section
variable {r c : Nat} {F : Nat → Nat → Int} {b : Nat → Int} {rows : List Nat}
theorem xQ_all (hs : rows.Pairwise (· < ·)) (hr : ∀ i ∈ rows, i < r) (hc : ∀ j, j < c → consQ rows.length (linQ rows.length c F b rows) j) {j : Nat} (hj : j < c) :
    Lin.sm r (fun i => xQ rows.length (basF (basQ rows.length (linQ rows.length c F b rows) c)) rows (basQ rows.length (linQ rows.length c F b rows) c).length (basQ rows.length (linQ rows.length c F b rows) c).length i * (F i j : Rat)) = (b j : Rat) := by
  have hI := basQ_I rows.length (linQ rows.length c F b rows) c
  generalize basQ rows.length (linQ rows.length c F b rows) c = B at *
  rw [sm_rows hs hr (fun i hi => xQ_out rfl hI.ech.1 hi _ (Nat.le_refl _))]
  have hS := fun t ht => xQ_solves rfl hs hI.ech B.length (Nat.le_refl _) t ht (Nat.le_add_left _ _)
  generalize xQ rows.length (basF B) rows B.length B.length = x at *
  obtain ⟨y, hy⟩ := hI.sp hc j hj
  have h1 : (b j : Rat) = linQ rows.length c F b rows j rows.length := by unfold linQ; rw [if_neg (Nat.lt_irrefl _), if_pos rfl]
  rw [h1, hy _ (Nat.le_refl _), Lin.sm_congr (g := fun p => Lin.sm B.length (fun t => y t * (basF B t p * x (rows.getD p 0)))) (fun p hp => by
    have h2 : (F (rows.getD p 0) j : Rat) = linQ rows.length c F b rows j p := by unfold linQ; rw [if_pos hp]
    rw [h2, hy p (by omega), Rat.mul_comm, ← Lin.sm_mulr]
    exact Lin.sm_congr fun t _ => by grind), Lin.sm_swap]
  refine Lin.sm_congr fun t ht => ?_
  rw [← hS t ht, Lin.sm_congr (g := fun p => (basF B t p * x (rows.getD p 0)) * y t) (fun p _ => by grind), Lin.sm_mulr]
  grind
theorem cons_of {x : Nat → Rat} (hx : ∀ j, j < c → Lin.sm rows.length (fun p => x p * (F (rows.getD p 0) j : Rat)) = (b j : Rat)) {j : Nat} (hj : j < c) : consQ rows.length (linQ rows.length c F b rows) j := by
  have hI := basQ_I rows.length (linQ rows.length c F b rows) j
  unfold consQ
  by_cases hf : firstQ (redN (basF (basQ rows.length (linQ rows.length c F b rows) j)) rows.length (linQ rows.length c F b rows j) (basQ rows.length (linQ rows.length c F b rows) j).length) rows.length < rows.length
  · exact .inl hf
  · refine .inr ?_
    obtain ⟨z, z1, hcR⟩ := red_comb (n := rows.length) hI.cb
    have h0 : ∀ p, p < rows.length → Lin.sm (j + 1) (fun q => z q * linQ rows.length c F b rows q p) = 0 := fun p hp => by
      rw [← hcR p]
      rcases firstQ_cases (redN (basF (basQ rows.length (linQ rows.length c F b rows) j)) rows.length (linQ rows.length c F b rows j) (basQ rows.length (linQ rows.length c F b rows) j).length) rows.length with ⟨_, h⟩ | ⟨h, _⟩
      · exact h p hp
      · exact absurd h hf
    rw [hcR]
    have e : ∀ q, q < j + 1 → z q * linQ rows.length c F b rows q rows.length = Lin.sm rows.length (fun p => x p * (z q * linQ rows.length c F b rows q p)) := fun q hq => by
      have h1 : linQ rows.length c F b rows q rows.length = (b q : Rat) := by unfold linQ; rw [if_neg (Nat.lt_irrefl _), if_pos rfl]
      rw [h1, ← hx q (by omega), Rat.mul_comm, ← Lin.sm_mulr]
      exact Lin.sm_congr fun p hp => by
        have h2 : linQ rows.length c F b rows q p = (F (rows.getD p 0) q : Rat) := by unfold linQ; rw [if_pos hp]
        rw [h2]; grind
    rw [Lin.sm_congr e, Lin.sm_swap]
    refine Lin.sm_all0 fun p hp => ?_
    rw [Lin.sm_congr (g := fun q => (z q * linQ rows.length c F b rows q p) * x p) (fun q _ => by grind), Lin.sm_mulr, h0 p hp, Rat.zero_mul]
end
end Tor
end
