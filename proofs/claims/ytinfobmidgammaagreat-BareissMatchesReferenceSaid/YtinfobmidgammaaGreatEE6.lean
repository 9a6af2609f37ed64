/-
  Theorems that the proofs of laws of this seat rest on.
  No condition.
-/
import Derived.Test.YtinfobmidgammaaGreatEE5
set_option linter.unusedVariables false
set_option linter.unusedSimpArgs false
section
namespace Tor
open Go Go.RowKit Go.Proofs
theorem dm_neg0 {A B : Nat} (hB : 0 < B) (h : A % B = 0) : (-(A : Int)) / B = -((A / B : Nat) : Int) ∧ (-(A : Int)) % B = 0 := by
  have hm := Nat.div_add_mod A B
  refine (Int.ediv_emod_unique (by omega)).2 ⟨?_, by omega, by omega⟩
  have e : ((B * (A / B) + A % B : Nat) : Int) = (A : Int) := by rw [hm]
  rw [h] at e
  rw [Int.natCast_add, Int.natCast_mul] at e
  rw [Int.mul_neg]; omega
theorem dm_neg1 {A B : Nat} (hB : 0 < B) (h : A % B ≠ 0) : (-(A : Int)) / B = -((A / B + 1 : Nat) : Int) ∧ (-(A : Int)) % B = ((B - A % B : Nat) : Int) := by
  have hm := Nat.div_add_mod A B
  have hl := Nat.mod_lt A hB
  refine (Int.ediv_emod_unique (by omega)).2 ⟨?_, by omega, by omega⟩
  have e : ((B * (A / B) + A % B : Nat) : Int) = (A : Int) := by rw [hm]
  rw [Int.natCast_add, Int.natCast_mul] at e
  rw [Int.mul_neg, Int.natCast_add, Int.mul_add]
  omega
theorem dm_spec {a b : Int} (hb : b ≠ 0) : (0 ≤ a → a / b = (if b < 0 then -((a.natAbs / b.natAbs : Nat) : Int) else ((a.natAbs / b.natAbs : Nat) : Int)) ∧ a % b = ((a.natAbs % b.natAbs : Nat) : Int)) ∧
    (a < 0 → a.natAbs % b.natAbs = 0 → a / b = (if b < 0 then ((a.natAbs / b.natAbs : Nat) : Int) else -((a.natAbs / b.natAbs : Nat) : Int)) ∧ a % b = 0) ∧
    (a < 0 → a.natAbs % b.natAbs ≠ 0 → a / b = (if b < 0 then ((a.natAbs / b.natAbs + 1 : Nat) : Int) else -((a.natAbs / b.natAbs + 1 : Nat) : Int)) ∧ a % b = ((b.natAbs - a.natAbs % b.natAbs : Nat) : Int)) := by
  have hB : 0 < b.natAbs := by omega
  generalize hA : a.natAbs = A
  generalize hBb : b.natAbs = B at *
  have key : (0 ≤ a → a / (B : Int) = ((A / B : Nat) : Int) ∧ a % (B : Int) = ((A % B : Nat) : Int)) ∧
      (a < 0 → A % B = 0 → a / (B : Int) = -((A / B : Nat) : Int) ∧ a % (B : Int) = 0) ∧
      (a < 0 → A % B ≠ 0 → a / (B : Int) = -((A / B + 1 : Nat) : Int) ∧ a % (B : Int) = ((B - A % B : Nat) : Int)) := by
    refine ⟨fun h => ?_, fun h h0 => ?_, fun h h0 => ?_⟩
    · have : a = (A : Int) := by omega
      rw [this]; exact ⟨(Int.natCast_ediv A B).symm, (Int.natCast_emod A B).symm⟩
    · have : a = -(A : Int) := by omega
      rw [this]; exact dm_neg0 hB h0
    · have : a = -(A : Int) := by omega
      rw [this]; exact dm_neg1 hB h0
  by_cases hn : b < 0
  · have e : b = -(B : Int) := by omega
    simp only [if_pos hn]
    rw [e, Int.ediv_neg, Int.emod_neg]
    refine ⟨fun h => ?_, fun h h0 => ?_, fun h h0 => ?_⟩
    · obtain ⟨k1, k2⟩ := key.1 h; exact ⟨by rw [k1], k2⟩
    · obtain ⟨k1, k2⟩ := key.2.1 h h0; exact ⟨by rw [k1, Int.neg_neg], k2⟩
    · obtain ⟨k1, k2⟩ := key.2.2 h h0; exact ⟨by rw [k1, Int.neg_neg], k2⟩
  · have e : b = (B : Int) := by omega
    simp only [if_neg hn]
    rw [e]; exact key
theorem digs_nil {v : Nat} (h : (digs v).length = 0) : v = 0 := by
  rw [← lv_digs v, List.length_eq_zero_iff.1 h]; rfl
theorem digs_one : digs 1 = [1] := by rw [digs_pos (by decide)]; rfl
theorem one_digs : VT.le (slT .one 1 fun _ => one (.int .u32 1)) (limT (digs 1)) := by
  rw [digs_one]
  exact slT_le' rfl (fun q hq => by
    have hq : q = 0 := by omega
    subst hq; rfl)
theorem neg_ifT (p : Prop) [Decidable p] (x : Int) : (if (!(true == decide p)) = true then -x else x) = (if p then x else -x) := by by_cases h : p <;> simp [h]
theorem neg_ifF (p : Prop) [Decidable p] (x : Int) : (if (!(false == decide p)) = true then -x else x) = (if p then -x else x) := by by_cases h : p <;> simp [h]
attribute [local irreducible] Tor.J Tor.PJ Tor.StepO Tor.one Tor.slT Tor.ptrT Tor.aggT Tor.tupT Tor.exT Tor.andT Tor.eP Tor.boxO Tor.sliO Tor.slV Tor.VT.le Tor.Ret Tor.anyT
set_option maxHeartbeats 4000000 in
set_option maxRecDepth 20000 in
theorem DivMod_ok (a b : Int) (hb : b ≠ 0) (ha : small a) (hbs : small b) : Ok Tryz.prog 106 [bigT a, bigT b] (tupT [bigT (a / b), bigT (a % b), one (.int .i64 0)]) := by
  obtain ⟨g1, g2, g3⟩ := dm_spec (a := a) hb
  have hb0 : (digs b.natAbs).length ≠ 0 := fun h => hb (by have := digs_nil h; omega)
  have hB : b.natAbs ≠ 0 := by omega
  have hdiv := divide_ok a.natAbs b.natAbs hB ha
  have ha' : (digs a.natAbs).length ≤ 1099511627776 := ha
  have hb' : (digs b.natAbs).length ≤ 1099511627776 := hbs
  have hlt := Nat.mod_lt a.natAbs (Nat.pos_of_ne_zero hB)
  have hr0 : (digs (a.natAbs % b.natAbs)).length = 0 ↔ a.natAbs % b.natAbs = 0 := ⟨digs_nil, fun h => by rw [h]; rfl⟩
  have hql : (digs (a.natAbs / b.natAbs)).length ≤ 1099511627776 := Nat.le_trans (digs_len_le' (Nat.div_le_self _ _)) ha'
  have hmin := minus_ok b.natAbs (a.natAbs % b.natAbs) (Nat.le_of_lt hlt) hb'
  have hplus := plus_ok (a.natAbs / b.natAbs) 1 hql (by rw [digs_one]; decide)
  have hv1 := fun n => value_ok n (a.natAbs / b.natAbs)
  have hv2 := fun n => value_ok n (a.natAbs % b.natAbs)
  have hv3 := fun n => value_ok n (a.natAbs / b.natAbs + 1)
  have hv4 := fun n => value_ok n (b.natAbs - a.natAbs % b.natAbs)
  unfold bigT at *
  refine Ok.enter Tryz.func106 rfl Tryz.ntmps106 rfl (fun w O => ?_)
  by_cases hn : a < 0
  · by_cases hr : a.natAbs % b.natAbs = 0
    · have hr1 := hr0.2 hr
      refine J_seq (J_reg ?_)
      refine a_boxS rfl rfl (ltN rfl) (fun b2 => ?_)
      refine a_boxS rfl rfl (ltN rfl) (fun b3 => ?_)
      refine a_alloc (T := 43) rfl (ltN rfl) (fun b4 => ?_)
      refine a_alloc (T := 43) rfl (ltN rfl) (fun b5 => ?_)
      refine st (s_assign rfl) rfl (Run.nil (pj_then (J_seq (J_regd 7 mixed (by kernel_rfl) (by decide) (st (s_fieldAddr rfl) rfl (st (s_loadB 3 rfl rfl rfl) rfl ?_))))))
      refine st (s_callk (trim_ok _) rfl ⟨(natT_digs _), trivial⟩) rfl ?_
      refine st (s_fieldAddr rfl) rfl (st (s_loadB 2 rfl rfl rfl) rfl ?_)
      refine st (s_callk (trim_ok _) rfl ⟨(natT_digs _), trivial⟩) rfl ?_
      refine st (s_assign rfl) rfl (Run.nil (st (s_assign rfl) rfl (Run.nil (pj_then (J_seq (J_seq (J_reg (st (s_move rfl) rfl (st (s_len rfl) rfl ?_)))))))))
      refine st (sF (by omega) (s_eq rfl rfl)) rfl (Run.nil (pj_then (J_cond0 rfl (J_skip (pj_then (J_seq (J_reg (st (s_move rfl) rfl (st (s_move rfl) rfl ?_)))))))))
      refine st (s_callk (hdiv ) rfl ⟨VT.le_refl _, VT.le_refl _, trivial⟩) rfl ?_
      refine st (s_move rfl) rfl (st (s_extract rfl rfl) rfl (st (s_extract rfl rfl) rfl (st (s_assign rfl) rfl (st (s_assign rfl) rfl (Run.nil (pj_then (J_seq (J_reg (st (s_move rfl) rfl ?_)))))))))
      refine st (s_callk (trim_ok _) rfl ⟨VT.le_refl _, trivial⟩) rfl ?_
      refine st (s_assign rfl) rfl (Run.nil (pj_then (J_seq (J_seq (J_reg (st (s_fieldAddr rfl) rfl (st (sT (by assumption) (s_loadB 3 rfl rfl rfl)) rfl (st (s_move rfl) rfl (sg1 rfl rfl (s_move rfl) rfl ?_)))))))))
      refine sg1 rfl rfl (s_len rfl) rfl (sg1 rfl rfl (sF (by omega) (s_gt rfl rfl)) rfl (st (s_pickT rfl rfl) rfl (Run.nil (pj_then (J_cond0 rfl (J_skip (pj_then (J_seq (J_reg ?_)))))))))
      refine st (s_fieldAddr rfl) rfl (st (sT (by assumption) (s_loadB 3 rfl rfl rfl)) rfl (st (s_fieldAddr rfl) rfl (st (s_loadB 2 rfl rfl rfl) rfl (st (s_neB rfl rfl) rfl (st (s_move rfl) rfl ?_)))))
      refine st (s_callk (hv1 _) rfl ⟨VT.le_refl _, VT.le_refl _, trivial⟩) rfl ?_
      refine st (s_move rfl) rfl ?_
      refine st (s_callk (hv2 _) rfl ⟨VT.le_refl _, (natT_digs _), trivial⟩) rfl ?_
      refine a_storeB 1 rfl rfl rfl rfl rfl (leN rfl) rfl (a_storeB 0 rfl rfl rfl rfl rfl (leN rfl) rfl (st (s_assign rfl) rfl (Run.nil (pj_then (J_ret ?_)))))
      refine retc3 Tryz.results106 (.cellB 1 rfl rfl rfl (bigT_eq (by rw [(g2 hn hr).1]; exact neg_ifT _ _))) (.cellB 0 rfl rfl rfl (bigT_eq (by rw [(g2 hn hr).2, hr]; rfl))) (.tmp rfl (VT.le_refl _))
    · have hr1 : (digs (a.natAbs % b.natAbs)).length ≠ 0 := fun h => hr (hr0.1 h)
      refine J_seq (J_reg ?_)
      refine a_boxS rfl rfl (ltN rfl) (fun b2 => ?_)
      refine a_boxS rfl rfl (ltN rfl) (fun b3 => ?_)
      refine a_alloc (T := 43) rfl (ltN rfl) (fun b4 => ?_)
      refine a_alloc (T := 43) rfl (ltN rfl) (fun b5 => ?_)
      refine st (s_assign rfl) rfl (Run.nil (pj_then (J_seq (J_regd 7 mixed (by kernel_rfl) (by decide) (st (s_fieldAddr rfl) rfl (st (s_loadB 3 rfl rfl rfl) rfl ?_))))))
      refine st (s_callk (trim_ok _) rfl ⟨(natT_digs _), trivial⟩) rfl ?_
      refine st (s_fieldAddr rfl) rfl (st (s_loadB 2 rfl rfl rfl) rfl ?_)
      refine st (s_callk (trim_ok _) rfl ⟨(natT_digs _), trivial⟩) rfl ?_
      refine st (s_assign rfl) rfl (Run.nil (st (s_assign rfl) rfl (Run.nil (pj_then (J_seq (J_seq (J_reg (st (s_move rfl) rfl (st (s_len rfl) rfl ?_)))))))))
      refine st (sF (by omega) (s_eq rfl rfl)) rfl (Run.nil (pj_then (J_cond0 rfl (J_skip (pj_then (J_seq (J_reg (st (s_move rfl) rfl (st (s_move rfl) rfl ?_)))))))))
      refine st (s_callk (hdiv ) rfl ⟨VT.le_refl _, VT.le_refl _, trivial⟩) rfl ?_
      refine st (s_move rfl) rfl (st (s_extract rfl rfl) rfl (st (s_extract rfl rfl) rfl (st (s_assign rfl) rfl (st (s_assign rfl) rfl (Run.nil (pj_then (J_seq (J_reg (st (s_move rfl) rfl ?_)))))))))
      refine st (s_callk (trim_ok _) rfl ⟨VT.le_refl _, trivial⟩) rfl ?_
      refine st (s_assign rfl) rfl (Run.nil (pj_then (J_seq (J_seq (J_reg (st (s_fieldAddr rfl) rfl (st (sT (by assumption) (s_loadB 3 rfl rfl rfl)) rfl (st (s_move rfl) rfl (sg1 rfl rfl (s_move rfl) rfl ?_)))))))))
      refine sg1 rfl rfl (s_len rfl) rfl (sg1 rfl rfl (sT (by omega) (s_gt rfl rfl)) rfl (st (s_pickT rfl rfl) rfl (Run.nil (pj_then (J_cond1 rfl (J_reg (st (s_move rfl) rfl ?_)))))))
      refine st (s_callk (trim_ok _) rfl ⟨VT.le_refl _, trivial⟩) rfl ?_
      refine stS1 rfl rfl rfl rfl ?_
      refine st (s_callk (hplus ) rfl ⟨VT.le_refl _, (one_digs), trivial⟩) rfl ?_
      refine st (s_move rfl) rfl (st (s_move rfl) rfl ?_)
      refine st (s_callk (hmin ) rfl ⟨VT.le_refl _, VT.le_refl _, trivial⟩) rfl ?_
      refine st (s_assign rfl) rfl (st (s_assign rfl) rfl (Run.nil (pj_then (J_seq (J_reg (st (s_fieldAddr rfl) rfl (st (sT (by assumption) (s_loadB 3 rfl rfl rfl)) rfl (st (s_fieldAddr rfl) rfl (st (s_loadB 2 rfl rfl rfl) rfl ?_)))))))))
      refine st (s_neB rfl rfl) rfl (st (s_move rfl) rfl ?_)
      refine st (s_callk (hv3 _) rfl ⟨VT.le_refl _, VT.le_refl _, trivial⟩) rfl ?_
      refine st (s_move rfl) rfl ?_
      refine st (s_callk (hv4 _) rfl ⟨VT.le_refl _, VT.le_refl _, trivial⟩) rfl ?_
      refine a_storeB 1 rfl rfl rfl rfl rfl (leN rfl) rfl (a_storeB 0 rfl rfl rfl rfl rfl (leN rfl) rfl (st (s_assign rfl) rfl (Run.nil (pj_then (J_ret ?_)))))
      refine retc3 Tryz.results106 (.cellB 1 rfl rfl rfl (bigT_eq (by rw [(g3 hn hr).1]; exact neg_ifT _ _))) (.cellB 0 rfl rfl rfl (bigT_eq (by rw [(g3 hn hr).2]; rfl))) (.tmp rfl (VT.le_refl _))
  · refine J_seq (J_reg ?_)
    refine a_boxS rfl rfl (ltN rfl) (fun b2 => ?_)
    refine a_boxS rfl rfl (ltN rfl) (fun b3 => ?_)
    refine a_alloc (T := 43) rfl (ltN rfl) (fun b4 => ?_)
    refine a_alloc (T := 43) rfl (ltN rfl) (fun b5 => ?_)
    refine st (s_assign rfl) rfl (Run.nil (pj_then (J_seq (J_regd 7 mixed (by kernel_rfl) (by decide) (st (s_fieldAddr rfl) rfl (st (s_loadB 3 rfl rfl rfl) rfl ?_))))))
    refine st (s_callk (trim_ok _) rfl ⟨(natT_digs _), trivial⟩) rfl ?_
    refine st (s_fieldAddr rfl) rfl (st (s_loadB 2 rfl rfl rfl) rfl ?_)
    refine st (s_callk (trim_ok _) rfl ⟨(natT_digs _), trivial⟩) rfl ?_
    refine st (s_assign rfl) rfl (Run.nil (st (s_assign rfl) rfl (Run.nil (pj_then (J_seq (J_seq (J_reg (st (s_move rfl) rfl (st (s_len rfl) rfl ?_)))))))))
    refine st (sF (by omega) (s_eq rfl rfl)) rfl (Run.nil (pj_then (J_cond0 rfl (J_skip (pj_then (J_seq (J_reg (st (s_move rfl) rfl (st (s_move rfl) rfl ?_)))))))))
    refine st (s_callk (hdiv ) rfl ⟨VT.le_refl _, VT.le_refl _, trivial⟩) rfl ?_
    refine st (s_move rfl) rfl (st (s_extract rfl rfl) rfl (st (s_extract rfl rfl) rfl (st (s_assign rfl) rfl (st (s_assign rfl) rfl (Run.nil (pj_then (J_seq (J_reg (st (s_move rfl) rfl ?_)))))))))
    refine st (s_callk (trim_ok _) rfl ⟨VT.le_refl _, trivial⟩) rfl ?_
    refine st (s_assign rfl) rfl (Run.nil (pj_then (J_seq (J_seq (J_reg (st (s_fieldAddr rfl) rfl (st (sF (by assumption) (s_loadB 3 rfl rfl rfl)) rfl (st (s_move rfl) rfl (sg0 rfl rfl rfl rfl ?_)))))))))
    refine sg0 rfl rfl rfl rfl (sg0 rfl rfl rfl rfl (st (s_pickF rfl rfl) rfl (Run.nil (pj_then (J_cond0 rfl (J_skip (pj_then (J_seq (J_reg ?_)))))))))
    refine st (s_fieldAddr rfl) rfl (st (sF (by assumption) (s_loadB 3 rfl rfl rfl)) rfl (st (s_fieldAddr rfl) rfl (st (s_loadB 2 rfl rfl rfl) rfl (st (s_neB rfl rfl) rfl (st (s_move rfl) rfl ?_)))))
    refine st (s_callk (hv1 _) rfl ⟨VT.le_refl _, VT.le_refl _, trivial⟩) rfl ?_
    refine st (s_move rfl) rfl ?_
    refine st (s_callk (hv2 _) rfl ⟨VT.le_refl _, (natT_digs _), trivial⟩) rfl ?_
    refine a_storeB 1 rfl rfl rfl rfl rfl (leN rfl) rfl (a_storeB 0 rfl rfl rfl rfl rfl (leN rfl) rfl (st (s_assign rfl) rfl (Run.nil (pj_then (J_ret ?_)))))
    refine retc3 Tryz.results106 (.cellB 1 rfl rfl rfl (bigT_eq (by rw [(g1 (by omega)).1]; exact neg_ifF _ _))) (.cellB 0 rfl rfl rfl (bigT_eq (by rw [(g1 (by omega)).2]; rfl))) (.tmp rfl (VT.le_refl _))
end Tor
end
section
namespace Tor
open Go Go.RowKit Go.Proofs
attribute [local irreducible] Tor.J Tor.PJ Tor.StepO Tor.one Tor.slT Tor.ptrT Tor.aggT Tor.tupT Tor.exT Tor.andT Tor.eP Tor.boxO Tor.sliO Tor.slV Tor.VT.le Tor.Ret Tor.anyT
set_option maxHeartbeats 4000000 in
theorem Gcd_ok (a b : Int) (ha : small a) (hb : small b) : Ok Tryz.prog 105 [bigT a, bigT b] (bigT (Nat.gcd a.natAbs b.natAbs)) := by
  have ha' : (digs a.natAbs).length ≤ 1099511627776 := ha
  have hb' : (digs b.natAbs).length ≤ 1099511627776 := hb
  unfold bigT
  refine Ok.enter Tryz.func105 rfl Tryz.ntmps105 rfl (fun w O => ?_)
  refine J_seq (J_reg ?_)
  refine a_boxS rfl rfl (ltN rfl) (fun b2 => ?_)
  refine a_boxS rfl rfl (ltN rfl) (fun b3 => ?_)
  refine a_alloc (T := 43) rfl (ltN rfl) (fun b4 => ?_)
  refine Run.nil (pj_then (J_seq (J_regd 7 mixed (by kernel_rfl) (by decide) (st (s_fieldAddr rfl) rfl (st (s_loadB 2 rfl rfl rfl) rfl ?_)))))
  refine st (s_callk (trim_ok _) rfl ⟨(natT_digs _), trivial⟩) rfl ?_
  refine st (s_fieldAddr rfl) rfl (st (s_loadB 1 rfl rfl rfl) rfl ?_)
  refine st (s_callk (trim_ok _) rfl ⟨(natT_digs _), trivial⟩) rfl ?_
  refine st (s_assign rfl) rfl (Run.nil (st (s_assign rfl) rfl (Run.nil (pj_then (J_seq (J_block (J_sub (Γ' := [(4, _), (5, _), (6, _)]) (SubG.cons rfl (VT.le_refl _) (SubG.cons rfl (VT.le_refl _) (SubG.cons rfl (VT.le_refl _) (SubG.nil)))) (SubM.refl _) ?_)))))))
  refine J_loopA (σ := Nat × Nat) (Γk := [(4, _)]) (SubG.cons rfl (VT.le_refl _) (SubG.nil)) (fun p => [(5, limT (digs p.1)), (6, limT (digs p.2))]) (fun p M0 => M0) (fun p => Nat.gcd p.1 p.2 = Nat.gcd a.natAbs b.natAbs ∧ (digs p.1).length ≤ 1099511627776 ∧ (digs p.2).length ≤ 1099511627776) (fun p => p.2) ((a.natAbs, b.natAbs)) (⟨rfl, ha', hb'⟩) (by repeat (first | exact SubG.refl _ | exact SubG.nil | refine SubG.cons rfl (VT.le_refl _) ?_ | (refine SubG.cons rfl (one_le ?_) ?_; (congr 1; first | omega | (simp; omega) | simp)))) (.keep (Own.le_refl _) (.keep (Own.le_refl _) (.keep (Own.le_refl _) (.nil)))) (fun p hp => ?_)
  refine J_norm (Γ' := [(5, _), (6, _), (4, _)]) (M' := [_, _, _]) rfl rfl ?_
  obtain ⟨x, y⟩ := p
  dsimp only at hp ⊢
  obtain ⟨p1, p2, p3⟩ := hp
  by_cases hy : y = 0
  · subst hy
    have hl : (digs 0).length = 0 := rfl
    have hcl := Clone_ok (digs x) p2
    have hv := value_ok false x
    rw [Nat.gcd_zero_right] at p1
    rw [← p1]
    unfold bigT at hv
    refine J_seq (J_seq (J_reg (st (s_move rfl) rfl (st (s_len rfl) rfl (st (sF (by omega) (s_gt rfl rfl)) rfl (st (s_move rfl) rfl (sg0 rfl rfl rfl rfl (sg0 rfl rfl rfl rfl (sg0 rfl rfl rfl rfl ?_)))))))))
    refine sg0 rfl rfl rfl rfl (sg0 rfl rfl rfl rfl (sg0 rfl rfl rfl rfl (st (s_pickF rfl rfl) rfl (Run.nil (pj_then (J_cond0 rfl (J_exit (px_then (px_then ?_)))))))))
    refine px_block (pj_then (J_seq (J_seq (J_reg (st (s_move rfl) rfl (st (s_len rfl) rfl (st (sT (by omega) (s_eq rfl rfl)) rfl (Run.nil (pj_then ?_)))))))))
    refine J_cond1 rfl (J_seq (J_reg (st (s_move rfl) rfl ?_)))
    refine st (s_callk (hcl ) rfl ⟨VT.le_refl _, trivial⟩) rfl ?_
    refine st (s_callk (hv ) rfl ⟨VT.le_refl _, (natT_digs _), trivial⟩) rfl ?_
    refine a_storeB 0 rfl rfl rfl rfl rfl (leN rfl) rfl (Run.nil (pj_then (J_ret (pr_then ?_))))
    refine retc1 Tryz.results105 (.cellB 0 rfl rfl rfl (VT.le_refl _))
  · have hl : (digs y).length ≠ 0 := fun h => hy (digs_nil h)
    have hd := divide_ok x y hy p2
    have hm := Nat.mod_lt x (Nat.pos_of_ne_zero hy)
    have hg : Nat.gcd y (x % y) = Nat.gcd a.natAbs b.natAbs := by rw [← p1, Nat.gcd_comm y, ← Nat.gcd_rec, Nat.gcd_comm]
    have hml := digs_len_le' (Nat.le_of_lt hm)
    refine J_seq (J_seq (J_reg (st (s_move rfl) rfl (st (s_len rfl) rfl (st (sT (by omega) (s_gt rfl rfl)) rfl (st (s_move rfl) rfl (sg1 rfl rfl (s_move rfl) rfl (sg1 rfl rfl (s_len rfl) rfl (sg1 rfl rfl (s_move rfl) rfl ?_)))))))))
    refine sg1 rfl rfl (s_len rfl) rfl (sg1 rfl rfl (s_max rfl rfl) rfl (sg1 rfl rfl (s_gt rfl rfl) rfl (st (s_pickT rfl rfl) rfl (Run.nil (pj_then ?_)))))
    refine J_if rfl (fun hc => ?_) (fun hc => ?_)
    · refine J_skip (pj_then (J_block (J_seq (J_reg (st (s_move rfl) rfl (st (s_move rfl) rfl ?_))))))
      refine st (s_callk (hd ) rfl ⟨VT.le_refl _, VT.le_refl _, trivial⟩) rfl ?_
      refine st (s_move rfl) rfl (st (s_extract rfl rfl) rfl (st (s_extract rfl rfl) rfl (st (s_assign rfl) rfl (st (s_assign rfl) rfl (Run.nil (pj_then (J_reg (st (s_move rfl) rfl (st (s_move rfl) rfl ?_)))))))))
      refine st (s_callk (trim_ok _) rfl ⟨VT.le_refl _, trivial⟩) rfl ?_
      refine st (s_assign rfl) rfl (st (s_assign rfl) rfl (Run.nil (pn_block ?_)))
      refine pj_roundM ((y, x % y)) (⟨hg, p3, by dsimp only; omega⟩) (by assumption) (by repeat (first | exact SubG.refl _ | exact SubG.nil | refine SubG.cons rfl (VT.le_refl _) ?_ | (refine SubG.cons rfl (one_le ?_) ?_; (congr 1; first | omega | (simp; omega) | simp)))) (.keep (Own.le_refl _) (.keep (Own.le_refl _) (.keep (Own.le_refl _) (.nil))))
    · have hx2 : (digs x).length ≤ 2 := by omega
      have hy2 : (digs y).length ≤ 2 := by omega
      have hw1 := word_ok (digs x) (limbs_digs x) hx2
      have hw2 := word_ok (digs y) (limbs_digs y) hy2
      rw [lv_digs] at hw1 hw2
      have x64 : x < 18446744073709551616 := Nat.lt_of_lt_of_le (lt_of_digs_len x) (Nat.pow_le_pow_right (n := 4294967296) (by decide) hx2)
      have y64 : y < 18446744073709551616 := Nat.lt_of_lt_of_le (lt_of_digs_len y) (Nat.pow_le_pow_right (n := 4294967296) (by decide) hy2)
      refine J_exit (px_then (px_then (px_block (pj_then (J_seq (J_seq (J_reg (st (s_move rfl) rfl (st (s_len rfl) rfl ?_)))))))))
      refine st (sF (by omega) (s_eq rfl rfl)) rfl (Run.nil (pj_then (J_cond0 rfl (J_skip (pj_then (J_seq (J_reg (st (s_move rfl) rfl ?_))))))))
      refine st (s_callk (hw1 ) rfl ⟨VT.le_refl _, trivial⟩) rfl ?_
      refine st (s_move rfl) rfl ?_
      refine st (s_callk (hw2 ) rfl ⟨VT.le_refl _, trivial⟩) rfl ?_
      refine st (s_assign rfl) rfl (st (s_assign rfl) rfl (Run.nil (pj_then (J_seq (J_block (J_sub (Γ' := [(4, _), (9, _), (10, _)]) (SubG.cons rfl (VT.le_refl _) (SubG.cons rfl (VT.le_refl _) (SubG.cons rfl (VT.le_refl _) (SubG.nil)))) (SubM.refl _) ?_))))))
      refine J_loopA (σ := Nat × Nat) (Γk := [(4, _)]) (SubG.cons rfl (VT.le_refl _) (SubG.nil)) (fun q => [(9, one (.int .u64 (q.1 : Nat))), (10, one (.int .u64 (q.2 : Nat)))]) (fun q M0 => M0) (fun q => Nat.gcd q.1 q.2 = Nat.gcd a.natAbs b.natAbs ∧ q.1 < 18446744073709551616 ∧ q.2 < 18446744073709551616) (fun q => q.2) ((x, y)) (⟨p1, x64, y64⟩) (by repeat (first | exact SubG.refl _ | exact SubG.nil | refine SubG.cons rfl (VT.le_refl _) ?_ | (refine SubG.cons rfl (one_le ?_) ?_; (congr 1; first | omega | (simp; omega) | simp)))) (.keep (Own.le_refl _) (.keep (Own.le_refl _) (.keep (Own.le_refl _) (.nil)))) (fun q hq => ?_)
      refine J_norm (Γ' := [(9, _), (10, _), (4, _)]) (M' := [_, _, _]) rfl rfl ?_
      obtain ⟨u, v⟩ := q
      dsimp only at hq ⊢
      obtain ⟨q1, q2, q3⟩ := hq
      by_cases hv0 : v = 0
      · subst hv0
        rw [Nat.gcd_zero_right] at q1
        have hlu := limbs_ok u q2
        have hv := value_ok false u
        rw [← q1]
        unfold bigT at hv
        refine J_seq (J_seq (J_reg (st (s_move rfl) rfl (st (sF (by omega) (s_gt rfl rfl)) rfl (Run.nil (pj_then (J_cond0 rfl (J_exit (px_then ?_)))))))))
        refine px_then (px_block (pj_then (J_seq (J_reg (st (s_move rfl) rfl ?_)))))
        refine st (s_callk (hlu ) rfl ⟨VT.le_refl _, trivial⟩) rfl ?_
        refine st (s_callk (hv ) rfl ⟨VT.le_refl _, VT.le_refl _, trivial⟩) rfl ?_
        refine a_storeB 0 rfl rfl rfl rfl rfl (leN rfl) rfl (Run.nil (pj_then (J_ret ?_)))
        refine retc1 Tryz.results105 (.cellB 0 rfl rfl rfl (VT.le_refl _))
      · have hvm := Nat.mod_lt u (Nat.pos_of_ne_zero hv0)
        have hvg : Nat.gcd v (u % v) = Nat.gcd a.natAbs b.natAbs := by rw [← q1, Nat.gcd_comm v, ← Nat.gcd_rec, Nat.gcd_comm]
        refine J_seq (J_seq (J_reg (st (s_move rfl) rfl (st (sT (by omega) (s_gt rfl rfl)) rfl (Run.nil (pj_then (J_cond1 rfl (J_skip (pj_then ?_)))))))))
        refine J_block (J_regd 5 mixed (by kernel_rfl) (by decide) (st (s_move rfl) rfl (st (s_move rfl) rfl (st (s_move rfl) rfl (st (s_remN _ rfl rfl rfl (by omega)) rfl (st (s_assign rfl) rfl (Run.nil (st (s_assign rfl) rfl (Run.nil ?_)))))))))
        refine pn_block ?_
        refine pj_roundM ((v, u % v)) (⟨hvg, q3, by dsimp only; omega⟩) (by assumption) (by repeat (first | exact SubG.refl _ | exact SubG.nil | refine SubG.cons rfl (VT.le_refl _) ?_ | (refine SubG.cons rfl (one_le ?_) ?_; (congr 1; first | omega | (simp; omega) | simp)))) (.keep (Own.le_refl _) (.keep (Own.le_refl _) (.keep (Own.le_refl _) (.nil))))
end Tor
end
section
namespace Tor
open Go Go.RowKit Go.Proofs
def fracT (n d : Int) : VT := aggT 4 [(0, .agg 2, bigT n), (2, .agg 2, bigT d)]
def ratT (q : Rat) : VT := fracT q.num q.den
theorem fracT_of {n n' d d' : Int} (h : n = n') (h' : d = d') : VT.le (aggT 4 [(0, .agg 2, bigT n), (2, .agg 2, bigT d)]) (fracT n' d') := h ▸ h' ▸ VT.le_refl _
instance {n d : Int} : Flat (fracT n d) (.agg 4) := by unfold fracT; infer_instance
instance {q : Rat} : Flat (ratT q) (.agg 4) := by unfold ratT; infer_instance
theorem low_pos {n d : Int} (h : 0 < d) : n / ((Nat.gcd n.natAbs d.natAbs : Nat) : Int) = (Rat.divInt n d).num ∧ d / ((Nat.gcd n.natAbs d.natAbs : Nat) : Int) = ((Rat.divInt n d).den : Int) := by
  have e : Int.gcd d n = Nat.gcd n.natAbs d.natAbs := Nat.gcd_comm _ _
  rw [Rat.num_divInt, Rat.den_divInt, if_neg (by omega), e, Int.sign_eq_one_of_pos h, Int.one_mul]
  refine ⟨rfl, ?_⟩
  rw [Int.natCast_ediv, Int.natAbs_of_nonneg (Int.le_of_lt h)]
theorem low_neg {n d : Int} (h : d < 0) : n / -((Nat.gcd n.natAbs d.natAbs : Nat) : Int) = (Rat.divInt n d).num ∧ d / -((Nat.gcd n.natAbs d.natAbs : Nat) : Int) = ((Rat.divInt n d).den : Int) := by
  have e : Int.gcd d n = Nat.gcd n.natAbs d.natAbs := Nat.gcd_comm _ _
  have h1 : ((Nat.gcd n.natAbs d.natAbs : Nat) : Int) ∣ n := Int.gcd_dvd_left ..
  have h2 : ((Nat.gcd n.natAbs d.natAbs : Nat) : Int) ∣ d := Int.gcd_dvd_right ..
  rw [Rat.num_divInt, Rat.den_divInt, if_neg (by omega), e, Int.sign_eq_neg_one_of_neg h, Int.ediv_neg, Int.ediv_neg]
  refine ⟨?_, ?_⟩
  · rw [Int.neg_mul, Int.one_mul, Int.neg_ediv_of_dvd h1]
  · rw [Int.natCast_ediv, ← Int.neg_ediv_of_dvd h2]; congr 1; omega
theorem gcd_small {n d : Int} (h : d ≠ 0) (hs : small d) : small ((Nat.gcd n.natAbs d.natAbs : Nat) : Int) := by
  have h1 : Nat.gcd n.natAbs d.natAbs ≤ d.natAbs := Nat.le_of_dvd (by omega) (Nat.gcd_dvd_right _ _)
  unfold small at *
  rw [Int.natAbs_natCast]
  exact Nat.le_trans (digs_len_le' h1) hs
theorem gcd_ne {n d : Int} (h : d ≠ 0) : ((Nat.gcd n.natAbs d.natAbs : Nat) : Int) ≠ 0 := by
  have := Nat.gcd_pos_of_pos_right n.natAbs (show 0 < d.natAbs by omega)
  omega
theorem zeroB_le : VT.le (one (.agg #[.bool false, .slice none 0 0])) (bigT 0) := by
  intro v h e
  have e : v = .agg #[.bool false, .slice none 0 0] := e
  subst e
  exact bigT_zero _ _ ⟨_, rfl, rfl, by simp [Value.oneCell'], fun q hq => by
    rcases List.mem_cons.1 hq with rfl | hq
    · exact ⟨_, rfl, rfl⟩
    · rcases List.mem_cons.1 hq with rfl | hq
      · exact ⟨_, rfl, rfl⟩
      · cases hq⟩
attribute [local irreducible] Tor.J Tor.PJ Tor.StepO Tor.one Tor.slT Tor.ptrT Tor.aggT Tor.tupT Tor.exT Tor.andT Tor.eP Tor.boxO Tor.sliO Tor.slV Tor.VT.le Tor.Ret Tor.anyT
set_option maxHeartbeats 4000000 in
theorem lowest_ok (n d : Int) (hd : d ≠ 0) (hn : small n) (hds : small d) : Ok Tryz.prog 85 [fracT n d] (ratT (Rat.divInt n d)) := by
  have hg := Gcd_ok n d hn hds
  have hgs := gcd_small (n := n) hd hds
  have hg0 := gcd_ne (n := n) hd
  have hsi := SignI_ok d
  unfold ratT fracT
  refine Ok.enter Tryz.func85 rfl Tryz.ntmps85 rfl (fun w O => ?_)
  by_cases h : d < 0
  · obtain ⟨l1, l2⟩ := low_neg (n := n) h
    have hs : sgnI d = -1 := by unfold sgnI; rw [if_neg hd, if_pos h]
    rw [hs] at hsi
    refine J_seq (J_reg ?_)
    refine a_boxS rfl rfl (ltN rfl) (fun b1 => ?_)
    refine a_allocS (T := 63) rfl rfl rfl (fun b2 => ?_)
    refine Run.nil (pj_then (J_seq (J_seq (J_reg (st (s_fieldAddr rfl) rfl (st (s_loadB 1 rfl rfl rfl) rfl ?_))))))
    refine st (s_callk (hsi ) rfl ⟨VT.le_refl _, trivial⟩) rfl ?_
    refine st (sF (by omega) (s_eq rfl rfl)) rfl (Run.nil (pj_then (J_cond0 rfl (J_skip (pj_then (J_seq (J_reg (st (s_fieldAddr rfl) rfl (st (s_loadB 1 rfl rfl rfl) rfl ?_)))))))))
    refine st (s_fieldAddr rfl) rfl (st (s_loadB 1 rfl rfl rfl) rfl ?_)
    refine st (s_callk (hg ) rfl ⟨VT.le_refl _, VT.le_refl _, trivial⟩) rfl ?_
    refine a_alloc (T := 43) rfl (ltN rfl) (fun b3 => ?_)
    refine a_storeB 0 rfl rfl rfl rfl rfl (leN rfl) rfl (Run.nil (pj_then (J_seq (J_seq (J_reg (st (s_fieldAddr rfl) rfl (st (s_loadB 2 rfl rfl rfl) rfl ?_)))))))
    refine st (s_callk (hsi ) rfl ⟨VT.le_refl _, trivial⟩) rfl ?_
    refine st (sT (by omega) (s_lt rfl rfl)) rfl (Run.nil (pj_then (J_cond1 rfl (J_reg (st (s_loadB 0 rfl rfl rfl) rfl ?_)))))
    refine st (s_callk (NegI_ok _ (by assumption)) rfl ⟨VT.le_refl _, trivial⟩) rfl ?_
    refine a_storeB 0 rfl rfl rfl rfl rfl (leN rfl) rfl (Run.nil (pj_then (J_seq (J_reg (st (s_fieldAddr rfl) rfl (st (s_loadB 2 rfl rfl rfl) rfl (st (s_loadB 0 rfl rfl rfl) rfl ?_)))))))
    refine st (s_callk (DivMod_ok _ _ (by omega) (by assumption) (small_neg ‹_›)) rfl ⟨VT.le_refl _, VT.le_refl _, trivial⟩) rfl ?_
    refine st (s_move rfl) rfl (st (s_extract rfl rfl) rfl (st (s_extract rfl rfl) rfl (st (s_extract rfl rfl) rfl ?_)))
    refine a_alloc (T := 43) rfl (ltN rfl) (fun b4 => ?_)
    refine a_alloc (T := 43) rfl (ltN rfl) (fun b5 => ?_)
    refine a_storeB 1 rfl rfl rfl rfl rfl (leN rfl) rfl (a_storeB 0 rfl rfl rfl rfl rfl (leN rfl) rfl (st (s_assign rfl) rfl (Run.nil (pj_then (J_seq (J_reg (st (s_fieldAddr rfl) rfl (st (s_loadB 4 rfl rfl rfl) rfl (st (s_loadB 2 rfl rfl rfl) rfl ?_)))))))))
    refine st (s_callk (DivMod_ok _ _ (by omega) (by assumption) (small_neg ‹_›)) rfl ⟨VT.le_refl _, VT.le_refl _, trivial⟩) rfl ?_
    refine st (s_move rfl) rfl (st (s_extract rfl rfl) rfl (st (s_extract rfl rfl) rfl (st (s_extract rfl rfl) rfl ?_)))
    refine a_alloc (T := 43) rfl (ltN rfl) (fun b7 => ?_)
    refine a_alloc (T := 43) rfl (ltN rfl) (fun b8 => ?_)
    refine a_storeB 1 rfl rfl rfl rfl rfl (leN rfl) rfl (a_storeB 0 rfl rfl rfl rfl rfl (leN rfl) rfl (st (s_assign rfl) rfl (Run.nil (pj_then (J_seq (J_reg (st (s_loadB 3 rfl rfl rfl) rfl (st (s_loadB 1 rfl rfl rfl) rfl (stB rfl rfl rfl ?_)))))))))
    refine BuildK.cons rfl rfl rfl (BuildK.cons rfl rfl rfl (BuildK.nil (a_storeW 5 rfl rfl rfl rfl (Run.nil (pj_then (J_ret ?_))))))
    refine retc1 Tryz.results85 (.cellW 5 rfl rfl (fracT_of l1 l2))
  · obtain ⟨l1, l2⟩ := low_pos (n := n) (show 0 < d by omega)
    have hs : sgnI d = 1 := by unfold sgnI; rw [if_neg hd, if_neg h]
    rw [hs] at hsi
    refine J_seq (J_reg ?_)
    refine a_boxS rfl rfl (ltN rfl) (fun b1 => ?_)
    refine a_allocS (T := 63) rfl rfl rfl (fun b2 => ?_)
    refine Run.nil (pj_then (J_seq (J_seq (J_reg (st (s_fieldAddr rfl) rfl (st (s_loadB 1 rfl rfl rfl) rfl ?_))))))
    refine st (s_callk (hsi ) rfl ⟨VT.le_refl _, trivial⟩) rfl ?_
    refine st (sF (by omega) (s_eq rfl rfl)) rfl (Run.nil (pj_then (J_cond0 rfl (J_skip (pj_then (J_seq (J_reg (st (s_fieldAddr rfl) rfl (st (s_loadB 1 rfl rfl rfl) rfl ?_)))))))))
    refine st (s_fieldAddr rfl) rfl (st (s_loadB 1 rfl rfl rfl) rfl ?_)
    refine st (s_callk (hg ) rfl ⟨VT.le_refl _, VT.le_refl _, trivial⟩) rfl ?_
    refine a_alloc (T := 43) rfl (ltN rfl) (fun b3 => ?_)
    refine a_storeB 0 rfl rfl rfl rfl rfl (leN rfl) rfl (Run.nil (pj_then (J_seq (J_seq (J_reg (st (s_fieldAddr rfl) rfl (st (s_loadB 2 rfl rfl rfl) rfl ?_)))))))
    refine st (s_callk (hsi ) rfl ⟨VT.le_refl _, trivial⟩) rfl ?_
    refine st (sF (by omega) (s_lt rfl rfl)) rfl (Run.nil (pj_then (J_cond0 rfl (J_skip (pj_then (J_seq (J_reg (st (s_fieldAddr rfl) rfl (st (s_loadB 2 rfl rfl rfl) rfl ?_)))))))))
    refine st (s_loadB 0 rfl rfl rfl) rfl ?_
    refine st (s_callk (DivMod_ok _ _ (by assumption) (by assumption) (by assumption)) rfl ⟨VT.le_refl _, VT.le_refl _, trivial⟩) rfl ?_
    refine st (s_move rfl) rfl (st (s_extract rfl rfl) rfl (st (s_extract rfl rfl) rfl (st (s_extract rfl rfl) rfl ?_)))
    refine a_alloc (T := 43) rfl (ltN rfl) (fun b4 => ?_)
    refine a_alloc (T := 43) rfl (ltN rfl) (fun b5 => ?_)
    refine a_storeB 1 rfl rfl rfl rfl rfl (leN rfl) rfl (a_storeB 0 rfl rfl rfl rfl rfl (leN rfl) rfl (st (s_assign rfl) rfl (Run.nil (pj_then (J_seq (J_reg (st (s_fieldAddr rfl) rfl (st (s_loadB 4 rfl rfl rfl) rfl (st (s_loadB 2 rfl rfl rfl) rfl ?_)))))))))
    refine st (s_callk (DivMod_ok _ _ (by assumption) (by assumption) (by assumption)) rfl ⟨VT.le_refl _, VT.le_refl _, trivial⟩) rfl ?_
    refine st (s_move rfl) rfl (st (s_extract rfl rfl) rfl (st (s_extract rfl rfl) rfl (st (s_extract rfl rfl) rfl ?_)))
    refine a_alloc (T := 43) rfl (ltN rfl) (fun b7 => ?_)
    refine a_alloc (T := 43) rfl (ltN rfl) (fun b8 => ?_)
    refine a_storeB 1 rfl rfl rfl rfl rfl (leN rfl) rfl (a_storeB 0 rfl rfl rfl rfl rfl (leN rfl) rfl (st (s_assign rfl) rfl (Run.nil (pj_then (J_seq (J_reg (st (s_loadB 3 rfl rfl rfl) rfl (st (s_loadB 1 rfl rfl rfl) rfl (stB rfl rfl rfl ?_)))))))))
    refine BuildK.cons rfl rfl rfl (BuildK.cons rfl rfl rfl (BuildK.nil (a_storeW 5 rfl rfl rfl rfl (Run.nil (pj_then (J_ret ?_))))))
    refine retc1 Tryz.results85 (.cellW 5 rfl rfl (fracT_of l1 l2))
set_option maxHeartbeats 4000000 in
theorem qOf_ok (n d : Int) (hd : d ≠ 0) (hn : small n) (hds : small d) : Ok Tryz.prog 50 [bigT n, bigT d] (tupT [ratT (Rat.divInt n d), one (.int .i64 0)]) := by
  have hlow := lowest_ok n d hd hn hds
  have hs : sgnI d ≠ 0 := by unfold sgnI; rw [if_neg hd]; split <;> decide
  unfold ratT fracT at *
  refine Ok.enter Tryz.func50 rfl Tryz.ntmps50 rfl (fun w O => ?_)
  refine J_seq (J_reg ?_)
  refine a_boxS rfl rfl (ltN rfl) (fun b2 => ?_)
  refine a_boxS rfl rfl (ltN rfl) (fun b3 => ?_)
  refine a_allocS (T := 63) rfl rfl rfl (fun b4 => ?_)
  refine st (s_assign rfl) rfl (Run.nil (pj_then (J_seq (J_seq (J_reg (st (s_loadW 1 rfl rfl) rfl ?_))))))
  refine st (s_callk (SignI_ok _) rfl ⟨VT.le_refl _, trivial⟩) rfl ?_
  refine st (sF (by assumption) (s_eq rfl rfl)) rfl (Run.nil (pj_then (J_cond0 rfl (J_skip (pj_then (J_seq (J_reg (st (s_loadW 2 rfl rfl) rfl (st (s_loadW 1 rfl rfl) rfl ?_)))))))))
  refine stB rfl rfl rfl (BuildK.cons rfl rfl rfl (BuildK.cons rfl rfl rfl (BuildK.nil ?_)))
  refine st (s_callk (hlow ) rfl ⟨VT.le_refl _, trivial⟩) rfl ?_
  refine a_storeW 0 rfl rfl rfl rfl (st (s_assign rfl) rfl (Run.nil (pj_then (J_ret ?_))))
  refine retc2 Tryz.results50 (.cellW 0 rfl rfl (VT.le_refl _)) (.tmp rfl (VT.le_refl _))
end Tor
end
section
namespace Tor
open Go Go.RowKit Go.Proofs
theorem swp_upd (i k : Nat) (φ : Nat → VT) (h : i ≠ k) : upd (upd φ i (φ k)) k (φ i) = swp i k φ := by
  funext q; unfold upd swp
  by_cases h1 : q = k
  · subst h1; rw [if_pos rfl, if_neg (fun e => h e.symm), if_pos rfl]
  · rw [if_neg h1]; by_cases h2 : q = i
    · rw [if_pos h2, if_pos h2]
    · rw [if_neg h2, if_neg h2, if_neg h1]
abbrev elimO (b : Nat) (sv : Option Nat) (r cap : Nat) (last : Int) (odd : Bool) (ψ : VT) : Own := boxO b 81 5 [(0, .one, one (slV sv r cap)), (1, .agg 2, bigT last), (3, .one, one (.bool odd)), (4, .one, ψ)]
attribute [local irreducible] Tor.J Tor.PJ Tor.StepO Tor.one Tor.slT Tor.ptrT Tor.aggT Tor.tupT Tor.exT Tor.andT Tor.eP Tor.boxO Tor.sliO Tor.slV Tor.VT.le Tor.Ret Tor.anyT
attribute [local irreducible] bigT
set_option maxHeartbeats 4000000 in
theorem exch_ok (b bs r cap : Nat) (last : Int) (odd : Bool) (ψ : VT) (φ : Nat → VT) [hF : ∀ i, Flat (φ i) .one] (i k : Nat) (hi : i < r) (hk : k < r) (hne : (i : Int) ≠ (k : Int)) :
    OkI Tryz.prog 79 [one (.pointer (some ⟨b, 0, none⟩)), one (.int .i64 (i : Nat)), one (.int .i64 (k : Nat))] [elimO b (some bs) r cap last odd ψ, sliO (some bs) 30 .one cap r φ]
      (fun _ : Unit => tupT []) (fun _ => [elimO b (some bs) r cap last (!odd) ψ, sliO (some bs) 30 .one cap r (swp i k φ)]) := by
  refine OkI.enter Tryz.func79 rfl Tryz.ntmps79 rfl (fun w O => ?_)
  refine J_seq (J_reg (st (s_move rfl) rfl (st (s_move rfl) rfl (st (sT (by assumption) (s_ne rfl rfl)) rfl (Run.nil (pj_then (J_cond1 rfl (J_seq ?_))))))))
  refine J_regG (Γ1 := [(0, one (.pointer (some ⟨b, 0, none⟩)))]) (M1 := [elimO b (some bs) r cap last odd ψ, sliO (some bs) 30 .one cap r (upd (upd φ i (φ k)) k (φ i))]) 24 5 [9] [] mixed (by kernel_rfl) (by decide) ?_ ?_
  · refine st (s_move rfl) rfl (st (s_nilCheckP rfl) rfl (st (s_fieldAddr rfl) rfl (st (s_loadB 0 rfl rfl rfl) rfl (st (s_move rfl) rfl (st (s_move rfl) rfl (st (s_nilCheckP rfl) rfl (st (s_fieldAddr rfl) rfl (st (s_loadB 0 rfl rfl rfl) rfl (st (s_move rfl) rfl ?_)))))))))
    refine st (s_move rfl) rfl (st (s_nilCheckP rfl) rfl (st (s_fieldAddr rfl) rfl (st (s_loadB 0 rfl rfl rfl) rfl (st (s_move rfl) rfl (st (s_indexON rfl rfl (by omega)) rfl (st (s_loadE 1 rfl rfl (by omega)) rfl (st (s_move rfl) rfl (st (s_nilCheckP rfl) rfl (st (s_fieldAddr rfl) rfl ?_)))))))))
    refine st (s_loadB 0 rfl rfl rfl) rfl (st (s_move rfl) rfl (st (s_indexON rfl rfl (by omega)) rfl (st (s_loadE 1 rfl rfl (by omega)) rfl (Run.nil ?_))))
    refine entry1 (Γe := [(0, _), (12, _), (13, _), (25, _), (17, _), (32, _), (2, _)]) (Γe' := [(0, _), (12, _), (13, _), (25, _), (17, _), (32, _), (18, _)]) (rem := [24, 25, 26, 27]) rfl (by repeat (first | exact SubG.nil | refine SubG.cons rfl (VT.le_refl _) ?_)) rfl (by repeat (first | exact SubG.nil | refine SubG.cons rfl (VT.le_refl _) ?_)) rfl ?_ ?_
    · refine game_two (rem' := [24, 25, 26, 27]) (rem'' := [9, 25, 26, 27]) (i := 9) (j := 24) (by kernel_rfl) rfl rfl rfl rfl ?_ ?_ DeadOk.nil
      refine st (s_move rfl) rfl (Run.nil ?_)
      refine ⟨rfl, ?_⟩
      refine game_one (rem' := [25, 26, 27]) (i := 24) (by kernel_rfl) rfl rfl ?_ DeadOk.nil
      refine st (s_indexON rfl rfl (by omega)) rfl (Run.nil ?_)
      refine ⟨rfl, ?_⟩
      refine game_one (rem' := [26, 27]) (i := 25) (by kernel_rfl) rfl rfl ?_ DeadOk.nil
      (refine a_storeE 1 rfl rfl rfl ?_ rfl ?_; omega)
      refine Run.nil ?_
      refine ⟨rfl, ?_⟩
      refine game_one (rem' := [27]) (i := 26) (by kernel_rfl) rfl rfl ?_ DeadOk.nil
      refine st (s_indexON rfl rfl (by omega)) rfl (Run.nil ?_)
      refine ⟨rfl, ?_⟩
      refine game_one (rem' := []) (i := 27) (by kernel_rfl) rfl rfl ?_ DeadOk.nil
      (refine a_storeE 1 rfl rfl rfl ?_ rfl ?_; omega)
      refine Run.nil ?_
      refine ⟨rfl, ?_⟩
      refine game_end (by repeat (first | exact SubG.nil | refine SubG.cons rfl (VT.le_refl _) ?_)) (SubM.refl _) DeadOk.nil
      refine st (s_indexON rfl rfl (by omega)) rfl (Run.nil ?_)
      refine ⟨rfl, ?_⟩
      refine game_two (rem' := [25, 26, 27]) (rem'' := [9, 26, 27]) (i := 9) (j := 25) (by kernel_rfl) rfl rfl rfl rfl ?_ ?_ DeadOk.nil
      refine st (s_move rfl) rfl (Run.nil ?_)
      refine ⟨rfl, ?_⟩
      refine game_one (rem' := [26, 27]) (i := 25) (by kernel_rfl) rfl rfl ?_ DeadOk.nil
      (refine a_storeE 1 rfl rfl rfl ?_ rfl ?_; omega)
      refine Run.nil ?_
      refine ⟨rfl, ?_⟩
      refine game_one (rem' := [27]) (i := 26) (by kernel_rfl) rfl rfl ?_ DeadOk.nil
      refine st (s_indexON rfl rfl (by omega)) rfl (Run.nil ?_)
      refine ⟨rfl, ?_⟩
      refine game_one (rem' := []) (i := 27) (by kernel_rfl) rfl rfl ?_ DeadOk.nil
      (refine a_storeE 1 rfl rfl rfl ?_ rfl ?_; omega)
      refine Run.nil ?_
      refine ⟨rfl, ?_⟩
      refine game_end (by repeat (first | exact SubG.nil | refine SubG.cons rfl (VT.le_refl _) ?_)) (SubM.refl _) DeadOk.nil
      (refine a_storeE 1 rfl rfl rfl ?_ rfl ?_; omega)
      refine Run.nil ?_
      refine ⟨rfl, ?_⟩
      refine game_one (rem' := [26, 27]) (i := 9) (by kernel_rfl) rfl rfl ?_ DeadOk.nil
      refine st (s_move rfl) rfl (Run.nil ?_)
      refine ⟨rfl, ?_⟩
      refine game_one (rem' := [27]) (i := 26) (by kernel_rfl) rfl rfl ?_ DeadOk.nil
      refine st (s_indexON rfl rfl (by omega)) rfl (Run.nil ?_)
      refine ⟨rfl, ?_⟩
      refine game_one (rem' := []) (i := 27) (by kernel_rfl) rfl rfl ?_ DeadOk.nil
      (refine a_storeE 1 rfl rfl rfl ?_ rfl ?_; omega)
      refine Run.nil ?_
      refine ⟨rfl, ?_⟩
      refine game_end (by repeat (first | exact SubG.nil | refine SubG.cons rfl (VT.le_refl _) ?_)) (SubM.refl _) DeadOk.nil
    · refine game_one (rem' := [25, 26, 27]) (i := 24) (by kernel_rfl) rfl rfl ?_ DeadOk.nil
      refine st (s_indexON rfl rfl (by omega)) rfl (Run.nil ?_)
      refine ⟨rfl, ?_⟩
      refine game_one (rem' := [26, 27]) (i := 25) (by kernel_rfl) rfl rfl ?_ DeadOk.nil
      (refine a_storeE 1 rfl rfl rfl ?_ rfl ?_; omega)
      refine Run.nil ?_
      refine ⟨rfl, ?_⟩
      refine game_one (rem' := [27]) (i := 26) (by kernel_rfl) rfl rfl ?_ DeadOk.nil
      refine st (s_indexON rfl rfl (by omega)) rfl (Run.nil ?_)
      refine ⟨rfl, ?_⟩
      refine game_one (rem' := []) (i := 27) (by kernel_rfl) rfl rfl ?_ DeadOk.nil
      (refine a_storeE 1 rfl rfl rfl ?_ rfl ?_; omega)
      refine Run.nil ?_
      refine ⟨rfl, ?_⟩
      refine game_end (by repeat (first | exact SubG.nil | refine SubG.cons rfl (VT.le_refl _) ?_)) (SubM.refl _) DeadOk.nil
  · rw [swp_upd i k φ (by omega)]
    refine pj_then (J_reg (st (s_move rfl) rfl (st (s_move rfl) rfl (st (s_nilCheckP rfl) rfl (st (s_fieldAddr rfl) rfl (st (s_loadB 0 rfl rfl rfl) rfl (st (s_not rfl) rfl (st (s_nilCheckP rfl) rfl (st (s_fieldAddr rfl) rfl ?_)))))))))
    refine a_storeB 0 rfl rfl rfl rfl rfl (leN rfl) rfl (Run.nil (pj_fall ?_))
    exact retI0 (σ := Unit) (ψ := fun _ => tupT []) () Tryz.results79 (VT.le_refl _) (SubM.refl _)
set_option maxHeartbeats 4000000 in
theorem exch0_ok (b bs r cap : Nat) (last : Int) (odd : Bool) (ψ : VT) (φ : Nat → VT) [hF : ∀ i, Flat (φ i) .one] (i : Nat) (hi : i < r) :
    OkI Tryz.prog 79 [one (.pointer (some ⟨b, 0, none⟩)), one (.int .i64 (i : Nat)), one (.int .i64 (i : Nat))] [elimO b (some bs) r cap last odd ψ, sliO (some bs) 30 .one cap r φ]
      (fun _ : Unit => tupT []) (fun _ => [elimO b (some bs) r cap last odd ψ, sliO (some bs) 30 .one cap r φ]) := by
  refine OkI.enter Tryz.func79 rfl Tryz.ntmps79 rfl (fun w O => ?_)
  refine J_seq (J_reg (st (s_move rfl) rfl (st (s_move rfl) rfl (st (sF (by omega) (s_ne rfl rfl)) rfl (Run.nil (pj_then (J_cond0 rfl (J_skip (pj_fall ?_)))))))))
  exact retI0 (σ := Unit) (ψ := fun _ => tupT []) () Tryz.results79 (VT.le_refl _) (SubM.refl _)
theorem exchA_ok (b bs r cap : Nat) (last : Int) (odd : Bool) (ψ : VT) (φ : Nat → VT) [hF : ∀ i, Flat (φ i) .one] (i k : Nat) (hi : i < r) (hk : k < r) :
    OkI Tryz.prog 79 [one (.pointer (some ⟨b, 0, none⟩)), one (.int .i64 (i : Nat)), one (.int .i64 (k : Nat))] [elimO b (some bs) r cap last odd ψ, sliO (some bs) 30 .one cap r φ]
      (fun _ : Unit => tupT []) (fun _ => [elimO b (some bs) r cap last (xor odd (decide (i ≠ k))) ψ, sliO (some bs) 30 .one cap r (swp i k φ)]) := by
  by_cases h : i = k
  · subst h
    rw [swp_self, show xor odd (decide (i ≠ i)) = odd by simp]
    exact exch0_ok b bs r cap last odd ψ φ i hi
  · rw [show xor odd (decide (i ≠ k)) = !odd by simp [h]]
    exact exch_ok b bs r cap last odd ψ φ i k hi hk (by omega)
end Tor
end
section
namespace Tor
open Go Go.RowKit Go.Proofs
theorem fill_row {sv : Option Nat} {T : TypeId} {cap n j : Nat} {h : Nat → Int} {x : Int} (hx : x = h j) : Own.le (sliO sv T (.agg 2) cap n (upd (fun q => bigT (if q < j then h q else 0)) j (bigT x))) (sliO sv T (.agg 2) cap n (fun q => bigT (if q < j + 1 then h q else 0))) := sliO_eq (fun q _ => by
  subst hx
  show (if q = j then bigT (h j) else bigT (if q < j then h q else 0)) = _
  by_cases c : q = j
  · rw [if_pos c, if_pos (by omega), c]
  · rw [if_neg c]
    by_cases c2 : q < j
    · rw [if_pos c2, if_pos (by omega)]
    · rw [if_neg c2, if_neg (by omega)])
attribute [local irreducible] Tor.J Tor.PJ Tor.StepO Tor.one Tor.slT Tor.ptrT Tor.aggT Tor.tupT Tor.exT Tor.andT Tor.eP Tor.boxO Tor.sliO Tor.slV Tor.VT.le Tor.Ret Tor.anyT Tor.xO
attribute [local irreducible] bigT
set_option maxHeartbeats 4000000 in
theorem replaced_ok (b : Nat) (sv : Option Nat) (r cap : Nat) (last : Int) (odd : Bool) (ψ : VT) (w c : Nat) (f g : Nat → Int) (hc : c < w) (hw : w ≤ 1048576) (hl0 : last ≠ 0) (hl : small last) (hf : ∀ j, small (f j)) (hg : ∀ j, small (g j))
    (hp : ∀ j, small (g c * f j)) (hq : ∀ j, small (f c * g j)) (hd : ∀ j, small (g c * f j - f c * g j)) :
    OkR Tryz.prog 104 [one (.pointer (some ⟨b, 0, none⟩)), rowF w f, rowF w g, one (.int .i64 (c : Nat))] [elimO b sv r cap last odd ψ] (rowF w (fun j => stepE (g c) (f j) (f c) (g j) last)) := by
  intro g0
  show OkI _ _ _ [xO g0 (elimO b sv r cap last odd ψ)] _ (fun _ => [xO g0 (elimO b sv r cap last odd ψ)])
  unfold rowF
  refine OkI.enter Tryz.func104 rfl Tryz.ntmps104 rfl (fun w0 O => ?_)
  refine J_seq (J_reg (st (s_assign rfl) rfl (Run.nil (pj_then (J_seq (J_reg (st (s_move rfl) rfl (st (s_len rfl) rfl ?_))))))))
  refine a_makeSlice w w rfl rfl rfl rfl (Nat.le_refl _) rfl rfl (by omega) rfl rfl (fun bz => ?_)
  refine st (s_assign rfl) rfl (Run.nil (pj_then (J_seq (J_seq (J_reg (st (s_move rfl) rfl (st (s_len rfl) rfl (st (s_move rfl) rfl (Run.nil ?_)))))))))
  refine pj_then (J_block (J_sub (Γ' := [(0, _), (1, _), (2, _), (3, _), (8, _), (9, _), (16, _), (17, _), (18, _)]) (SubG.cons rfl (VT.le_refl _) (SubG.cons rfl (VT.le_refl _) (SubG.cons rfl (VT.le_refl _) (SubG.cons rfl (VT.le_refl _) (SubG.cons rfl (VT.le_refl _) (SubG.cons rfl (VT.le_refl _) (SubG.cons rfl (VT.le_refl _) (SubG.cons rfl (VT.le_refl _) (SubG.cons rfl (VT.le_refl _) (SubG.nil)))))))))) (SubM.refl _) ?_))
  refine J_loopA (σ := Nat) (Γk := [(0, _), (1, _), (2, _), (3, _), (8, _), (9, _), (16, _), (17, _)]) (SubG.cons rfl (VT.le_refl _) (SubG.cons rfl (VT.le_refl _) (SubG.cons rfl (VT.le_refl _) (SubG.cons rfl (VT.le_refl _) (SubG.cons rfl (VT.le_refl _) (SubG.cons rfl (VT.le_refl _) (SubG.cons rfl (VT.le_refl _) (SubG.cons rfl (VT.le_refl _) (SubG.nil))))))))) (fun j => [(18, one (.int .i64 (j : Nat)))]) (fun j M0 => (M0.set 0 (sliO (some bz) 43 (.agg 2) w w (fun q => bigT (if q < j then stepE (g c) (f q) (f c) (g q) last else 0))))) (fun j => j ≤ w) (fun j => w - j) (0) (Nat.zero_le _) (by repeat (first | exact SubG.refl _ | exact SubG.nil | refine SubG.cons rfl (VT.le_refl _) ?_ | (refine SubG.cons rfl (one_le ?_) ?_; (congr 1; first | omega | (simp; omega) | simp)))) (.keep (sliO_le fun q hq => zero_big) (.keep (Own.le_refl _) (.nil))) (fun j hj => ?_)
  refine J_norm (Γ' := [(18, _), (0, _), (1, _), (2, _), (3, _), (8, _), (9, _), (16, _), (17, _)]) (M' := [_, _]) rfl rfl ?_
  by_cases hj : j < w
  · have m1 := MulI_ok (g c) (f j) (hg c) (hf j)
    have m2 := MulI_ok (f c) (g j) (hf c) (hg j)
    have m3 := SubI_ok (g c * f j) (f c * g j) (hp j) (hq j)
    have sp := hp j
    have sd := hd j
    have hs1 : sgnI (f c) = 0 ↔ f c = 0 := sgnI_zero _
    have hs2 : sgnI (g j) = 0 ↔ g j = 0 := sgnI_zero _
    by_cases h1 : f c = 0
    · have d1 := DivMod_ok (g c * f j) last hl0 sp hl
      have h3 := hs1.2 h1
      rw [← stepE_z (y := f c) (z := g j) (.inl h1)] at d1
      refine J_seq (J_reg (st (sT (by omega) (s_lt rfl rfl)) rfl (Run.nil (pj_then (J_seq (J_cond1 rfl (J_skip (pj_then (J_seq ?_)))))))))
      refine J_block (J_seq (J_reg (st (s_move rfl) rfl (st (s_indexIN rfl rfl (by omega)) rfl (st (s_load rfl) rfl ?_)))))
      refine a_alloc (T := 43) rfl (ltN rfl) (fun b11 => ?_)
      refine st (s_assign rfl) rfl (a_storeB 0 rfl rfl rfl rfl rfl (leN rfl) rfl (Run.nil (pj_then (J_seq ?_))))
      refine J_regU2 mixed (by kernel_rfl) (by kernel_rfl) ?_
      refine ux (fun B => s_move rfl) rfl rfl ?_
      refine ux (fun B => s_move rfl) rfl rfl ?_
      refine ux (fun B => s_indexIN rfl rfl (by omega)) rfl rfl ?_
      refine ux (fun B => s_load rfl) rfl rfl ?_
      refine ux (fun B => s_loadB 0 rfl rfl rfl) rfl rfl ?_
      refine uxk (m1 ) rfl ⟨VT.le_refl _, VT.le_refl _, trivial⟩ rfl ?_
      refine ua rfl (us rfl ?_)
      refine RunU.nil (fun γ => ?_)
      refine PJ_normM (M' := [_, _, _, _]) rfl (pj_then (J_seq (J_seq (J_reg (st (s_move rfl) rfl (st (s_move rfl) rfl (st (s_indexIN rfl rfl (by omega)) rfl (st (s_load rfl) rfl ?_))))))))
      refine st (s_callk (SignI_ok _) rfl ⟨VT.le_refl _, trivial⟩) rfl ?_
      refine st (sF (by omega) (s_ne rfl rfl)) rfl (st (s_move rfl) rfl (sn0 rfl rfl rfl rfl rfl (sn0 rfl rfl rfl rfl rfl (sn0 rfl rfl rfl rfl rfl (sn0 rfl rfl rfl rfl rfl (sn0 rfl rfl rfl rfl rfl (sn0 rfl rfl rfl rfl rfl (st (s_pickF rfl rfl) rfl (Run.nil ?_)))))))))
      refine pj_then (J_cond0 rfl (J_skip (pj_then ?_)))
      apply J_regG (Γ1 := [(0, _), (1, _), (2, _), (3, _), (8, _), (9, _), (16, _), (17, _), (18, _)]) (M1 := [_, _, _, _]) 12 3 [] [10, 11] mixed (by kernel_rfl) (by decide)
      · refine st (s_move rfl) rfl (st (s_move rfl) rfl (st (s_loadB 0 rfl rfl rfl) rfl (st (s_move rfl) rfl (st (s_nilCheckP rfl) rfl (st (s_fieldAddr rfl) rfl (st (s_loadX 3 rfl rfl rfl) rfl ?_))))))
        refine st (s_callk (d1 ) rfl ⟨VT.le_refl _, VT.le_refl _, trivial⟩) rfl ?_
        refine st (s_move rfl) rfl (st (s_extract rfl rfl) rfl (st (s_extract rfl rfl) rfl (st (s_extract rfl rfl) rfl (Run.nil ?_))))
        refine entry0 (Γe := [(0, _), (1, _), (2, _), (3, _), (8, _), (9, _), (16, _), (17, _), (18, _), (54, _), (55, _), (56, _), (63, _)]) (rem := [12, 13]) rfl (by repeat (first | exact SubG.nil | refine SubG.cons rfl (VT.le_refl _) ?_)) rfl ?_
        refine game_one (rem' := [13]) (i := 12) (by kernel_rfl) rfl rfl ?_ (DeadOk.cons rfl (StepG.plain (s_extract rfl rfl) rfl rfl (ltN rfl)) rfl (DeadOk.cons rfl (StepG.plain (s_extract rfl rfl) rfl rfl (ltN rfl)) rfl DeadOk.nil))
        refine st (s_indexON rfl rfl (by omega)) rfl (Run.nil ?_)
        refine ⟨rfl, ?_⟩
        refine game_one (rem' := []) (i := 13) (by kernel_rfl) rfl rfl ?_ (DeadOk.cons rfl (StepG.plain (s_extract rfl rfl) rfl rfl (ltN rfl)) rfl (DeadOk.cons rfl (StepG.plain (s_extract rfl rfl) rfl rfl (ltN rfl)) rfl DeadOk.nil))
        (refine a_storeE 2 rfl rfl rfl ?_ rfl ?_; omega)
        refine Run.nil ?_
        refine ⟨rfl, ?_⟩
        refine game_end (by repeat (first | exact SubG.nil | refine SubG.cons rfl (VT.le_refl _) ?_)) (SubM.refl _) (DeadOk.cons rfl (StepG.plain (s_extract rfl rfl) rfl rfl (ltN rfl)) rfl (DeadOk.cons rfl (StepG.plain (s_extract rfl rfl) rfl rfl (ltN rfl)) rfl DeadOk.nil))
      · refine pn_block (pj_then (J_reg (st (s_addN _ 1 rfl rfl (by omega)) rfl (st (s_move rfl) rfl (Run.nil ?_)))))
        refine pj_roundM (j + 1) (hj) (by omega) (by repeat (first | exact SubG.refl _ | exact SubG.nil | refine SubG.cons rfl (VT.le_refl _) ?_ | (refine SubG.cons rfl (one_le ?_) ?_; (congr 1; first | omega | (simp; omega) | simp)))) (.drop (.drop (.keep (fill_row (h := fun q => stepE (g c) (f q) (f c) (g q) last) rfl) (.keep (Own.le_refl _) (.nil)))))
    have h3 : sgnI (f c) ≠ 0 := fun e => h1 (hs1.1 e)
    by_cases h2 : g j = 0
    · have d1 := DivMod_ok (g c * f j) last hl0 sp hl
      have h4 := hs2.2 h2
      rw [← stepE_z (y := f c) (z := g j) (.inr h2)] at d1
      refine J_seq (J_reg (st (sT (by omega) (s_lt rfl rfl)) rfl (Run.nil (pj_then (J_seq (J_cond1 rfl (J_skip (pj_then (J_seq ?_)))))))))
      refine J_block (J_seq (J_reg (st (s_move rfl) rfl (st (s_indexIN rfl rfl (by omega)) rfl (st (s_load rfl) rfl ?_)))))
      refine a_alloc (T := 43) rfl (ltN rfl) (fun b11 => ?_)
      refine st (s_assign rfl) rfl (a_storeB 0 rfl rfl rfl rfl rfl (leN rfl) rfl (Run.nil (pj_then (J_seq ?_))))
      refine J_regU2 mixed (by kernel_rfl) (by kernel_rfl) ?_
      refine ux (fun B => s_move rfl) rfl rfl ?_
      refine ux (fun B => s_move rfl) rfl rfl ?_
      refine ux (fun B => s_indexIN rfl rfl (by omega)) rfl rfl ?_
      refine ux (fun B => s_load rfl) rfl rfl ?_
      refine ux (fun B => s_loadB 0 rfl rfl rfl) rfl rfl ?_
      refine uxk (m1 ) rfl ⟨VT.le_refl _, VT.le_refl _, trivial⟩ rfl ?_
      refine ua rfl (us rfl ?_)
      refine RunU.nil (fun γ => ?_)
      refine PJ_normM (M' := [_, _, _, _]) rfl (pj_then (J_seq (J_seq (J_reg (st (s_move rfl) rfl (st (s_move rfl) rfl (st (s_indexIN rfl rfl (by omega)) rfl (st (s_load rfl) rfl ?_))))))))
      refine st (s_callk (SignI_ok _) rfl ⟨VT.le_refl _, trivial⟩) rfl ?_
      refine st (sT (by assumption) (s_ne rfl rfl)) rfl (st (s_move rfl) rfl (sg1 rfl rfl (s_move rfl) rfl (sg1 rfl rfl (s_move rfl) rfl (sg1 rfl rfl (s_indexIN rfl rfl (by omega)) rfl (sg1 rfl rfl (s_load rfl) rfl ?_)))))
      refine sg1 rfl rfl (s_callk (SignI_ok _) rfl ⟨VT.le_refl _, trivial⟩) rfl ?_
      refine sg1 rfl rfl (sF (by omega) (s_ne rfl rfl)) rfl (st (s_pickT rfl rfl) rfl (Run.nil (pj_then (J_cond0 rfl (J_skip (pj_then ?_))))))
      apply J_regG (Γ1 := [(0, _), (1, _), (2, _), (3, _), (8, _), (9, _), (16, _), (17, _), (18, _)]) (M1 := [_, _, _, _]) 12 3 [] [10, 11] mixed (by kernel_rfl) (by decide)
      · refine st (s_move rfl) rfl (st (s_move rfl) rfl (st (s_loadB 0 rfl rfl rfl) rfl (st (s_move rfl) rfl (st (s_nilCheckP rfl) rfl (st (s_fieldAddr rfl) rfl (st (s_loadX 3 rfl rfl rfl) rfl ?_))))))
        refine st (s_callk (d1 ) rfl ⟨VT.le_refl _, VT.le_refl _, trivial⟩) rfl ?_
        refine st (s_move rfl) rfl (st (s_extract rfl rfl) rfl (st (s_extract rfl rfl) rfl (st (s_extract rfl rfl) rfl (Run.nil ?_))))
        refine entry0 (Γe := [(0, _), (1, _), (2, _), (3, _), (8, _), (9, _), (16, _), (17, _), (18, _), (54, _), (55, _), (56, _), (63, _)]) (rem := [12, 13]) rfl (by repeat (first | exact SubG.nil | refine SubG.cons rfl (VT.le_refl _) ?_)) rfl ?_
        refine game_one (rem' := [13]) (i := 12) (by kernel_rfl) rfl rfl ?_ (DeadOk.cons rfl (StepG.plain (s_extract rfl rfl) rfl rfl (ltN rfl)) rfl (DeadOk.cons rfl (StepG.plain (s_extract rfl rfl) rfl rfl (ltN rfl)) rfl DeadOk.nil))
        refine st (s_indexON rfl rfl (by omega)) rfl (Run.nil ?_)
        refine ⟨rfl, ?_⟩
        refine game_one (rem' := []) (i := 13) (by kernel_rfl) rfl rfl ?_ (DeadOk.cons rfl (StepG.plain (s_extract rfl rfl) rfl rfl (ltN rfl)) rfl (DeadOk.cons rfl (StepG.plain (s_extract rfl rfl) rfl rfl (ltN rfl)) rfl DeadOk.nil))
        (refine a_storeE 2 rfl rfl rfl ?_ rfl ?_; omega)
        refine Run.nil ?_
        refine ⟨rfl, ?_⟩
        refine game_end (by repeat (first | exact SubG.nil | refine SubG.cons rfl (VT.le_refl _) ?_)) (SubM.refl _) (DeadOk.cons rfl (StepG.plain (s_extract rfl rfl) rfl rfl (ltN rfl)) rfl (DeadOk.cons rfl (StepG.plain (s_extract rfl rfl) rfl rfl (ltN rfl)) rfl DeadOk.nil))
      · refine pn_block (pj_then (J_reg (st (s_addN _ 1 rfl rfl (by omega)) rfl (st (s_move rfl) rfl (Run.nil ?_)))))
        refine pj_roundM (j + 1) (hj) (by omega) (by repeat (first | exact SubG.refl _ | exact SubG.nil | refine SubG.cons rfl (VT.le_refl _) ?_ | (refine SubG.cons rfl (one_le ?_) ?_; (congr 1; first | omega | (simp; omega) | simp)))) (.drop (.drop (.keep (fill_row (h := fun q => stepE (g c) (f q) (f c) (g q) last) rfl) (.keep (Own.le_refl _) (.nil)))))
    · have d1 := DivMod_ok (g c * f j - f c * g j) last hl0 sd hl
      have h4 : sgnI (g j) ≠ 0 := fun e => h2 (hs2.1 e)
      refine J_seq (J_reg (st (sT (by omega) (s_lt rfl rfl)) rfl (Run.nil (pj_then (J_seq (J_cond1 rfl (J_skip (pj_then (J_seq ?_)))))))))
      refine J_block (J_seq (J_reg (st (s_move rfl) rfl (st (s_indexIN rfl rfl (by omega)) rfl (st (s_load rfl) rfl ?_)))))
      refine a_alloc (T := 43) rfl (ltN rfl) (fun b11 => ?_)
      refine st (s_assign rfl) rfl (a_storeB 0 rfl rfl rfl rfl rfl (leN rfl) rfl (Run.nil (pj_then (J_seq ?_))))
      refine J_regU2 mixed (by kernel_rfl) (by kernel_rfl) ?_
      refine ux (fun B => s_move rfl) rfl rfl ?_
      refine ux (fun B => s_move rfl) rfl rfl ?_
      refine ux (fun B => s_indexIN rfl rfl (by omega)) rfl rfl ?_
      refine ux (fun B => s_load rfl) rfl rfl ?_
      refine ux (fun B => s_loadB 0 rfl rfl rfl) rfl rfl ?_
      refine uxk (m1 ) rfl ⟨VT.le_refl _, VT.le_refl _, trivial⟩ rfl ?_
      refine ua rfl (us rfl ?_)
      refine RunU.nil (fun γ => ?_)
      refine PJ_normM (M' := [_, _, _, _]) rfl (pj_then (J_seq (J_seq (J_reg (st (s_move rfl) rfl (st (s_move rfl) rfl (st (s_indexIN rfl rfl (by omega)) rfl (st (s_load rfl) rfl ?_))))))))
      refine st (s_callk (SignI_ok _) rfl ⟨VT.le_refl _, trivial⟩) rfl ?_
      refine st (sT (by assumption) (s_ne rfl rfl)) rfl (st (s_move rfl) rfl (sg1 rfl rfl (s_move rfl) rfl (sg1 rfl rfl (s_move rfl) rfl (sg1 rfl rfl (s_indexIN rfl rfl (by omega)) rfl (sg1 rfl rfl (s_load rfl) rfl ?_)))))
      refine sg1 rfl rfl (s_callk (SignI_ok _) rfl ⟨VT.le_refl _, trivial⟩) rfl ?_
      refine sg1 rfl rfl (sT (by assumption) (s_ne rfl rfl)) rfl (st (s_pickT rfl rfl) rfl (Run.nil (pj_then (J_cond1 rfl (J_regd 11 mixed (by kernel_rfl) (by decide) (st (s_loadB 0 rfl rfl rfl) rfl (st (s_move rfl) rfl (st (s_move rfl) rfl (st (s_indexIN rfl rfl (by omega)) rfl ?_)))))))))
      refine st (s_load rfl) rfl (st (s_move rfl) rfl (st (s_move rfl) rfl (st (s_indexIN rfl rfl (by omega)) rfl (st (s_load rfl) rfl ?_))))
      refine st (s_callk (m2 ) rfl ⟨VT.le_refl _, VT.le_refl _, trivial⟩) rfl ?_
      refine st (s_callk (m3 ) rfl ⟨VT.le_refl _, VT.le_refl _, trivial⟩) rfl ?_
      refine Run.nil (a_storeB 0 rfl rfl rfl rfl rfl (leN rfl) rfl (Run.nil (pj_then ?_)))
      apply J_regG (Γ1 := [(0, _), (1, _), (2, _), (3, _), (8, _), (9, _), (16, _), (17, _), (18, _)]) (M1 := [_, _, _, _]) 12 3 [] [10, 11] mixed (by kernel_rfl) (by decide)
      · refine st (s_move rfl) rfl (st (s_move rfl) rfl (st (s_loadB 0 rfl rfl rfl) rfl (st (s_move rfl) rfl (st (s_nilCheckP rfl) rfl (st (s_fieldAddr rfl) rfl (st (s_loadX 3 rfl rfl rfl) rfl ?_))))))
        refine st (s_callk (d1 ) rfl ⟨VT.le_refl _, VT.le_refl _, trivial⟩) rfl ?_
        refine st (s_move rfl) rfl (st (s_extract rfl rfl) rfl (st (s_extract rfl rfl) rfl (st (s_extract rfl rfl) rfl (Run.nil ?_))))
        refine entry0 (Γe := [(0, _), (1, _), (2, _), (3, _), (8, _), (9, _), (16, _), (17, _), (18, _), (54, _), (55, _), (56, _), (63, _)]) (rem := [12, 13]) rfl (by repeat (first | exact SubG.nil | refine SubG.cons rfl (VT.le_refl _) ?_)) rfl ?_
        refine game_one (rem' := [13]) (i := 12) (by kernel_rfl) rfl rfl ?_ (DeadOk.cons rfl (StepG.plain (s_extract rfl rfl) rfl rfl (ltN rfl)) rfl (DeadOk.cons rfl (StepG.plain (s_extract rfl rfl) rfl rfl (ltN rfl)) rfl DeadOk.nil))
        refine st (s_indexON rfl rfl (by omega)) rfl (Run.nil ?_)
        refine ⟨rfl, ?_⟩
        refine game_one (rem' := []) (i := 13) (by kernel_rfl) rfl rfl ?_ (DeadOk.cons rfl (StepG.plain (s_extract rfl rfl) rfl rfl (ltN rfl)) rfl (DeadOk.cons rfl (StepG.plain (s_extract rfl rfl) rfl rfl (ltN rfl)) rfl DeadOk.nil))
        (refine a_storeE 2 rfl rfl rfl ?_ rfl ?_; omega)
        refine Run.nil ?_
        refine ⟨rfl, ?_⟩
        refine game_end (by repeat (first | exact SubG.nil | refine SubG.cons rfl (VT.le_refl _) ?_)) (SubM.refl _) (DeadOk.cons rfl (StepG.plain (s_extract rfl rfl) rfl rfl (ltN rfl)) rfl (DeadOk.cons rfl (StepG.plain (s_extract rfl rfl) rfl rfl (ltN rfl)) rfl DeadOk.nil))
      · refine pn_block (pj_then (J_reg (st (s_addN _ 1 rfl rfl (by omega)) rfl (st (s_move rfl) rfl (Run.nil ?_)))))
        refine pj_roundM (j + 1) (hj) (by omega) (by repeat (first | exact SubG.refl _ | exact SubG.nil | refine SubG.cons rfl (VT.le_refl _) ?_ | (refine SubG.cons rfl (one_le ?_) ?_; (congr 1; first | omega | (simp; omega) | simp)))) (.drop (.drop (.keep (fill_row (h := fun q => stepE (g c) (f q) (f c) (g q) last) rfl) (.keep (Own.le_refl _) (.nil)))))
  · have he : j = w := by omega
    subst he
    refine J_seq (J_reg (st (sF (by omega) (s_lt rfl rfl)) rfl (Run.nil (pj_then (J_seq (J_cond0 rfl (J_exit (px_then (px_then ?_)))))))))
    refine px_block (pj_then (J_seq (J_reg (st (s_move rfl) rfl (st (s_assign rfl) rfl (Run.nil (pj_then (J_ret (PJ_freeze (t := 8) (i := 0) rfl rfl ?_)))))))))
    exact retI1 (σ := Unit) (ψ := fun _ => slT (.agg 2) j (fun q => bigT (stepE (g c) (f q) (f c) (g q) last))) () Tryz.results104 (.tmp rfl (slT_le fun q hq => le_eq (by rw [if_pos hq]))) (SubM.refl _)
end Tor
end
section
namespace Tor
open Go Go.RowKit Go.Proofs
section
variable {P : Program} {E : Env} {Γ : Ctx} {M : Mem} {d : Option Tmp} {ty : TypeId} {pos : String} {af : Array Edge} {gd : Option (Nat × Bool)}
theorem s_mulW {T T' : TypeId} {x y : Operand} {a b : Nat} (hx : evalT Γ x = some (one (.int .u32 (a : Int)))) (hy : evalT Γ y = some (one (.int .u32 (b : Int)))) (h : a * b < 4294967296) :
    StepO P E Γ M ⟨d, .binOp .mul T x y T', ty, pos, af, gd⟩ (one (.int .u32 ((a * b : Nat) : Int))) :=
  s_mul hx hy (by
    rw [wrap_u32, ← Int.natCast_mul]
    generalize a * b = z at *
    omega)
theorem valAt_sub {L : Lay} {k m j : Nat} {c c' : Array Value} {x : Value} (h : valAt (.agg m) c k = some (.agg c')) (hx : valAt L c' j = some x) : valAt L c (k + j) = some x := by
  simp only [valAt] at h
  split at h
  · rename_i hk
    cases h
    cases L with
    | one =>
      simp only [valAt] at hx ⊢
      rw [extract_at] at hx
      split at hx
      · exact hx
      · cases hx
    | agg n =>
      simp only [valAt] at hx ⊢
      have hs : (c.extract k (k + m)).size = m := by simp; omega
      rw [hs] at hx
      split at hx
      · rename_i hj
        rw [if_pos (by omega)]
        rw [← hx]
        congr 2
        apply Array.ext_getElem?
        intro i
        rw [extract_at, extract_at, extract_at]
        by_cases hi : i < n
        · rw [if_pos hi, if_pos hi, if_pos (by omega), Nat.add_assoc]
        · rw [if_neg hi, if_neg hi]
      · cases hx
  · cases h
theorem s_loadBP {T T' : TypeId} {L : Lay} [LayOf P T L] {x : Operand} {b o m m' : Nat} {cs cs' : Comps} {φ : VT} (i k j : Nat) (hx : evalT Γ x = some (one (.pointer (some ⟨b, o, none⟩)))) (hM : M[i]? = some (boxO b T' m cs))
    (hl : lookC cs k = some (.agg m', aggT m' cs')) (ho : o = k + j) (hl2 : lookC cs' j = some (L, φ)) : StepO P E Γ M ⟨d, .load T x, ty, pos, af, gd⟩ φ :=
  StepO.ofRun fun a w hb hf => by
    have h1 : a.eval x = .pointer (some ⟨b, o, none⟩) := hf x _ (by simp [Op.operands]) hx
    obtain ⟨c, hc, _, _, hcs⟩ := own_get hb hM
    obtain ⟨v, hx', c', rfl, hs', _, hcs'⟩ := hcs _ (lookC_mem hl)
    obtain ⟨y, hy, hp⟩ := hcs' _ (lookC_mem hl2)
    refine ⟨y, ?_, hp⟩
    have h2 := valAt_sub hx' hy
    subst ho
    simp only [execOp, h1, Instr.loadAt, Instr.sureAddr, Sem.run_bind, Sem.run_pure, Result.andThen_ok, run_loadVar' hc h2]
theorem box_agg {b : Nat} {T : TypeId} {m : Nat} {cs : Comps} {φ : VT} (h : VT.le (aggT m cs) φ) : Own.le (boxO b T m cs) (boxO b T m [(0, .agg m, φ)]) :=
  ⟨rfl, fun g h' ⟨c, hb, hs, ha, hc⟩ => ⟨c, hb, hs, ha, fun q hq => by
    rw [List.mem_singleton.1 hq]
    exact ⟨.agg c, by subst hs; simp [valAt], h _ _ ⟨c, rfl, hs, ha, hc⟩⟩⟩⟩
theorem Run_retype {ops : Array Oper} {i : Nat} {os : List Oper} {K : List Deferred → Ctx → Mem → Prop} {D : List Deferred} {t : Nat} {φ ψ : VT} (ht : look Γ t = some φ) (hle : VT.le φ ψ) (h : Run P E ops false i D ((t, ψ) :: Γ) M os K) : Run P E ops false i D Γ M os K :=
  .conv (fun a w hS => hS.sub (fun s χ hs => by
    rw [look_cons] at hs
    split at hs
    · rename_i e; subst e; cases hs; exact ⟨φ, ht, hle⟩
    · exact ⟨χ, hs, VT.le_refl _⟩) (SubM.refl _)) h
end
attribute [local irreducible] Tor.J Tor.PJ Tor.StepO Tor.one Tor.slT Tor.ptrT Tor.aggT Tor.tupT Tor.exT Tor.andT Tor.eP Tor.boxO Tor.sliO Tor.slV Tor.VT.le Tor.Ret Tor.anyT
set_option maxHeartbeats 1000000 in
theorem rshort_ok (l : List Nat) (d : Nat) (hl : Limbs l) (h1 : l.length ≤ 1099511627776) (hd0 : 0 < d) (hd : d < 4294967296) : Ok Tryz.prog 131 [limT l, one (.int .u32 (d : Nat))] (tupT [natS (lv l / d), one (.int .u32 ((lv l % d : Nat) : Int))]) := by
  refine Ok.enter Tryz.func131 rfl Tryz.ntmps131 rfl (fun w O => ?_)
  refine J_seq (J_reg (st (s_assign rfl) rfl (st (s_assign rfl) rfl (Run.nil (pj_then (J_seq (J_reg (st (s_move rfl) rfl (st (s_len rfl) rfl ?_)))))))))
  refine a_makeSlice l.length l.length rfl rfl rfl rfl (Nat.le_refl _) rfl rfl (by omega) rfl rfl (fun bz => ?_)
  refine st (s_assign rfl) rfl (st (s_assign rfl) rfl (Run.nil (pj_then (J_seq (J_seq (J_reg (st (s_move rfl) rfl (st (s_len rfl) rfl (st (s_sub rfl rfl (wrap_i64 (by omega) (by omega))) rfl ?_)))))))))
  refine st (s_assign rfl) rfl (Run.nil (pj_then (J_block (J_sub (Γ' := [(0, _), (1, _), (4, _), (5, _), (6, _), (7, _), (8, _)]) (SubG.cons rfl (VT.le_refl _) (SubG.cons rfl (VT.le_refl _) (SubG.cons rfl (VT.le_refl _) (SubG.cons rfl (VT.le_refl _) (SubG.cons rfl (VT.le_refl _) (SubG.cons rfl (VT.le_refl _) (SubG.cons rfl (VT.le_refl _) (SubG.nil)))))))) (SubM.refl _) ?_))))
  refine J_loopA (σ := List Nat × Nat × Nat) (Γk := [(0, _), (1, _), (4, _), (5, _), (6, _)]) (SubG.cons rfl (VT.le_refl _) (SubG.cons rfl (VT.le_refl _) (SubG.cons rfl (VT.le_refl _) (SubG.cons rfl (VT.le_refl _) (SubG.cons rfl (VT.le_refl _) (SubG.nil)))))) (fun s => [(8, one (.int .i64 ((s.2.1 : Nat) - 1 : Int))), (7, one (.int .u64 (s.2.2 : Nat)))]) (fun s M0 => (M0.set 0 (sliO (some bz) 110 .one l.length l.length (fun q => one (.int .u32 (s.1.getD q 0 : Nat)))))) (fun s => ShortR l d s) (fun s => s.2.1) ((List.replicate l.length 0, l.length, 0)) (ShortR.start hd0) (by repeat (first | exact SubG.refl _ | exact SubG.nil | refine SubG.cons rfl (VT.le_refl _) ?_ | (refine SubG.cons rfl (one_le ?_) ?_; (congr 1; first | omega | (simp; omega) | simp)))) (.keep (sliO_eq (fun q _ => by rw [getD_replicate0]; rfl)) (.nil)) (fun s hs => ?_)
  refine J_norm (Γ' := [(8, _), (7, _), (0, _), (1, _), (4, _), (5, _), (6, _)]) (M' := [_]) rfl rfl ?_
  obtain ⟨z, n, r⟩ := s
  dsimp only at hs ⊢
  refine J_seq (J_seq (J_reg (st (s_move rfl) rfl (st (s_ge rfl rfl) rfl (Run.nil (pj_then ?_))))))
  cases n with
  | zero =>
    obtain ⟨f1, f2⟩ := hs.finish
    have hlen : z.length = l.length := hs.len
    have hr : r < d := hs.r
    rw [← f1, ← f2]
    refine J_condF rfl (by omega) (J_exit (px_then (px_then (px_block (pj_then (J_seq (J_reg (st (s_move rfl) rfl (st (s_move rfl) rfl ?_)))))))))
    refine st (s_toU32 rfl) rfl (st (s_assign rfl) rfl (st (s_assign rfl) rfl (Run.nil (pj_then (J_ret (PJ_freeze (t := 4) (i := 0) rfl rfl ?_))))))
    refine retc2 Tryz.results131 (.tmp rfl (VT.le_trans (slT_le' (m := z.length) (ψ := fun i => one (.int .u32 (z.getD i 0 : Nat))) hlen.symm (fun q hq => rfl)) (natS_of (l := z) hs.lim rfl (by omega)))) (.tmp rfl (one_le (by congr 1; omega)))
  | succ n =>
    have hx := getD_lt hl n
    have hr : r < d := hs.r
    have hb := ShortR.bound hx hr hd
    have hst := hs.step hl hd
    have hn : n < l.length := hs.le
    have hzn : n < z.length := by have := hs.len; dsimp only at this; omega
    have en : ((n + 1 : Nat) : Int) - 1 = (n : Nat) := by omega
    rw [en]
    refine J_condT rfl (by omega) (J_skip (pj_then (J_seq (J_block (J_seq (J_reg (st (s_move rfl) rfl (st (s_mulU (b := 4294967296) rfl rfl (by omega)) rfl (st (s_move rfl) rfl ?_)))))))))
    refine st (s_move rfl) rfl (st (s_indexIN rfl rfl (by omega)) rfl (st (s_load rfl) rfl (st (s_toU64 rfl (by omega)) rfl (st (s_addU rfl rfl (by omega)) rfl (st (s_assign rfl) rfl (Run.nil (pj_then (J_seq (J_reg ?_)))))))))
    refine st (s_move rfl) rfl (st (s_move rfl) rfl (st (s_move rfl) rfl (st (s_move rfl) rfl (st (s_toU64 rfl (by omega)) rfl (st (s_quoU rfl rfl (by omega) (by omega)) rfl (st (s_toU32 rfl) rfl (st (s_indexON rfl rfl (by omega)) rfl ?_)))))))
    (refine a_storeE 0 rfl rfl rfl ?_ rfl ?_; omega)
    refine Run.nil (pj_then (J_reg (st (s_move rfl) rfl (st (s_move rfl) rfl (st (s_toU64 rfl (by omega)) rfl (st (s_remN _ rfl rfl rfl (by omega)) rfl (st (s_assign rfl) rfl (Run.nil (pn_block ?_)))))))))
    refine pj_then (J_reg (st (s_move rfl) rfl (st (s_sub rfl rfl (wrap_i64 (by omega) (by omega))) rfl (st (s_assign rfl) rfl (Run.nil ?_)))))
    refine pj_roundM ((z.set n ((r * 4294967296 + l.getD n 0) / d), n, (r * 4294967296 + l.getD n 0) % d)) (hst) (by (simp only []; omega)) (by repeat (first | exact SubG.refl _ | exact SubG.nil | refine SubG.cons rfl (VT.le_refl _) ?_ | (refine SubG.cons rfl (one_le ?_) ?_; (congr 1; first | omega | (simp; omega) | simp)))) (.keep (lim_set hzn (Nat.mod_eq_of_lt hb.2)) (.nil))
def estN (r d : Nat) : Nat :=
  if (digs r).length = (digs d).length then max 1 ((digs r).getD ((digs r).length - 1) 0 / ((digs d).getD ((digs d).length - 1) 0 + 1))
  else (((digs r).getD ((digs r).length - 1) 0 * 4294967296 + (digs r).getD ((digs r).length - 2) 0) / ((digs d).getD ((digs d).length - 1) 0 + 1)) * 4294967296 ^ ((digs r).length - (digs d).length - 1)
theorem top_split {v : Nat} {n : Nat} (h : (digs v).length = n + 1) : v = lv ((digs v).take n) + 4294967296 ^ n * (digs v).getD n 0 ∧ lv ((digs v).take n) < 4294967296 ^ n := by
  have h1 := lv_take_succ (l := digs v) (k := n) (by omega)
  rw [List.take_of_length_le (by omega), lv_digs] at h1
  exact ⟨h1, by have := lv_take_lt (limbs_digs v) n; rwa [← pow32] at this⟩
theorem estN_pos {r d : Nat} (hd : d ≠ 0) (h : d ≤ r) : 0 < estN r d ∧ estN r d * d ≤ r := by
  have hlen := digs_len_le' h
  have hdl : (digs d).length ≠ 0 := fun k => hd (digs_nil k)
  obtain ⟨m, hm⟩ : ∃ m, (digs d).length = m + 1 := ⟨(digs d).length - 1, by omega⟩
  obtain ⟨e, he⟩ : ∃ e, (digs r).length = m + 1 + e := ⟨(digs r).length - (m + 1), by omega⟩
  have hdt := getD_lt (limbs_digs d) m
  obtain ⟨d1, d2⟩ := top_split hm
  unfold estN
  rw [hm, he]
  simp only [Nat.add_sub_cancel] at *
  generalize hx : (digs d).getD m 0 = x at *
  generalize lv ((digs d).take m) = dl at *
  have hdlt : d < 4294967296 ^ m * (x + 1) := by rw [Nat.mul_add]; omega
  cases e with
  | zero =>
    rw [if_pos rfl]
    obtain ⟨r1, r2⟩ := top_split he
    simp only [Nat.add_zero, Nat.add_sub_cancel] at *
    generalize (digs r).getD m 0 = y at *
    generalize lv ((digs r).take m) = rl at *
    refine ⟨by omega, ?_⟩
    rcases Nat.eq_zero_or_pos (y / (x + 1)) with hq | hq
    · rw [hq]; simpa using h
    · rw [Nat.max_eq_right hq]
      have h1 : y / (x + 1) * d ≤ y / (x + 1) * (4294967296 ^ m * (x + 1)) := Nat.mul_le_mul_left _ (Nat.le_of_lt hdlt)
      have h2 : y / (x + 1) * (4294967296 ^ m * (x + 1)) = 4294967296 ^ m * (y / (x + 1) * (x + 1)) := by rw [Nat.mul_left_comm]
      have h3 : 4294967296 ^ m * (y / (x + 1) * (x + 1)) ≤ 4294967296 ^ m * y := Nat.mul_le_mul_left _ (Nat.div_mul_le_self _ _)
      omega
  | succ e =>
    rw [if_neg (by omega)]
    rw [show m + 1 + (e + 1) - 1 = m + e + 1 by omega, show m + 1 + (e + 1) - 2 = m + e by omega, show m + 1 + (e + 1) - (m + 1) - 1 = e by omega]
    obtain ⟨r1, r2⟩ := top_split (show (digs r).length = (m + e + 1) + 1 by omega)
    have r3 := lv_take_succ (l := digs r) (k := m + e) (by omega)
    have hy0 : (digs r).getD (m + e + 1) 0 ≠ 0 := by
      intro hy
      have := digs_len_le (n := r) (k := m + e + 1) (by rw [hy, Nat.mul_zero, Nat.add_zero] at r1; rw [r1]; exact r2)
      omega
    generalize (digs r).getD (m + e + 1) 0 = y at *
    generalize (digs r).getD (m + e) 0 = y2 at *
    rw [r3] at r1
    generalize lv ((digs r).take (m + e)) = rl at *
    have hqp : 0 < (y * 4294967296 + y2) / (x + 1) := Nat.div_pos (by omega) (by omega)
    have hle := Nat.div_mul_le_self (y * 4294967296 + y2) (x + 1)
    generalize (y * 4294967296 + y2) / (x + 1) = q at *
    refine ⟨Nat.mul_pos hqp (Nat.pow_pos (by decide)), ?_⟩
    have h1 : q * 4294967296 ^ e * d ≤ q * 4294967296 ^ e * (4294967296 ^ m * (x + 1)) := Nat.mul_le_mul_left _ (Nat.le_of_lt hdlt)
    have h2 : q * 4294967296 ^ e * (4294967296 ^ m * (x + 1)) = 4294967296 ^ (m + e) * (q * (x + 1)) := by
      rw [Nat.pow_add]; ac_rfl
    have h3 : 4294967296 ^ (m + e) * (q * (x + 1)) ≤ 4294967296 ^ (m + e) * (y * 4294967296 + y2) := Nat.mul_le_mul_left _ hle
    have h4 : 4294967296 ^ (m + e + 1) * y = 4294967296 ^ (m + e) * (y * 4294967296) := by rw [Nat.pow_succ]; ac_rfl
    rw [Nat.mul_add (4294967296 ^ (m + e)) (y * 4294967296) y2] at h3
    rw [h4] at r1
    rw [h2] at h1
    generalize 4294967296 ^ (m + e) * (y * 4294967296) = z1 at *
    generalize 4294967296 ^ (m + e) * y2 = z2 at *
    refine Nat.le_trans h1 (Nat.le_trans h3 ?_)
    rw [r1]
    exact Nat.le_trans (Nat.add_comm z1 z2 ▸ Nat.le_refl _) (Nat.add_le_add_right (Nat.le_add_left _ _) _)
end Tor
end
section
namespace Tor
open Go Go.RowKit Go.Proofs
theorem two_lit (a b : Nat) : VT.le (slT .one 2 (fun q => [one (.int .u32 (b : Int)), one (.int .u32 (a : Int))].reverse.getD q anyT)) (slT .one 2 (fun q => one (.int .u32 (([a, b].getD q 0 : Nat) : Int)))) :=
  slT_le' rfl (fun q hq => by
    match q, hq with
    | 0, _ => rfl
    | 1, _ => rfl)
theorem est_le {k q : Nat} (hq : q < 18446744073709551616) (hk : k ≤ 1099511627776) : VT.le (slT .one (k + 2) (fun p => if p < k then one (.int .u32 0) else (fun j => one (.int .u32 (([q % 4294967296, q / 4294967296 % 4294967296].getD j 0 : Nat) : Int))) (p - k))) (natS (q * 4294967296 ^ k)) :=
  VT.le_trans (slT_le' (m := (List.replicate k 0 ++ [q % 4294967296, q / 4294967296 % 4294967296]).length) (ψ := limF (List.replicate k 0 ++ [q % 4294967296, q / 4294967296 % 4294967296])) (by simp) (fun p hp => by
    unfold limF
    by_cases h : p < k
    · rw [if_pos h]; simp [List.getD, List.getElem?_append, h]
    · rw [if_neg h]; simp only [List.getD, List.getElem?_append, List.length_replicate, if_neg h])) (natS_of (fun d hd => by
      rcases List.mem_append.1 hd with h | h
      · rw [(List.mem_replicate.1 h).2]; decide
      · rcases List.mem_cons.1 h with rfl | h
        · exact Nat.mod_lt _ (by decide)
        · rw [List.mem_singleton.1 h]; exact Nat.mod_lt _ (by decide)) (by
      rw [lv_append, lv_replicate, List.length_replicate, Nat.zero_add, Nat.mul_comm]
      congr 1
      simp only [lv]
      omega) (by simp; omega))
attribute [local irreducible] Tor.J Tor.PJ Tor.StepO Tor.one Tor.slT Tor.ptrT Tor.aggT Tor.tupT Tor.exT Tor.andT Tor.eP Tor.boxO Tor.sliO Tor.slV Tor.VT.le Tor.Ret Tor.anyT
set_option maxHeartbeats 4000000 in
theorem estimate_ok (r d : Nat) (hd : d ≠ 0) (h : d ≤ r) (hl : (digs r).length ≤ 1099511627776) : Ok Tryz.prog 132 [limT (digs r), limT (digs d)] (bigT ((estN r d : Nat) : Int)) := by
  have hlen := digs_len_le' h
  have hdl : (digs d).length ≠ 0 := fun k => hd (digs_nil k)
  have hx := getD_lt (limbs_digs d) ((digs d).length - 1)
  have hy := getD_lt (limbs_digs r) ((digs r).length - 1)
  have hz := getD_lt (limbs_digs r) ((digs r).length - 2)
  unfold estN
  refine Ok.enter Tryz.func132 rfl Tryz.ntmps132 rfl (fun w O => ?_)
  by_cases hk : (digs r).length = (digs d).length
  · rw [if_pos hk]
    refine J_seq (J_reg ?_)
    refine a_alloc (T := 43) rfl (ltN rfl) (fun b4 => ?_)
    refine Run.nil (pj_then (J_seq (J_regd 17 mixed (by kernel_rfl) (by decide) (st (s_move rfl) rfl (st (s_len rfl) rfl (st (s_move rfl) rfl (st (s_len rfl) rfl (st (s_subN _ _ rfl rfl (by omega) (by omega)) rfl (st (s_move rfl) rfl ?_)))))))))
    refine st (s_len rfl) rfl (st (s_move rfl) rfl (st (s_move rfl) rfl (st (s_len rfl) rfl (st (s_subN _ 1 rfl rfl (by omega) (by omega)) rfl (st (s_indexIN rfl rfl (by omega)) rfl (st (s_load rfl) rfl (st (s_toU64 rfl (by omega)) rfl (st (s_addU (b := 1) rfl rfl (by omega)) rfl (st (s_assign rfl) rfl ?_)))))))))
    refine st (s_assign rfl) rfl (Run.nil (st (s_assign rfl) rfl (Run.nil (pj_then (J_seq (J_seq (J_reg (st (s_move rfl) rfl (st (sT (by omega) (s_eq rfl rfl)) rfl ?_)))))))))
    refine Run.nil (pj_then (J_cond1 rfl (J_seq (J_reg (st (s_move rfl) rfl (st (s_move rfl) rfl (st (s_subN _ 1 rfl rfl (by omega) (by omega)) rfl (st (s_indexIN rfl rfl (by omega)) rfl (st (s_load rfl) rfl ?_)))))))))
    refine st (s_toU64 rfl (by omega)) rfl (st (s_move rfl) rfl (st (s_quoU rfl rfl (by omega) (by omega)) rfl (st (s_max rfl rfl) rfl ?_)))
    have hq := Nat.div_le_self ((digs r).getD ((digs r).length - 1) 0) ((digs d).getD ((digs d).length - 1) 0 + 1)
    generalize (digs r).getD ((digs r).length - 1) 0 / ((digs d).getD ((digs d).length - 1) 0 + 1) = q at *
    refine st (s_toI64 rfl (by omega) (by omega)) rfl ?_
    refine st (s_callk (rOf_ok _ (by omega) (by omega)) rfl ⟨VT.le_refl _, trivial⟩) rfl ?_
    refine a_storeB 0 rfl rfl rfl rfl rfl (leN rfl) rfl (Run.nil (pj_then (J_ret (pr_then ?_))))
    refine retc1 Tryz.results132 (.cellB 0 rfl rfl rfl (bigT_eq (by omega)))
  · rw [if_neg hk]
    refine J_seq (J_reg ?_)
    refine a_alloc (T := 43) rfl (ltN rfl) (fun b4 => ?_)
    refine Run.nil (pj_then (J_seq (J_regd 17 mixed (by kernel_rfl) (by decide) (st (s_move rfl) rfl (st (s_len rfl) rfl (st (s_move rfl) rfl (st (s_len rfl) rfl (st (s_subN _ _ rfl rfl (by omega) (by omega)) rfl (st (s_move rfl) rfl ?_)))))))))
    refine st (s_len rfl) rfl (st (s_move rfl) rfl (st (s_move rfl) rfl (st (s_len rfl) rfl (st (s_subN _ 1 rfl rfl (by omega) (by omega)) rfl (st (s_indexIN rfl rfl (by omega)) rfl (st (s_load rfl) rfl (st (s_toU64 rfl (by omega)) rfl (st (s_addU (b := 1) rfl rfl (by omega)) rfl (st (s_assign rfl) rfl ?_)))))))))
    refine st (s_assign rfl) rfl (Run.nil (st (s_assign rfl) rfl (Run.nil (pj_then (J_seq (J_seq (J_reg (st (s_move rfl) rfl (st (sF (by omega) (s_eq rfl rfl)) rfl ?_)))))))))
    refine Run.nil (pj_then (J_cond0 rfl (J_skip (pj_then (J_seq (J_regd 16 mixed (by kernel_rfl) (by decide) (st (s_move rfl) rfl (st (s_move rfl) rfl (st (s_subN _ 1 rfl rfl (by omega) (by omega)) rfl ?_)))))))))
    refine st (s_indexIN rfl rfl (by omega)) rfl (st (s_load rfl) rfl (st (s_toU64 rfl (by omega)) rfl (st (s_mulU (b := 4294967296) rfl rfl (by omega)) rfl (st (s_move rfl) rfl (st (s_move rfl) rfl (st (s_subN _ 2 rfl rfl (by omega) (by omega)) rfl (st (s_indexIN rfl rfl (by omega)) rfl (st (s_load rfl) rfl (st (s_toU64 rfl (by omega)) rfl ?_)))))))))
    refine st (s_addU rfl rfl (by omega)) rfl (st (s_move rfl) rfl (st (s_quoU rfl rfl (by omega) (by omega)) rfl (Run.nil (st (s_assign rfl) rfl (Run.nil (pj_then (J_seq (J_reg (st (s_move rfl) rfl ?_)))))))))
    refine st (s_subN _ 1 rfl rfl (by omega) (by omega)) rfl ?_
    have hq := Nat.div_le_self ((digs r).getD ((digs r).length - 1) 0 * 4294967296 + (digs r).getD ((digs r).length - 2) 0) ((digs d).getD ((digs d).length - 1) 0 + 1)
    generalize ((digs r).getD ((digs r).length - 1) 0 * 4294967296 + (digs r).getD ((digs r).length - 2) 0) / ((digs d).getD ((digs d).length - 1) 0 + 1) = q at *
    obtain ⟨k, hkk⟩ : ∃ k, k = (digs r).length - (digs d).length - 1 := ⟨_, rfl⟩
    rw [← hkk]
    refine a_makeSlice k k rfl rfl rfl rfl (Nat.le_refl _) rfl rfl (by omega) rfl rfl (fun bz => ?_)
    refine st (s_assign rfl) rfl (Run.nil (pj_then (J_seq (J_reg (st (s_move rfl) rfl (st (s_move rfl) rfl (st (s_toU32 rfl) rfl (st (s_move rfl) rfl (st (s_shr32 rfl) rfl ?_)))))))))
    refine st (s_toU32 rfl) rfl (stS rfl rfl rfl rfl (PartsK.cons rfl (PartsK.cons rfl (PartsK.nil (Run_retype (t := 63) rfl (two_lit _ _) ?_)))))
    (refine a_append 0 rfl rfl rfl (leN rfl) ?_ ?_ rfl (ltN rfl) (fun sv64 cap64 => ?_); omega; omega)
    refine Run_freeze (t := 64) (j := 0) rfl rfl ?_
    have hq64 : q < 18446744073709551616 := by omega
    have hmd := rMade_ok false (q * 4294967296 ^ k)
    rw [if_neg (by decide)] at hmd
    refine st (s_callk (hmd ) rfl ⟨(est_le hq64 (by omega)), VT.le_refl _, trivial⟩) rfl ?_
    refine a_storeB 0 rfl rfl rfl rfl rfl (leN rfl) rfl (Run.nil (pj_then (J_ret ?_)))
    refine retc1 Tryz.results132 (.cellB 0 rfl rfl rfl (bigT_eq (by rw [hkk])))
theorem one_natS {d : Nat} (hd : d < 4294967296) : VT.le (slT .one 1 fun _ => one (.int .u32 (d : Int))) (natS d) :=
  VT.le_trans (slT_le' (m := [d].length) (ψ := limF [d]) rfl (fun q hq => by
    have hq : q = 0 := by omega
    subst hq; rfl)) (natS_of (fun x hx => by rw [List.mem_singleton.1 hx]; exact hd) (by simp [lv]) (by simp))
theorem topd_pos {b : Nat} (hb : b ≠ 0) : 0 < (digs b).getD ((digs b).length - 1) 0 := by
  have hdl : (digs b).length ≠ 0 := fun k => hb (digs_nil k)
  obtain ⟨m, hm⟩ : ∃ m, (digs b).length = m + 1 := ⟨(digs b).length - 1, by omega⟩
  obtain ⟨d1, d2⟩ := top_split hm
  rw [hm, Nat.add_sub_cancel]
  rcases Nat.eq_zero_or_pos ((digs b).getD m 0) with h | h
  · rw [h, Nat.mul_zero, Nat.add_zero] at d1
    have := digs_len_le (n := b) (k := m) (by rw [d1]; exact d2)
    omega
  · exact h
theorem scaled_len {a s : Nat} (hs : s < 4294967296) : (digs (a * s)).length ≤ (digs a).length + 1 := digs_len_le (by
  rw [Nat.pow_succ]
  have h1 := lt_of_digs_len a
  rcases Nat.eq_zero_or_pos s with h | h
  · subst h; rw [Nat.mul_zero]; exact Nat.mul_pos (Nat.pow_pos (by decide)) (by decide)
  · exact Nat.mul_lt_mul'' h1 hs)
theorem scaled {a b s q r : Nat} (hs : 0 < s) (hb : 0 < b) (h : q * (b * s) + r = a * s) (hr : r < b * s) : q = a / b ∧ r / s = a % b := by
  have h1 : (a * s) / (b * s) = q := by rw [← h, Nat.mul_comm q, Nat.mul_add_div (by omega), Nat.div_eq_of_lt hr, Nat.add_zero]
  have h2 : (a * s) % (b * s) = r := by rw [← h, Nat.mul_comm q, Nat.mul_add_mod, Nat.mod_eq_of_lt hr]
  rw [Nat.mul_div_mul_right _ _ hs] at h1
  rw [Nat.mul_mod_mul_right] at h2
  exact ⟨h1.symm, by rw [← h2, Nat.mul_div_cancel _ hs]⟩
set_option maxHeartbeats 4000000 in
theorem rdivide_ok (a b : Nat) (hb : b ≠ 0) (ha : (digs a).length ≤ 1099511627700) (hbl : (digs b).length ≤ 1099511627700) : Ok Tryz.prog 125 [limT (digs a), limT (digs b)] (tupT [bigT ((a / b : Nat) : Int), bigT ((a % b : Nat) : Int)]) := by
  have hbp : 0 < b := by omega
  have hdl : (digs b).length ≠ 0 := fun k => hb (digs_nil k)
  refine Ok.enter Tryz.func125 rfl Tryz.ntmps125 rfl (fun w O => ?_)
  by_cases h1 : (digs b).length = 1
  · have hb1 := one_limb h1
    have hd := getD_lt (limbs_digs b) 0
    have hsh := rshort_ok (digs a) b (limbs_digs a) (by omega) (by omega) (by omega)
    rw [lv_digs] at hsh
    have hr := Nat.mod_lt a hbp
    have hm1 := rMade_ok false (a / b)
    have hm2 := rMade_ok false (a % b)
    rw [if_neg (by decide)] at hm1 hm2
    refine J_seq (J_reg ?_)
    refine a_alloc (T := 43) rfl (ltN rfl) (fun b4 => ?_)
    refine a_alloc (T := 43) rfl (ltN rfl) (fun b5 => ?_)
    refine Run.nil (pj_then (J_seq (J_seq (J_reg (st (s_move rfl) rfl (st (s_len rfl) rfl (st (sT (by omega) (s_eq rfl rfl)) rfl (Run.nil (pj_then ?_)))))))))
    refine J_cond1 rfl (J_seq (J_reg (st (s_move rfl) rfl (st (s_move rfl) rfl (st (s_indexI rfl rfl (by omega) (by omega)) rfl (st (s_load rfl) rfl ?_))))))
    refine st (s_callk (hsh ) rfl ⟨VT.le_refl _, (one_le (by rw [show (digs b).getD (Int.toNat 0) 0 = b from hb1])), trivial⟩) rfl ?_
    refine st (s_move rfl) rfl (st (s_extract rfl rfl) rfl (st (s_extract rfl rfl) rfl (st (s_assign rfl) rfl (st (s_assign rfl) rfl (Run.nil (pj_then (J_seq (J_reg (st (s_move rfl) rfl ?_)))))))))
    refine st (s_callk (hm1 ) rfl ⟨VT.le_refl _, VT.le_refl _, trivial⟩) rfl ?_
    refine st (s_move rfl) rfl (stS1 rfl rfl rfl rfl ?_)
    refine st (s_callk (hm2 ) rfl ⟨(one_natS (by omega)), VT.le_refl _, trivial⟩) rfl ?_
    refine a_storeB 1 rfl rfl rfl rfl rfl (leN rfl) rfl (a_storeB 0 rfl rfl rfl rfl rfl (leN rfl) rfl (Run.nil (pj_then (J_ret (pr_then ?_)))))
    refine retc2 Tryz.results125 (.cellB 1 rfl rfl rfl (VT.le_refl _)) (.cellB 0 rfl rfl rfl (VT.le_refl _))
  · have hx := getD_lt (limbs_digs b) ((digs b).length - 1)
    have hx0 := topd_pos hb
    refine J_seq (J_reg ?_)
    refine a_alloc (T := 43) rfl (ltN rfl) (fun b4 => ?_)
    refine a_alloc (T := 43) rfl (ltN rfl) (fun b5 => ?_)
    refine Run.nil (pj_then (J_seq (J_seq (J_reg (st (s_move rfl) rfl (st (s_len rfl) rfl (st (sF (by omega) (s_eq rfl rfl)) rfl (Run.nil (pj_then ?_)))))))))
    refine J_cond0 rfl (J_skip (pj_then (J_seq (J_reg (st (s_assign rfl) rfl (Run.nil (pj_then (J_seq (J_block ?_)))))))))
    refine J_sub (Γ' := [(0, _), (1, _), (4, _), (5, _), (8, _)]) (SubG.cons rfl (VT.le_refl _) (SubG.cons rfl (VT.le_refl _) (SubG.cons rfl (VT.le_refl _) (SubG.cons rfl (VT.le_refl _) (SubG.cons rfl (VT.le_refl _) (SubG.nil)))))) (SubM.refl _) ?_
    refine J_loopA (σ := Nat) (Γk := [(0, _), (1, _), (4, _), (5, _)]) (SubG.cons rfl (VT.le_refl _) (SubG.cons rfl (VT.le_refl _) (SubG.cons rfl (VT.le_refl _) (SubG.cons rfl (VT.le_refl _) (SubG.nil))))) (fun s => [(8, one (.int .u32 (s : Nat)))]) (fun s M0 => M0) (fun s => 0 < s ∧ s < 4294967296) (fun s => 4294967296 - s) (1) (⟨by decide, by decide⟩) (by repeat (first | exact SubG.refl _ | exact SubG.nil | refine SubG.cons rfl (VT.le_refl _) ?_ | (refine SubG.cons rfl (one_le ?_) ?_; (congr 1; first | omega | (simp; omega) | simp)))) (.keep (Own.le_refl _) (.keep (Own.le_refl _) (.nil))) (fun s hs => ?_)
    refine J_norm (Γ' := [(8, _), (0, _), (1, _), (4, _), (5, _)]) (M' := [_, _]) rfl rfl ?_
    obtain ⟨s0, s1⟩ := hs
    have hb1 := Nat.mul_le_mul (show (digs b).getD ((digs b).length - 1) 0 ≤ 4294967295 by omega) (show s ≤ 4294967295 by omega)
    have hb2 := Nat.mul_le_mul_right s hx0
    by_cases hc : (digs b).getD ((digs b).length - 1) 0 * s < 2147483648
    · refine J_seq (J_seq (J_reg (st (s_move rfl) rfl (st (s_move rfl) rfl (st (s_len rfl) rfl (st (s_subN _ 1 rfl rfl (by omega) (by omega)) rfl (st (s_indexIN rfl rfl (by omega)) rfl (st (s_load rfl) rfl (st (s_toU64 rfl (by omega)) rfl ?_)))))))))
      refine st (s_move rfl) rfl (st (s_toU64 rfl (by omega)) rfl (st (s_mulU rfl rfl (by omega)) rfl (st (sT (by omega) (s_lt rfl rfl)) rfl (Run.nil (pj_then (J_cond1 rfl (J_skip (pj_then (J_block ?_)))))))))
      refine J_reg (st (s_move rfl) rfl (st (s_mulW (a := 2) rfl rfl (by omega)) rfl (st (s_assign rfl) rfl (Run.nil (pn_block ?_)))))
      refine pj_roundM (2 * s) (⟨by omega, by omega⟩) (by omega) (by repeat (first | exact SubG.refl _ | exact SubG.nil | refine SubG.cons rfl (VT.le_refl _) ?_ | (refine SubG.cons rfl (one_le ?_) ?_; (congr 1; first | omega | (simp; omega) | simp)))) (.keep (Own.le_refl _) (.keep (Own.le_refl _) (.nil)))
    · have hma := rMade_ok false a
      have hmb := rMade_ok false b
      have hms := rMade_ok false s
      rw [if_neg (by decide)] at hma hmb hms
      have la := scaled_len (a := a) s1
      have lb := scaled_len (a := b) s1
      have ls : small ((s : Nat) : Int) := small_lt (by rw [Int.natAbs_natCast]; exact Nat.lt_trans s1 (by decide +kernel))
      have hMa := rMulI_ok (a : Int) (s : Int) (show (digs a).length ≤ _ by omega) ls
      have hMb := rMulI_ok (b : Int) (s : Int) (show (digs b).length ≤ _ by omega) ls
      rw [← Int.natCast_mul] at hMa hMb
      refine J_seq (J_seq (J_reg (st (s_move rfl) rfl (st (s_move rfl) rfl (st (s_len rfl) rfl (st (s_subN _ 1 rfl rfl (by omega) (by omega)) rfl (st (s_indexIN rfl rfl (by omega)) rfl (st (s_load rfl) rfl (st (s_toU64 rfl (by omega)) rfl ?_)))))))))
      refine st (s_move rfl) rfl (st (s_toU64 rfl (by omega)) rfl (st (s_mulU rfl rfl (by omega)) rfl (st (sF (by omega) (s_lt rfl rfl)) rfl (Run.nil (pj_then (J_cond0 rfl (J_exit (px_then (px_then ?_)))))))))
      refine px_block (pj_then (J_seq (J_reg (st (s_move rfl) rfl (stS1 rfl rfl rfl rfl ?_)))))
      refine st (s_callk (hms ) rfl ⟨(one_natS s1), VT.le_refl _, trivial⟩) rfl ?_
      refine a_alloc (T := 43) rfl (ltN rfl) (fun b9 => ?_)
      refine a_storeB 0 rfl rfl rfl rfl rfl (leN rfl) rfl (Run.nil (pj_then (J_seq ?_)))
      refine J_regU2 mixed (by kernel_rfl) (by kernel_rfl) ?_
      refine ux (fun B => s_move rfl) rfl rfl ?_
      refine uxk (hma ) rfl ⟨(natS_digs (by omega)), VT.le_refl _, trivial⟩ rfl ?_
      refine ux (fun B => s_loadB 0 rfl rfl rfl) rfl rfl ?_
      refine uxk (hMa ) rfl ⟨VT.le_refl _, VT.le_refl _, trivial⟩ rfl ?_
      refine ux (fun B => s_move rfl) rfl rfl ?_
      refine uxk (hmb ) rfl ⟨(natS_digs (by omega)), VT.le_refl _, trivial⟩ rfl ?_
      refine ux (fun B => s_loadB 0 rfl rfl rfl) rfl rfl ?_
      refine uxk (hMb ) rfl ⟨VT.le_refl _, VT.le_refl _, trivial⟩ rfl ?_
      refine uB rfl rfl rfl (BuildK.nil (ua rfl (ua rfl (ua rfl (us rfl (us rfl (us rfl ?_)))))))
      refine RunU.nil (fun γ => ?_)
      refine PJ_normM (M' := [_, _, _, _, _, _]) rfl (PJ_sub (SubG.refl _) (.keep box_flat (.keep (Own.le_refl _) (.keep (Own.le_refl _) (SubM.refl _)))) (pj_then (J_seq (J_block ?_))))
      have hbs : 0 < b * s := Nat.mul_pos hbp s0
      refine J_sub (Γ' := [(4, _), (5, _), (8, _), (10, _), (11, _), (12, _)]) (SubG.cons rfl (VT.le_refl _) (SubG.cons rfl (VT.le_refl _) (SubG.cons rfl (VT.le_refl _) (SubG.cons rfl (VT.le_refl _) (SubG.cons rfl (VT.le_refl _) (SubG.cons rfl (VT.le_refl _) (SubG.nil))))))) (SubM.refl _) ?_
      refine J_loopA (σ := Nat × Nat) (Γk := [(4, _), (5, _), (8, _), (10, _), (11, _), (12, _)]) (SubG.cons rfl (VT.le_refl _) (SubG.cons rfl (VT.le_refl _) (SubG.cons rfl (VT.le_refl _) (SubG.cons rfl (VT.le_refl _) (SubG.cons rfl (VT.le_refl _) (SubG.cons rfl (VT.le_refl _) (SubG.nil))))))) (fun p => []) (fun p M0 => ((M0.set 0 (boxO (γ 12) 43 (Lay.agg 2).sz [(0, Lay.agg 2, bigT (p.1 : Int))])).set 2 (boxO (γ 10) 43 (Lay.agg 2).sz [(0, Lay.agg 2, bigT (p.2 : Int))]))) (fun p => p.1 * (b * s) + p.2 = a * s) (fun p => p.2) ((0, a * s)) ((by simp)) (by repeat (first | exact SubG.refl _ | exact SubG.nil | refine SubG.cons rfl (VT.le_refl _) ?_ | (refine SubG.cons rfl (one_le ?_) ?_; (congr 1; first | omega | (simp; omega) | simp)))) (.keep (box_agg bigT_zero) (.keep (Own.le_refl _) (.keep (Own.le_refl _) (.keep (Own.le_refl _) (.keep (Own.le_refl _) (.keep (Own.le_refl _) (.nil))))))) (fun p hp => ?_)
      refine J_norm (Γ' := [(4, _), (5, _), (8, _), (10, _), (11, _), (12, _)]) (M' := [_, _, _, _, _, _]) rfl rfl ?_
      obtain ⟨q, r⟩ := p
      dsimp only at hp ⊢
      have hle := rless_ok r (b * s)
      by_cases hr : r < b * s
      · obtain ⟨f1, f2⟩ := scaled s0 hbp hp hr
        have lr : (digs r).length ≤ 1099511627776 := by
          have := digs_len_le' (show r ≤ a * s by omega)
          omega
        have hsh := rshort_ok (digs r) s (limbs_digs r) lr s0 s1
        rw [lv_digs, f2] at hsh
        have hm2 := rMade_ok false (a % b)
        rw [if_neg (by decide)] at hm2
        refine J_seq (J_seq (J_reg (st (s_fieldAddr rfl) rfl (st (s_loadBP 2 0 1 rfl rfl rfl rfl rfl) rfl (st (s_fieldAddr rfl) rfl (st (s_loadBP 1 0 1 rfl rfl rfl rfl rfl) rfl ?_))))))
        refine st (sT (by assumption) (s_callk (hle ) rfl ⟨VT.le_refl _, VT.le_refl _, trivial⟩)) rfl ?_
        refine st (s_not rfl) rfl (Run.nil (pj_then (J_cond0 rfl (J_exit (px_then (px_then (px_block (pj_then (J_seq ?_)))))))))
        refine J_reg (st (s_fieldAddr rfl) rfl (st (s_loadBP 2 0 1 rfl rfl rfl rfl rfl) rfl (st (s_move rfl) rfl ?_)))
        refine st (s_callk (hsh ) rfl ⟨VT.le_refl _, VT.le_refl _, trivial⟩) rfl ?_
        refine st (s_move rfl) rfl (st (s_extract rfl rfl) rfl (st (s_extract rfl rfl) rfl (st (s_assign rfl) rfl (st (s_assign rfl) rfl (Run.nil (pj_then (J_seq (J_regdT 3 mixed (by kernel_rfl) (by decide) (st (s_loadB 0 rfl rfl rfl) rfl ?_)))))))))
        refine st (s_move rfl) rfl ?_
        refine st (s_callk (hm2 ) rfl ⟨VT.le_refl _, VT.le_refl _, trivial⟩) rfl ?_
        refine Run.nil (a_storeB 5 rfl rfl rfl rfl rfl (leN rfl) rfl (a_storeB 4 rfl rfl rfl rfl rfl (leN rfl) rfl (Run.nil (pj_then (J_ret ?_)))))
        refine retc2 Tryz.results125 (.cellB 5 rfl rfl rfl (bigT_eq (by rw [f1]))) (.cellB 4 rfl rfl rfl (VT.le_refl _))
      · have lr : (digs r).length ≤ 1099511627776 := by
          have := digs_len_le' (show r ≤ a * s by omega)
          omega
        obtain ⟨e0, e1⟩ := estN_pos (show b * s ≠ 0 by omega) (Nat.le_of_not_lt hr)
        have hes := estimate_ok r (b * s) (by omega) (Nat.le_of_not_lt hr) lr
        generalize estN r (b * s) = e at *
        have hq0 : q ≤ q * (b * s) := Nat.le_mul_of_pos_right _ hbs
        have he0 : e ≤ e * (b * s) := Nat.le_mul_of_pos_right _ hbs
        have le0 : small (e : Int) := Nat.le_trans (digs_len_le' (show (e : Int).natAbs ≤ r by omega)) lr
        have lq0 : small (q : Int) := Nat.le_trans (digs_len_le' (show (q : Int).natAbs ≤ a * s by omega)) (by omega)
        have lbs : small ((b * s : Nat) : Int) := Nat.le_trans (digs_len_le' (show ((b * s : Nat) : Int).natAbs ≤ b * s by omega)) (by omega)
        have lrs : small (r : Int) := Nat.le_trans (digs_len_le' (show (r : Int).natAbs ≤ r by omega)) lr
        have les : small ((e * (b * s) : Nat) : Int) := Nat.le_trans (digs_len_le' (show ((e * (b * s) : Nat) : Int).natAbs ≤ r by omega)) lr
        have hmu := rMulI_ok (e : Int) ((b * s : Nat) : Int) le0 lbs
        rw [← Int.natCast_mul] at hmu
        have hsu := rSubI_ok (r : Int) ((e * (b * s) : Nat) : Int) lrs les
        rw [← Int.ofNat_sub e1] at hsu
        have had := rAddI_ok (q : Int) (e : Int) lq0 le0
        rw [← Int.natCast_add] at had
        refine J_seq (J_seq (J_reg (st (s_fieldAddr rfl) rfl (st (s_loadBP 2 0 1 rfl rfl rfl rfl rfl) rfl (st (s_fieldAddr rfl) rfl (st (s_loadBP 1 0 1 rfl rfl rfl rfl rfl) rfl ?_))))))
        refine st (sF (by assumption) (s_callk (hle ) rfl ⟨VT.le_refl _, VT.le_refl _, trivial⟩)) rfl ?_
        refine st (s_not rfl) rfl (Run.nil (pj_then (J_cond1 rfl (J_skip (pj_then (J_block (J_seq (J_reg (st (s_fieldAddr rfl) rfl ?_)))))))))
        refine st (s_loadBP 2 0 1 rfl rfl rfl rfl rfl) rfl (st (s_fieldAddr rfl) rfl (st (s_loadBP 1 0 1 rfl rfl rfl rfl rfl) rfl ?_))
        refine st (s_callk (hes ) rfl ⟨VT.le_refl _, VT.le_refl _, trivial⟩) rfl ?_
        refine a_alloc (T := 43) rfl (ltN rfl) (fun b13 => ?_)
        refine a_storeB 0 rfl rfl rfl rfl rfl (leN rfl) rfl (Run.nil (pj_then (J_seq (J_reg (st (s_loadB 1 rfl rfl rfl) rfl (st (s_loadB 0 rfl rfl rfl) rfl ?_))))))
        refine st (s_callk (had ) rfl ⟨VT.le_refl _, VT.le_refl _, trivial⟩) rfl ?_
        refine a_storeB 1 rfl rfl rfl rfl rfl (leN rfl) rfl (Run.nil (pj_then (J_regd 5 mixed (by kernel_rfl) (by decide) (st (s_loadB 3 rfl rfl rfl) rfl (st (s_loadB 0 rfl rfl rfl) rfl (st (s_loadB 2 rfl rfl rfl) rfl ?_))))))
        refine st (s_callk (hmu ) rfl ⟨VT.le_refl _, VT.le_refl _, trivial⟩) rfl ?_
        refine st (s_callk (hsu ) rfl ⟨VT.le_refl _, VT.le_refl _, trivial⟩) rfl ?_
        refine Run.nil (a_storeB 3 rfl rfl rfl rfl rfl (leN rfl) rfl (Run.nil (pn_block ?_)))
        refine pj_roundM ((q + e, r - e * (b * s))) ((by dsimp only; rw [Nat.add_mul]; omega)) (by omega) (by repeat (first | exact SubG.refl _ | exact SubG.nil | refine SubG.cons rfl (VT.le_refl _) ?_ | (refine SubG.cons rfl (one_le ?_) ?_; (congr 1; first | omega | (simp; omega) | simp)))) (.drop (.keep (Own.le_refl _) (.keep (Own.le_refl _) (.keep (Own.le_refl _) (.keep (Own.le_refl _) (.keep (Own.le_refl _) (.keep (Own.le_refl _) (.nil))))))))
end Tor
end
section
namespace Tor
open Go Go.RowKit Go.Proofs
def small0 (x : Int) : Prop := (digs x.natAbs).length ≤ 1099511627700
theorem small0_lt {x : Int} (h : x.natAbs < 2 ^ 2048) : small0 x := by
  have : (digs x.natAbs).length ≤ 64 := digs_len_le (Nat.lt_of_lt_of_le h (by decide +kernel))
  unfold small0; omega
theorem small0.small {x : Int} (h : small0 x) : small x := by unfold small0 at h; unfold Tor.small; omega
theorem small0_abs {x y : Int} (h : small0 y) (hl : x.natAbs ≤ y.natAbs) : small0 x := Nat.le_trans (digs_len_le' hl) h
theorem small_abs' {x y : Int} (h : small y) (hl : x.natAbs ≤ y.natAbs) : small x := Nat.le_trans (digs_len_le' hl) h
theorem digs_len_succ (n : Nat) : (digs (n + 1)).length ≤ (digs n).length + 1 := digs_len_le (by
  have h := lt_of_digs_len n
  rw [Nat.pow_succ]
  have h0 : 0 < 4294967296 ^ (digs n).length := Nat.pow_pos (by decide)
  generalize 4294967296 ^ (digs n).length = z at *
  omega)
theorem gcd_step (x y : Int) : Nat.gcd y.natAbs (x % y).natAbs = Nat.gcd x.natAbs y.natAbs := by
  have h : Int.gcd y (x % y) = Int.gcd y x := by rw [Int.emod_def]; exact Int.gcd_sub_mul_left_right y x (x / y)
  rw [Nat.gcd_comm x.natAbs]; exact h
theorem emod_abs_lt (x : Int) {y : Int} (hy : y ≠ 0) : (x % y).natAbs < y.natAbs := by
  have h1 := Int.emod_nonneg x hy
  have h2 := Int.emod_lt x hy
  omega
attribute [local irreducible] Tor.J Tor.PJ Tor.StepO Tor.one Tor.slT Tor.ptrT Tor.aggT Tor.tupT Tor.exT Tor.andT Tor.eP Tor.boxO Tor.sliO Tor.slV Tor.VT.le Tor.Ret Tor.anyT
theorem rMadeI_ok (x : Int) : Ok Tryz.prog 75 [natS x.natAbs, one (.bool (decide (x < 0)))] (bigT x) := by
  have h := rMade_ok (decide (x < 0)) x.natAbs
  have e : (if decide (x < 0) = true then -(x.natAbs : Int) else (x.natAbs : Int)) = x := by
    by_cases hx : x < 0
    · rw [if_pos (by simpa using hx)]; omega
    · rw [if_neg (by simpa using hx)]; omega
  rw [e] at h
  exact h
set_option maxHeartbeats 4000000 in
set_option maxRecDepth 20000 in
theorem rDivMod_ok (a b : Int) (hb : b ≠ 0) (ha : small0 a) (hbs : small0 b) : Ok Tryz.prog 114 [bigT a, bigT b] (tupT [bigT (a / b), bigT (a % b), one (.int .i64 0)]) := by
  obtain ⟨g1, g2, g3⟩ := dm_spec (a := a) hb
  have hB : b.natAbs ≠ 0 := by omega
  have ha' : (digs a.natAbs).length ≤ 1099511627700 := ha
  have hb' : (digs b.natAbs).length ≤ 1099511627700 := hbs
  have hdiv := rdivide_ok a.natAbs b.natAbs hB ha' hb'
  have hlt := Nat.mod_lt a.natAbs (Nat.pos_of_ne_zero hB)
  have hql := Nat.div_le_self a.natAbs b.natAbs
  have hma := rMadeI_ok a
  have hmb := rMadeI_ok b
  have hsb : sgnI b ≠ 0 := by unfold sgnI; rw [if_neg hb]; split <;> decide
  have hmb2 := rMade_ok false b.natAbs
  rw [if_neg (by decide)] at hmb2
  have hsg := rSignI_ok ((a.natAbs % b.natAbs : Nat) : Int)
  have hof := rOf_ok 1 (by decide) (by decide)
  have sq : small ((a.natAbs / b.natAbs : Nat) : Int) := small_abs' ha.small (by rw [Int.natAbs_natCast]; exact hql)
  have s1 : small 1 := small_lt (by decide +kernel)
  have had := rAddI_ok ((a.natAbs / b.natAbs : Nat) : Int) 1 sq s1
  have hsu := rSubI_ok (b.natAbs : Int) ((a.natAbs % b.natAbs : Nat) : Int) (small_abs' hbs.small (by omega)) (small_abs' hbs.small (by rw [Int.natAbs_natCast]; exact Nat.le_of_lt hlt))
  have hsu2 := rSubI_ok b ((a.natAbs % b.natAbs : Nat) : Int) hbs.small (small_abs' hbs.small (by rw [Int.natAbs_natCast]; exact Nat.le_of_lt hlt))
  have hn1 := rNegI_ok ((a.natAbs / b.natAbs : Nat) : Int) sq
  have sq1 : small (((a.natAbs / b.natAbs : Nat) : Int) + 1) := by
    have h1 := digs_len_succ (a.natAbs / b.natAbs)
    have h2 := digs_len_le' hql
    have e : (((a.natAbs / b.natAbs : Nat) : Int) + 1).natAbs = a.natAbs / b.natAbs + 1 := by generalize a.natAbs / b.natAbs = z; omega
    unfold Tor.small
    rw [e]
    omega
  have hn2 := rNegI_ok (((a.natAbs / b.natAbs : Nat) : Int) + 1) sq1
  refine Ok.enter Tryz.func114 rfl Tryz.ntmps114 rfl (fun w O => ?_)
  by_cases hn : a < 0
  · by_cases hr : a.natAbs % b.natAbs = 0
    · obtain ⟨k1, k2⟩ := g2 hn hr
      have hs0 : sgnI ((a.natAbs % b.natAbs : Nat) : Int) = 0 := by rw [hr]; rfl
      by_cases hm : b < 0
      · rw [if_pos hm] at k1
        refine J_seq (J_reg ?_)
        refine a_boxS rfl rfl (ltN rfl) (fun b2 => ?_)
        refine a_boxS rfl rfl (ltN rfl) (fun b3 => ?_)
        refine a_alloc (T := 43) rfl (ltN rfl) (fun b4 => ?_)
        refine a_alloc (T := 43) rfl (ltN rfl) (fun b5 => ?_)
        refine st (s_assign rfl) rfl (Run.nil (pj_then (J_seq (J_regdT 9 mixed (by kernel_rfl) (by decide) (st (s_fieldAddr rfl) rfl (st (s_loadB 3 rfl rfl rfl) rfl (st (s_fieldAddr rfl) rfl (st (sT (by assumption) (s_loadB 3 rfl rfl rfl)) rfl ?_))))))))
        refine st (s_callk (hma ) rfl ⟨(natS_digs (by omega)), (one_le (by rw [decide_eq_true hn])), trivial⟩) rfl ?_
        refine st (s_fieldAddr rfl) rfl (st (s_loadB 2 rfl rfl rfl) rfl (st (s_fieldAddr rfl) rfl (st (sT (by assumption) (s_loadB 2 rfl rfl rfl)) rfl (Run.nil ?_))))
        refine st (s_callk (hmb ) rfl ⟨(natS_digs (by omega)), (one_le (by rw [decide_eq_true hm])), trivial⟩) rfl ?_
        refine a_storeW 3 rfl rfl rfl rfl (a_storeW 2 rfl rfl rfl rfl (Run.nil (pj_then (J_seq (J_seq (J_reg (st (s_loadW 2 rfl rfl) rfl ?_)))))))
        refine st (s_callk (rSignI_ok _) rfl ⟨VT.le_refl _, trivial⟩) rfl ?_
        refine st (sF (by assumption) (s_eq rfl rfl)) rfl (Run.nil (pj_then (J_cond0 rfl (J_skip (pj_then (J_seq (J_reg (st (s_fieldAddr rfl) rfl (st (s_loadB 3 rfl rfl rfl) rfl ?_)))))))))
        refine st (s_fieldAddr rfl) rfl (st (s_loadB 2 rfl rfl rfl) rfl ?_)
        refine st (s_callk (hdiv ) rfl ⟨VT.le_refl _, VT.le_refl _, trivial⟩) rfl ?_
        refine st (s_move rfl) rfl (st (s_extract rfl rfl) rfl (st (s_extract rfl rfl) rfl ?_))
        refine a_alloc (T := 43) rfl (ltN rfl) (fun b7 => ?_)
        refine a_alloc (T := 43) rfl (ltN rfl) (fun b8 => ?_)
        refine a_storeB 1 rfl rfl rfl rfl rfl (leN rfl) rfl (a_storeB 0 rfl rfl rfl rfl rfl (leN rfl) rfl (Run.nil (pj_then (J_seq (J_seq (J_reg (st (s_fieldAddr rfl) rfl (st (sT (by assumption) (s_loadB 5 rfl rfl rfl)) rfl (st (s_move rfl) rfl ?_)))))))))
        refine sg1 rfl rfl (s_loadB 0 rfl rfl rfl) rfl ?_
        refine sg1 rfl rfl (s_callk (hsg ) rfl ⟨VT.le_refl _, trivial⟩) rfl ?_
        refine sg1 rfl rfl (sF (by omega) (s_gt rfl rfl)) rfl (st (s_pickT rfl rfl) rfl (Run.nil (pj_then (J_cond0 rfl (J_skip (pj_then (J_seq (J_seq (J_reg ?_)))))))))
        refine st (s_fieldAddr rfl) rfl (st (sT (by assumption) (s_loadB 5 rfl rfl rfl)) rfl (st (s_fieldAddr rfl) rfl (st (sT (by assumption) (s_loadB 4 rfl rfl rfl)) rfl (st (s_neB rfl rfl) rfl (Run.nil (pj_then (J_cond0 rfl (J_skip (pj_then ?_)))))))))
        refine J_seq ?_
        refine J_regS2 [⟨5, b5, 43, Lay.agg 2⟩, ⟨4, b4, 43, Lay.agg 2⟩] [_, _] [_, _, _, _] mixed (by kernel_rfl) rfl ((permPick 2 rfl).trans (.cons _ ((permPick 2 rfl).trans (.cons _ (List.Perm.refl _))))) rfl (And.intro rfl (And.intro rfl (trivial))) ?_
        refine ux (fun B => s_loadB 1 rfl rfl rfl) rfl rfl ?_
        refine ux (fun B => s_loadB 0 rfl rfl rfl) rfl rfl ?_
        refine us rfl (us rfl ?_)
        refine ux (fun B => s_assign rfl) rfl rfl ?_
        refine RunU.nil ⟨And.intro rfl (And.intro rfl (And.intro rfl (And.intro rfl (trivial)))), ?_⟩
        refine PJ_normM (M' := [_, _, _, _, _, _]) rfl (pj_then (J_ret ?_))
        refine retc3 Tryz.results114 (.cellB 1 rfl rfl rfl (bigT_eq (by rw [k1]))) (.cellB 0 rfl rfl rfl (bigT_eq (by rw [k2, hr]; rfl))) (.tmp rfl (VT.le_refl _))
      · rw [if_neg hm] at k1
        refine J_seq (J_reg ?_)
        refine a_boxS rfl rfl (ltN rfl) (fun b2 => ?_)
        refine a_boxS rfl rfl (ltN rfl) (fun b3 => ?_)
        refine a_alloc (T := 43) rfl (ltN rfl) (fun b4 => ?_)
        refine a_alloc (T := 43) rfl (ltN rfl) (fun b5 => ?_)
        refine st (s_assign rfl) rfl (Run.nil (pj_then (J_seq (J_regdT 9 mixed (by kernel_rfl) (by decide) (st (s_fieldAddr rfl) rfl (st (s_loadB 3 rfl rfl rfl) rfl (st (s_fieldAddr rfl) rfl (st (sT (by assumption) (s_loadB 3 rfl rfl rfl)) rfl ?_))))))))
        refine st (s_callk (hma ) rfl ⟨(natS_digs (by omega)), (one_le (by rw [decide_eq_true hn])), trivial⟩) rfl ?_
        refine st (s_fieldAddr rfl) rfl (st (s_loadB 2 rfl rfl rfl) rfl (st (s_fieldAddr rfl) rfl (st (sF (by assumption) (s_loadB 2 rfl rfl rfl)) rfl (Run.nil ?_))))
        refine st (s_callk (hmb ) rfl ⟨(natS_digs (by omega)), (one_le (by rw [decide_eq_false hm])), trivial⟩) rfl ?_
        refine a_storeW 3 rfl rfl rfl rfl (a_storeW 2 rfl rfl rfl rfl (Run.nil (pj_then (J_seq (J_seq (J_reg (st (s_loadW 2 rfl rfl) rfl ?_)))))))
        refine st (s_callk (rSignI_ok _) rfl ⟨VT.le_refl _, trivial⟩) rfl ?_
        refine st (sF (by assumption) (s_eq rfl rfl)) rfl (Run.nil (pj_then (J_cond0 rfl (J_skip (pj_then (J_seq (J_reg (st (s_fieldAddr rfl) rfl (st (s_loadB 3 rfl rfl rfl) rfl ?_)))))))))
        refine st (s_fieldAddr rfl) rfl (st (s_loadB 2 rfl rfl rfl) rfl ?_)
        refine st (s_callk (hdiv ) rfl ⟨VT.le_refl _, VT.le_refl _, trivial⟩) rfl ?_
        refine st (s_move rfl) rfl (st (s_extract rfl rfl) rfl (st (s_extract rfl rfl) rfl ?_))
        refine a_alloc (T := 43) rfl (ltN rfl) (fun b7 => ?_)
        refine a_alloc (T := 43) rfl (ltN rfl) (fun b8 => ?_)
        refine a_storeB 1 rfl rfl rfl rfl rfl (leN rfl) rfl (a_storeB 0 rfl rfl rfl rfl rfl (leN rfl) rfl (Run.nil (pj_then (J_seq (J_seq (J_reg (st (s_fieldAddr rfl) rfl (st (sT (by assumption) (s_loadB 5 rfl rfl rfl)) rfl (st (s_move rfl) rfl ?_)))))))))
        refine sg1 rfl rfl (s_loadB 0 rfl rfl rfl) rfl ?_
        refine sg1 rfl rfl (s_callk (hsg ) rfl ⟨VT.le_refl _, trivial⟩) rfl ?_
        refine sg1 rfl rfl (sF (by omega) (s_gt rfl rfl)) rfl (st (s_pickT rfl rfl) rfl (Run.nil (pj_then (J_cond0 rfl (J_skip (pj_then (J_seq (J_seq (J_reg ?_)))))))))
        refine st (s_fieldAddr rfl) rfl (st (sT (by assumption) (s_loadB 5 rfl rfl rfl)) rfl (st (s_fieldAddr rfl) rfl (st (sF (by assumption) (s_loadB 4 rfl rfl rfl)) rfl (st (s_neB rfl rfl) rfl (Run.nil (pj_then (J_cond1 rfl (J_reg (st (s_loadB 1 rfl rfl rfl) rfl ?_)))))))))
        refine st (s_callk (hn1 ) rfl ⟨VT.le_refl _, trivial⟩) rfl ?_
        refine a_storeB 1 rfl rfl rfl rfl rfl (leN rfl) rfl (Run.nil (pj_then (J_seq ?_)))
        refine J_regS2 [⟨5, b5, 43, Lay.agg 2⟩, ⟨4, b4, 43, Lay.agg 2⟩] [_, _] [_, _, _, _] mixed (by kernel_rfl) rfl ((permPick 2 rfl).trans (.cons _ ((permPick 2 rfl).trans (.cons _ (List.Perm.refl _))))) rfl (And.intro rfl (And.intro rfl (trivial))) ?_
        refine ux (fun B => s_loadB 1 rfl rfl rfl) rfl rfl ?_
        refine ux (fun B => s_loadB 0 rfl rfl rfl) rfl rfl ?_
        refine us rfl (us rfl ?_)
        refine ux (fun B => s_assign rfl) rfl rfl ?_
        refine RunU.nil ⟨And.intro rfl (And.intro rfl (And.intro rfl (And.intro rfl (trivial)))), ?_⟩
        refine PJ_normM (M' := [_, _, _, _, _, _]) rfl (pj_then (J_ret ?_))
        refine retc3 Tryz.results114 (.cellB 1 rfl rfl rfl (bigT_eq (by rw [k1]))) (.cellB 0 rfl rfl rfl (bigT_eq (by rw [k2, hr]; rfl))) (.tmp rfl (VT.le_refl _))
    · obtain ⟨k1, k2⟩ := g3 hn hr
      have hs0 : sgnI ((a.natAbs % b.natAbs : Nat) : Int) = 1 := by unfold sgnI; rw [if_neg (by omega), if_neg (by omega)]
      by_cases hm : b < 0
      · rw [if_pos hm] at k1
        refine J_seq (J_reg ?_)
        refine a_boxS rfl rfl (ltN rfl) (fun b2 => ?_)
        refine a_boxS rfl rfl (ltN rfl) (fun b3 => ?_)
        refine a_alloc (T := 43) rfl (ltN rfl) (fun b4 => ?_)
        refine a_alloc (T := 43) rfl (ltN rfl) (fun b5 => ?_)
        refine st (s_assign rfl) rfl (Run.nil (pj_then (J_seq (J_regdT 9 mixed (by kernel_rfl) (by decide) (st (s_fieldAddr rfl) rfl (st (s_loadB 3 rfl rfl rfl) rfl (st (s_fieldAddr rfl) rfl (st (sT (by assumption) (s_loadB 3 rfl rfl rfl)) rfl ?_))))))))
        refine st (s_callk (hma ) rfl ⟨(natS_digs (by omega)), (one_le (by rw [decide_eq_true hn])), trivial⟩) rfl ?_
        refine st (s_fieldAddr rfl) rfl (st (s_loadB 2 rfl rfl rfl) rfl (st (s_fieldAddr rfl) rfl (st (sT (by assumption) (s_loadB 2 rfl rfl rfl)) rfl (Run.nil ?_))))
        refine st (s_callk (hmb ) rfl ⟨(natS_digs (by omega)), (one_le (by rw [decide_eq_true hm])), trivial⟩) rfl ?_
        refine a_storeW 3 rfl rfl rfl rfl (a_storeW 2 rfl rfl rfl rfl (Run.nil (pj_then (J_seq (J_seq (J_reg (st (s_loadW 2 rfl rfl) rfl ?_)))))))
        refine st (s_callk (rSignI_ok _) rfl ⟨VT.le_refl _, trivial⟩) rfl ?_
        refine st (sF (by assumption) (s_eq rfl rfl)) rfl (Run.nil (pj_then (J_cond0 rfl (J_skip (pj_then (J_seq (J_reg (st (s_fieldAddr rfl) rfl (st (s_loadB 3 rfl rfl rfl) rfl ?_)))))))))
        refine st (s_fieldAddr rfl) rfl (st (s_loadB 2 rfl rfl rfl) rfl ?_)
        refine st (s_callk (hdiv ) rfl ⟨VT.le_refl _, VT.le_refl _, trivial⟩) rfl ?_
        refine st (s_move rfl) rfl (st (s_extract rfl rfl) rfl (st (s_extract rfl rfl) rfl ?_))
        refine a_alloc (T := 43) rfl (ltN rfl) (fun b7 => ?_)
        refine a_alloc (T := 43) rfl (ltN rfl) (fun b8 => ?_)
        refine a_storeB 1 rfl rfl rfl rfl rfl (leN rfl) rfl (a_storeB 0 rfl rfl rfl rfl rfl (leN rfl) rfl (Run.nil (pj_then (J_seq (J_seq (J_reg (st (s_fieldAddr rfl) rfl (st (sT (by assumption) (s_loadB 5 rfl rfl rfl)) rfl (st (s_move rfl) rfl ?_)))))))))
        refine sg1 rfl rfl (s_loadB 0 rfl rfl rfl) rfl ?_
        refine sg1 rfl rfl (s_callk (hsg ) rfl ⟨VT.le_refl _, trivial⟩) rfl ?_
        refine sg1 rfl rfl (sT (by omega) (s_gt rfl rfl)) rfl (st (s_pickT rfl rfl) rfl (Run.nil (pj_then (J_cond1 rfl (J_seq (J_regd 2 mixed (by kernel_rfl) (by decide) (st (s_loadB 1 rfl rfl rfl) rfl ?_)))))))
        refine st (s_callk (hof ) rfl ⟨VT.le_refl _, trivial⟩) rfl ?_
        refine Run.nil ?_
        refine st (s_callk (had ) rfl ⟨VT.le_refl _, VT.le_refl _, trivial⟩) rfl ?_
        refine a_storeB 1 rfl rfl rfl rfl rfl (leN rfl) rfl (Run.nil (pj_then (J_regd 5 mixed (by kernel_rfl) (by decide) (st (s_fieldAddr rfl) rfl (st (s_loadB 4 rfl rfl rfl) rfl ?_)))))
        refine st (s_callk (hmb2 ) rfl ⟨(natS_digs (by omega)), VT.le_refl _, trivial⟩) rfl ?_
        refine st (s_loadB 0 rfl rfl rfl) rfl ?_
        refine st (s_callk (hsu ) rfl ⟨VT.le_refl _, VT.le_refl _, trivial⟩) rfl ?_
        refine Run.nil (a_storeB 0 rfl rfl rfl rfl rfl (leN rfl) rfl (Run.nil (pj_then (J_seq (J_seq (J_reg (st (s_fieldAddr rfl) rfl (st (sT (by assumption) (s_loadB 5 rfl rfl rfl)) rfl (st (s_fieldAddr rfl) rfl ?_)))))))))
        refine st (sT (by assumption) (s_loadB 4 rfl rfl rfl)) rfl (st (s_neB rfl rfl) rfl (Run.nil (pj_then (J_cond0 rfl (J_skip (pj_then (J_seq ?_)))))))
        refine J_regS2 [⟨5, b5, 43, Lay.agg 2⟩, ⟨4, b4, 43, Lay.agg 2⟩] [_, _] [_, _, _, _] mixed (by kernel_rfl) rfl ((permPick 2 rfl).trans (.cons _ ((permPick 2 rfl).trans (.cons _ (List.Perm.refl _))))) rfl (And.intro rfl (And.intro rfl (trivial))) ?_
        refine ux (fun B => s_loadB 1 rfl rfl rfl) rfl rfl ?_
        refine ux (fun B => s_loadB 0 rfl rfl rfl) rfl rfl ?_
        refine us rfl (us rfl ?_)
        refine ux (fun B => s_assign rfl) rfl rfl ?_
        refine RunU.nil ⟨And.intro rfl (And.intro rfl (And.intro rfl (And.intro rfl (trivial)))), ?_⟩
        refine PJ_normM (M' := [_, _, _, _, _, _]) rfl (pj_then (J_ret ?_))
        refine retc3 Tryz.results114 (.cellB 1 rfl rfl rfl (bigT_eq (by rw [k1, Int.natCast_add]; rfl))) (.cellB 0 rfl rfl rfl (bigT_eq (by rw [k2, Int.ofNat_sub (Nat.le_of_lt hlt)]))) (.tmp rfl (VT.le_refl _))
      · rw [if_neg hm] at k1
        refine J_seq (J_reg ?_)
        refine a_boxS rfl rfl (ltN rfl) (fun b2 => ?_)
        refine a_boxS rfl rfl (ltN rfl) (fun b3 => ?_)
        refine a_alloc (T := 43) rfl (ltN rfl) (fun b4 => ?_)
        refine a_alloc (T := 43) rfl (ltN rfl) (fun b5 => ?_)
        refine st (s_assign rfl) rfl (Run.nil (pj_then (J_seq (J_regdT 9 mixed (by kernel_rfl) (by decide) (st (s_fieldAddr rfl) rfl (st (s_loadB 3 rfl rfl rfl) rfl (st (s_fieldAddr rfl) rfl (st (sT (by assumption) (s_loadB 3 rfl rfl rfl)) rfl ?_))))))))
        refine st (s_callk (hma ) rfl ⟨(natS_digs (by omega)), (one_le (by rw [decide_eq_true hn])), trivial⟩) rfl ?_
        refine st (s_fieldAddr rfl) rfl (st (s_loadB 2 rfl rfl rfl) rfl (st (s_fieldAddr rfl) rfl (st (sF (by assumption) (s_loadB 2 rfl rfl rfl)) rfl (Run.nil ?_))))
        refine st (s_callk (hmb ) rfl ⟨(natS_digs (by omega)), (one_le (by rw [decide_eq_false hm])), trivial⟩) rfl ?_
        refine a_storeW 3 rfl rfl rfl rfl (a_storeW 2 rfl rfl rfl rfl (Run.nil (pj_then (J_seq (J_seq (J_reg (st (s_loadW 2 rfl rfl) rfl ?_)))))))
        refine st (s_callk (rSignI_ok _) rfl ⟨VT.le_refl _, trivial⟩) rfl ?_
        refine st (sF (by assumption) (s_eq rfl rfl)) rfl (Run.nil (pj_then (J_cond0 rfl (J_skip (pj_then (J_seq (J_reg (st (s_fieldAddr rfl) rfl (st (s_loadB 3 rfl rfl rfl) rfl ?_)))))))))
        refine st (s_fieldAddr rfl) rfl (st (s_loadB 2 rfl rfl rfl) rfl ?_)
        refine st (s_callk (hdiv ) rfl ⟨VT.le_refl _, VT.le_refl _, trivial⟩) rfl ?_
        refine st (s_move rfl) rfl (st (s_extract rfl rfl) rfl (st (s_extract rfl rfl) rfl ?_))
        refine a_alloc (T := 43) rfl (ltN rfl) (fun b7 => ?_)
        refine a_alloc (T := 43) rfl (ltN rfl) (fun b8 => ?_)
        refine a_storeB 1 rfl rfl rfl rfl rfl (leN rfl) rfl (a_storeB 0 rfl rfl rfl rfl rfl (leN rfl) rfl (Run.nil (pj_then (J_seq (J_seq (J_reg (st (s_fieldAddr rfl) rfl (st (sT (by assumption) (s_loadB 5 rfl rfl rfl)) rfl (st (s_move rfl) rfl ?_)))))))))
        refine sg1 rfl rfl (s_loadB 0 rfl rfl rfl) rfl ?_
        refine sg1 rfl rfl (s_callk (hsg ) rfl ⟨VT.le_refl _, trivial⟩) rfl ?_
        refine sg1 rfl rfl (sT (by omega) (s_gt rfl rfl)) rfl (st (s_pickT rfl rfl) rfl (Run.nil (pj_then (J_cond1 rfl (J_seq (J_regd 2 mixed (by kernel_rfl) (by decide) (st (s_loadB 1 rfl rfl rfl) rfl ?_)))))))
        refine st (s_callk (hof ) rfl ⟨VT.le_refl _, trivial⟩) rfl ?_
        refine Run.nil ?_
        refine st (s_callk (had ) rfl ⟨VT.le_refl _, VT.le_refl _, trivial⟩) rfl ?_
        refine a_storeB 1 rfl rfl rfl rfl rfl (leN rfl) rfl (Run.nil (pj_then (J_regd 5 mixed (by kernel_rfl) (by decide) (st (s_fieldAddr rfl) rfl (st (s_loadB 4 rfl rfl rfl) rfl ?_)))))
        refine st (s_callk (hmb ) rfl ⟨(natS_digs (by omega)), (one_le (by rw [decide_eq_false hm])), trivial⟩) rfl ?_
        refine st (s_loadB 0 rfl rfl rfl) rfl ?_
        refine st (s_callk (hsu2 ) rfl ⟨VT.le_refl _, VT.le_refl _, trivial⟩) rfl ?_
        refine Run.nil (a_storeB 0 rfl rfl rfl rfl rfl (leN rfl) rfl (Run.nil (pj_then (J_seq (J_seq (J_reg (st (s_fieldAddr rfl) rfl (st (sT (by assumption) (s_loadB 5 rfl rfl rfl)) rfl (st (s_fieldAddr rfl) rfl ?_)))))))))
        refine st (sF (by assumption) (s_loadB 4 rfl rfl rfl)) rfl (st (s_neB rfl rfl) rfl (Run.nil (pj_then (J_cond1 rfl (J_reg (st (s_loadB 1 rfl rfl rfl) rfl ?_))))))
        refine st (s_callk (hn2 ) rfl ⟨VT.le_refl _, trivial⟩) rfl ?_
        refine a_storeB 1 rfl rfl rfl rfl rfl (leN rfl) rfl (Run.nil (pj_then (J_seq ?_)))
        refine J_regS2 [⟨5, b5, 43, Lay.agg 2⟩, ⟨4, b4, 43, Lay.agg 2⟩] [_, _] [_, _, _, _] mixed (by kernel_rfl) rfl ((permPick 2 rfl).trans (.cons _ ((permPick 2 rfl).trans (.cons _ (List.Perm.refl _))))) rfl (And.intro rfl (And.intro rfl (trivial))) ?_
        refine ux (fun B => s_loadB 1 rfl rfl rfl) rfl rfl ?_
        refine ux (fun B => s_loadB 0 rfl rfl rfl) rfl rfl ?_
        refine us rfl (us rfl ?_)
        refine ux (fun B => s_assign rfl) rfl rfl ?_
        refine RunU.nil ⟨And.intro rfl (And.intro rfl (And.intro rfl (And.intro rfl (trivial)))), ?_⟩
        refine PJ_normM (M' := [_, _, _, _, _, _]) rfl (pj_then (J_ret ?_))
        refine retc3 Tryz.results114 (.cellB 1 rfl rfl rfl (bigT_eq (by rw [k1, Int.natCast_add]; rfl))) (.cellB 0 rfl rfl rfl (bigT_eq (by rw [k2, Int.ofNat_sub (Nat.le_of_lt hlt), Int.natAbs_of_nonneg (show 0 ≤ b by omega)]))) (.tmp rfl (VT.le_refl _))
  · obtain ⟨k1, k2⟩ := g1 (by omega)
    by_cases hm : b < 0
    · rw [if_pos hm] at k1
      refine J_seq (J_reg ?_)
      refine a_boxS rfl rfl (ltN rfl) (fun b2 => ?_)
      refine a_boxS rfl rfl (ltN rfl) (fun b3 => ?_)
      refine a_alloc (T := 43) rfl (ltN rfl) (fun b4 => ?_)
      refine a_alloc (T := 43) rfl (ltN rfl) (fun b5 => ?_)
      refine st (s_assign rfl) rfl (Run.nil (pj_then (J_seq (J_regdT 9 mixed (by kernel_rfl) (by decide) (st (s_fieldAddr rfl) rfl (st (s_loadB 3 rfl rfl rfl) rfl (st (s_fieldAddr rfl) rfl (st (sF (by assumption) (s_loadB 3 rfl rfl rfl)) rfl ?_))))))))
      refine st (s_callk (hma ) rfl ⟨(natS_digs (by omega)), (one_le (by rw [decide_eq_false hn])), trivial⟩) rfl ?_
      refine st (s_fieldAddr rfl) rfl (st (s_loadB 2 rfl rfl rfl) rfl (st (s_fieldAddr rfl) rfl (st (sT (by assumption) (s_loadB 2 rfl rfl rfl)) rfl (Run.nil ?_))))
      refine st (s_callk (hmb ) rfl ⟨(natS_digs (by omega)), (one_le (by rw [decide_eq_true hm])), trivial⟩) rfl ?_
      refine a_storeW 3 rfl rfl rfl rfl (a_storeW 2 rfl rfl rfl rfl (Run.nil (pj_then (J_seq (J_seq (J_reg (st (s_loadW 2 rfl rfl) rfl ?_)))))))
      refine st (s_callk (rSignI_ok _) rfl ⟨VT.le_refl _, trivial⟩) rfl ?_
      refine st (sF (by assumption) (s_eq rfl rfl)) rfl (Run.nil (pj_then (J_cond0 rfl (J_skip (pj_then (J_seq (J_reg (st (s_fieldAddr rfl) rfl (st (s_loadB 3 rfl rfl rfl) rfl ?_)))))))))
      refine st (s_fieldAddr rfl) rfl (st (s_loadB 2 rfl rfl rfl) rfl ?_)
      refine st (s_callk (hdiv ) rfl ⟨VT.le_refl _, VT.le_refl _, trivial⟩) rfl ?_
      refine st (s_move rfl) rfl (st (s_extract rfl rfl) rfl (st (s_extract rfl rfl) rfl ?_))
      refine a_alloc (T := 43) rfl (ltN rfl) (fun b7 => ?_)
      refine a_alloc (T := 43) rfl (ltN rfl) (fun b8 => ?_)
      refine a_storeB 1 rfl rfl rfl rfl rfl (leN rfl) rfl (a_storeB 0 rfl rfl rfl rfl rfl (leN rfl) rfl (Run.nil (pj_then (J_seq (J_seq (J_reg (st (s_fieldAddr rfl) rfl (st (sF (by assumption) (s_loadB 5 rfl rfl rfl)) rfl (st (s_move rfl) rfl ?_)))))))))
      refine sg0 rfl rfl rfl rfl (sg0 rfl rfl rfl rfl (sg0 rfl rfl rfl rfl (st (s_pickF rfl rfl) rfl (Run.nil (pj_then (J_cond0 rfl (J_skip (pj_then (J_seq ?_)))))))))
      refine J_seq (J_reg (st (s_fieldAddr rfl) rfl (st (sF (by assumption) (s_loadB 5 rfl rfl rfl)) rfl (st (s_fieldAddr rfl) rfl (st (sT (by assumption) (s_loadB 4 rfl rfl rfl)) rfl (st (s_neB rfl rfl) rfl (Run.nil (pj_then (J_cond1 rfl ?_)))))))))
      refine J_reg (st (s_loadB 1 rfl rfl rfl) rfl ?_)
      refine st (s_callk (hn1 ) rfl ⟨VT.le_refl _, trivial⟩) rfl ?_
      refine a_storeB 1 rfl rfl rfl rfl rfl (leN rfl) rfl (Run.nil (pj_then (J_seq ?_)))
      refine J_regS2 [⟨5, b5, 43, Lay.agg 2⟩, ⟨4, b4, 43, Lay.agg 2⟩] [_, _] [_, _, _, _] mixed (by kernel_rfl) rfl ((permPick 2 rfl).trans (.cons _ ((permPick 2 rfl).trans (.cons _ (List.Perm.refl _))))) rfl (And.intro rfl (And.intro rfl (trivial))) ?_
      refine ux (fun B => s_loadB 1 rfl rfl rfl) rfl rfl ?_
      refine ux (fun B => s_loadB 0 rfl rfl rfl) rfl rfl ?_
      refine us rfl (us rfl ?_)
      refine ux (fun B => s_assign rfl) rfl rfl ?_
      refine RunU.nil ⟨And.intro rfl (And.intro rfl (And.intro rfl (And.intro rfl (trivial)))), ?_⟩
      refine PJ_normM (M' := [_, _, _, _, _, _]) rfl (pj_then (J_ret ?_))
      refine retc3 Tryz.results114 (.cellB 1 rfl rfl rfl (bigT_eq (by rw [k1]))) (.cellB 0 rfl rfl rfl (bigT_eq (by rw [k2]))) (.tmp rfl (VT.le_refl _))
    · rw [if_neg hm] at k1
      refine J_seq (J_reg ?_)
      refine a_boxS rfl rfl (ltN rfl) (fun b2 => ?_)
      refine a_boxS rfl rfl (ltN rfl) (fun b3 => ?_)
      refine a_alloc (T := 43) rfl (ltN rfl) (fun b4 => ?_)
      refine a_alloc (T := 43) rfl (ltN rfl) (fun b5 => ?_)
      refine st (s_assign rfl) rfl (Run.nil (pj_then (J_seq (J_regdT 9 mixed (by kernel_rfl) (by decide) (st (s_fieldAddr rfl) rfl (st (s_loadB 3 rfl rfl rfl) rfl (st (s_fieldAddr rfl) rfl (st (sF (by assumption) (s_loadB 3 rfl rfl rfl)) rfl ?_))))))))
      refine st (s_callk (hma ) rfl ⟨(natS_digs (by omega)), (one_le (by rw [decide_eq_false hn])), trivial⟩) rfl ?_
      refine st (s_fieldAddr rfl) rfl (st (s_loadB 2 rfl rfl rfl) rfl (st (s_fieldAddr rfl) rfl (st (sF (by assumption) (s_loadB 2 rfl rfl rfl)) rfl (Run.nil ?_))))
      refine st (s_callk (hmb ) rfl ⟨(natS_digs (by omega)), (one_le (by rw [decide_eq_false hm])), trivial⟩) rfl ?_
      refine a_storeW 3 rfl rfl rfl rfl (a_storeW 2 rfl rfl rfl rfl (Run.nil (pj_then (J_seq (J_seq (J_reg (st (s_loadW 2 rfl rfl) rfl ?_)))))))
      refine st (s_callk (rSignI_ok _) rfl ⟨VT.le_refl _, trivial⟩) rfl ?_
      refine st (sF (by assumption) (s_eq rfl rfl)) rfl (Run.nil (pj_then (J_cond0 rfl (J_skip (pj_then (J_seq (J_reg (st (s_fieldAddr rfl) rfl (st (s_loadB 3 rfl rfl rfl) rfl ?_)))))))))
      refine st (s_fieldAddr rfl) rfl (st (s_loadB 2 rfl rfl rfl) rfl ?_)
      refine st (s_callk (hdiv ) rfl ⟨VT.le_refl _, VT.le_refl _, trivial⟩) rfl ?_
      refine st (s_move rfl) rfl (st (s_extract rfl rfl) rfl (st (s_extract rfl rfl) rfl ?_))
      refine a_alloc (T := 43) rfl (ltN rfl) (fun b7 => ?_)
      refine a_alloc (T := 43) rfl (ltN rfl) (fun b8 => ?_)
      refine a_storeB 1 rfl rfl rfl rfl rfl (leN rfl) rfl (a_storeB 0 rfl rfl rfl rfl rfl (leN rfl) rfl (Run.nil (pj_then (J_seq (J_seq (J_reg (st (s_fieldAddr rfl) rfl (st (sF (by assumption) (s_loadB 5 rfl rfl rfl)) rfl (st (s_move rfl) rfl ?_)))))))))
      refine sg0 rfl rfl rfl rfl (sg0 rfl rfl rfl rfl (sg0 rfl rfl rfl rfl (st (s_pickF rfl rfl) rfl (Run.nil (pj_then (J_cond0 rfl (J_skip (pj_then (J_seq ?_)))))))))
      refine J_seq (J_reg (st (s_fieldAddr rfl) rfl (st (sF (by assumption) (s_loadB 5 rfl rfl rfl)) rfl (st (s_fieldAddr rfl) rfl (st (sF (by assumption) (s_loadB 4 rfl rfl rfl)) rfl (st (s_neB rfl rfl) rfl (Run.nil (pj_then (J_cond0 rfl ?_)))))))))
      refine J_skip (pj_then (J_seq ?_))
      refine J_regS2 [⟨5, b5, 43, Lay.agg 2⟩, ⟨4, b4, 43, Lay.agg 2⟩] [_, _] [_, _, _, _] mixed (by kernel_rfl) rfl ((permPick 2 rfl).trans (.cons _ ((permPick 2 rfl).trans (.cons _ (List.Perm.refl _))))) rfl (And.intro rfl (And.intro rfl (trivial))) ?_
      refine ux (fun B => s_loadB 1 rfl rfl rfl) rfl rfl ?_
      refine ux (fun B => s_loadB 0 rfl rfl rfl) rfl rfl ?_
      refine us rfl (us rfl ?_)
      refine ux (fun B => s_assign rfl) rfl rfl ?_
      refine RunU.nil ⟨And.intro rfl (And.intro rfl (And.intro rfl (And.intro rfl (trivial)))), ?_⟩
      refine PJ_normM (M' := [_, _, _, _, _, _]) rfl (pj_then (J_ret ?_))
      refine retc3 Tryz.results114 (.cellB 1 rfl rfl rfl (bigT_eq (by rw [k1]))) (.cellB 0 rfl rfl rfl (bigT_eq (by rw [k2]))) (.tmp rfl (VT.le_refl _))
set_option maxHeartbeats 4000000 in
theorem rGcd_ok (a b : Int) (ha : small0 a) (hb : small0 b) : Ok Tryz.prog 100 [bigT a, bigT b] (bigT (Nat.gcd a.natAbs b.natAbs)) := by
  refine Ok.enter Tryz.func100 rfl Tryz.ntmps100 rfl (fun w O => ?_)
  refine J_seq (J_reg ?_)
  refine a_boxS rfl rfl (ltN rfl) (fun b2 => ?_)
  refine a_boxS rfl rfl (ltN rfl) (fun b3 => ?_)
  refine a_alloc (T := 43) rfl (ltN rfl) (fun b4 => ?_)
  refine Run.nil (pj_then (J_seq (J_block (J_sub (Γ' := [(2, _), (3, _), (4, _)]) (SubG.cons rfl (VT.le_refl _) (SubG.cons rfl (VT.le_refl _) (SubG.cons rfl (VT.le_refl _) (SubG.nil)))) (SubM.refl _) ?_))))
  refine J_loopA (σ := Int × Int) (Γk := [(2, _), (3, _), (4, _)]) (SubG.cons rfl (VT.le_refl _) (SubG.cons rfl (VT.le_refl _) (SubG.cons rfl (VT.le_refl _) (SubG.nil)))) (fun p => []) (fun p M0 => ((M0.set 1 (boxO b3 43 (Lay.agg 2).sz [(0, Lay.agg 2, bigT p.2)])).set 2 (boxO b2 43 (Lay.agg 2).sz [(0, Lay.agg 2, bigT p.1)]))) (fun p => Nat.gcd p.1.natAbs p.2.natAbs = Nat.gcd a.natAbs b.natAbs ∧ small0 p.1 ∧ small0 p.2) (fun p => p.2.natAbs) ((a, b)) (⟨rfl, ha, hb⟩) (by repeat (first | exact SubG.refl _ | exact SubG.nil | refine SubG.cons rfl (VT.le_refl _) ?_ | (refine SubG.cons rfl (one_le ?_) ?_; (congr 1; first | omega | (simp; omega) | simp)))) (.keep (Own.le_refl _) (.keep (box_agg (VT.le_refl _)) (.keep (box_agg (VT.le_refl _)) (.nil)))) (fun p hp => ?_)
  refine J_norm (Γ' := [(2, _), (3, _), (4, _)]) (M' := [_, _, _]) rfl rfl ?_
  obtain ⟨x, y⟩ := p
  dsimp only at hp ⊢
  obtain ⟨p1, p2, p3⟩ := hp
  have hsg := rSignI_ok y
  by_cases hy : y = 0
  · have hs0 : sgnI y = 0 := by rw [hy]; rfl
    rw [hy] at p1
    rw [← p1, Int.natAbs_zero, Nat.gcd_zero_right]
    have hx : (digs x.natAbs).length ≤ 1099511627700 := p2
    have hm := rMade_ok false x.natAbs
    rw [if_neg (by decide)] at hm
    refine J_seq (J_seq (J_reg (st (s_loadB 1 rfl rfl rfl) rfl ?_)))
    refine st (s_callk (hsg ) rfl ⟨VT.le_refl _, trivial⟩) rfl ?_
    refine st (sF (by omega) (s_ne rfl rfl)) rfl (Run.nil (pj_then (J_cond0 rfl (J_exit (px_then (px_then (px_block (pj_then (J_seq ?_)))))))))
    refine J_reg (st (s_fieldAddr rfl) rfl (st (s_loadBP 2 0 1 rfl rfl rfl rfl rfl) rfl ?_))
    refine st (s_callk (hm ) rfl ⟨(natS_digs (by omega)), VT.le_refl _, trivial⟩) rfl ?_
    refine a_storeB 0 rfl rfl rfl rfl rfl (leN rfl) rfl (Run.nil (pj_then (J_ret ?_)))
    refine retc1 Tryz.results100 (.cellB 0 rfl rfl rfl (VT.le_refl _))
  · have hs0 : sgnI y ≠ 0 := by unfold sgnI; rw [if_neg hy]; split <;> decide
    have hdm := rDivMod_ok x y hy p2 p3
    have hlt := emod_abs_lt x hy
    refine J_seq (J_seq (J_reg (st (s_loadB 1 rfl rfl rfl) rfl ?_)))
    refine st (s_callk (hsg ) rfl ⟨VT.le_refl _, trivial⟩) rfl ?_
    refine st (sT (by assumption) (s_ne rfl rfl)) rfl (Run.nil (pj_then (J_cond1 rfl (J_skip (pj_then (J_block (J_seq (J_reg (st (s_loadB 2 rfl rfl rfl) rfl ?_)))))))))
    refine st (s_loadB 1 rfl rfl rfl) rfl ?_
    refine st (s_callk (hdm ) rfl ⟨VT.le_refl _, VT.le_refl _, trivial⟩) rfl ?_
    refine st (s_move rfl) rfl (st (s_extract rfl rfl) rfl (st (s_extract rfl rfl) rfl (st (s_extract rfl rfl) rfl ?_)))
    refine a_alloc (T := 43) rfl (ltN rfl) (fun b5 => ?_)
    refine a_alloc (T := 43) rfl (ltN rfl) (fun b6 => ?_)
    refine a_storeB 1 rfl rfl rfl rfl rfl (leN rfl) rfl (a_storeB 0 rfl rfl rfl rfl rfl (leN rfl) rfl (st (s_assign rfl) rfl (Run.nil (pj_then ?_))))
    refine J_regY2 [⟨⟨3, b3, 43, Lay.agg 2⟩, _⟩, ⟨⟨2, b2, 43, Lay.agg 2⟩, _⟩] [_, _, _] mixed (by kernel_rfl) ((permPick 3 rfl).trans (.cons _ ((permPick 3 rfl).trans (.cons _ (List.Perm.refl _))))) rfl (And.intro rfl (And.intro rfl (trivial))) ?_
    refine wl 0 rfl (by kernel_rfl) (fun B => s_loadB 0 rfl rfl rfl) rfl ?_
    refine wx (fun B => s_loadB 0 rfl rfl rfl) rfl ?_
    refine ws rfl (ws rfl ?_)
    refine RunY.nil ⟨And.intro rfl (And.intro rfl (And.intro rfl (And.intro rfl (trivial)))), ?_⟩
    refine PJ_normM (M' := [_, _, _, _, _]) rfl (pn_block (PJ_perm ((permPick 4 rfl).trans (.cons _ ((permPick 0 rfl).trans (.cons _ ((permPick 0 rfl).trans (.cons _ (List.Perm.refl _))))))) ?_))
    refine pj_roundM ((y, x % y)) (⟨by rw [← p1]; exact gcd_step x y, p3, small0_abs p3 (Nat.le_of_lt hlt)⟩) (by assumption) (by repeat (first | exact SubG.refl _ | exact SubG.nil | refine SubG.cons rfl (VT.le_refl _) ?_ | (refine SubG.cons rfl (one_le ?_) ?_; (congr 1; first | omega | (simp; omega) | simp)))) (.keep (Own.le_refl _) (.keep (Own.le_refl _) (.keep (Own.le_refl _) (SubM.nilR _))))
end Tor
end
section
namespace Tor
open Go Go.RowKit Go.Proofs
attribute [local irreducible] Tor.J Tor.PJ Tor.StepO Tor.one Tor.slT Tor.ptrT Tor.aggT Tor.tupT Tor.exT Tor.andT Tor.eP Tor.boxO Tor.sliO Tor.slV Tor.VT.le Tor.Ret Tor.anyT
set_option maxHeartbeats 4000000 in
theorem rqOf_ok (n d : Int) (hd : d ≠ 0) (hn : small0 n) (hds : small0 d) : Ok Tryz.prog 107 [bigT n, bigT d] (tupT [ratT (Rat.divInt n d), one (.int .i64 0)]) := by
  have hsi := rSignI_ok d
  have hn1 := rNegI_ok n hn.small
  have hd1 := rNegI_ok d hds.small
  have e1 : small0 (-n) := small0_abs hn (by omega)
  have e2 : small0 (-d) := small0_abs hds (by omega)
  have g0 := gcd_ne (n := n) hd
  have g1 : small0 ((Nat.gcd n.natAbs d.natAbs : Nat) : Int) := small0_abs hds (by rw [Int.natAbs_natCast]; exact Nat.le_of_dvd (by omega) (Nat.gcd_dvd_right _ _))
  unfold ratT fracT
  refine Ok.enter Tryz.func107 rfl Tryz.ntmps107 rfl (fun w O => ?_)
  by_cases h : d < 0
  · obtain ⟨l1, l2⟩ := low_neg (n := n) h
    have hs : sgnI d = -1 := by unfold sgnI; rw [if_neg hd, if_pos h]
    have hg := rGcd_ok (-n) (-d) e1 e2
    rw [Int.natAbs_neg, Int.natAbs_neg] at hg
    have hm1 := rDivMod_ok (-n) _ g0 e1 g1
    have hm2 := rDivMod_ok (-d) _ g0 e2 g1
    have d1 : ((Nat.gcd n.natAbs d.natAbs : Nat) : Int) ∣ n := Int.gcd_dvd_left ..
    have d2 : ((Nat.gcd n.natAbs d.natAbs : Nat) : Int) ∣ d := Int.gcd_dvd_right ..
    rw [Int.ediv_neg, ← Int.neg_ediv_of_dvd d1] at l1
    rw [Int.ediv_neg, ← Int.neg_ediv_of_dvd d2] at l2
    refine J_seq (J_reg ?_)
    refine a_boxS rfl rfl (ltN rfl) (fun b2 => ?_)
    refine a_boxS rfl rfl (ltN rfl) (fun b3 => ?_)
    refine a_allocS (T := 63) rfl rfl rfl (fun b4 => ?_)
    refine st (s_assign rfl) rfl (Run.nil (pj_then (J_seq (J_seq (J_reg (st (s_loadW 1 rfl rfl) rfl ?_))))))
    refine st (s_callk (hsi ) rfl ⟨VT.le_refl _, trivial⟩) rfl ?_
    refine st (sF (by omega) (s_eq rfl rfl)) rfl (Run.nil (pj_then (J_cond0 rfl (J_skip (pj_then (J_seq (J_seq (J_reg (st (s_loadW 1 rfl rfl) rfl ?_)))))))))
    refine st (s_callk (hsi ) rfl ⟨VT.le_refl _, trivial⟩) rfl ?_
    refine st (sT (by omega) (s_lt rfl rfl)) rfl (Run.nil (pj_then (J_cond1 rfl (J_regdT 3 mixed (by kernel_rfl) (by decide) (st (s_loadW 2 rfl rfl) rfl ?_)))))
    refine st (s_callk (hn1 ) rfl ⟨VT.le_refl _, trivial⟩) rfl ?_
    refine st (s_loadW 1 rfl rfl) rfl (Run.nil ?_)
    refine st (s_callk (hd1 ) rfl ⟨VT.le_refl _, trivial⟩) rfl ?_
    refine a_storeW 2 rfl rfl rfl rfl (a_storeW 1 rfl rfl rfl rfl (Run.nil (pj_then (J_seq (J_reg (st (s_loadW 2 rfl rfl) rfl (st (s_loadW 1 rfl rfl) rfl ?_)))))))
    refine st (s_callk (hg ) rfl ⟨VT.le_refl _, VT.le_refl _, trivial⟩) rfl ?_
    refine a_alloc (T := 43) rfl (ltN rfl) (fun b6 => ?_)
    refine a_storeB 0 rfl rfl rfl rfl rfl (leN rfl) rfl (Run.nil (pj_then (J_seq (J_reg (st (s_loadW 3 rfl rfl) rfl (st (s_loadB 0 rfl rfl rfl) rfl ?_))))))
    refine st (s_callk (hm1 ) rfl ⟨VT.le_refl _, VT.le_refl _, trivial⟩) rfl ?_
    refine st (s_move rfl) rfl (st (s_extract rfl rfl) rfl (st (s_extract rfl rfl) rfl (st (s_extract rfl rfl) rfl ?_)))
    refine a_alloc (T := 43) rfl (ltN rfl) (fun b7 => ?_)
    refine a_alloc (T := 43) rfl (ltN rfl) (fun b8 => ?_)
    refine a_storeB 1 rfl rfl rfl rfl rfl (leN rfl) rfl (a_storeB 0 rfl rfl rfl rfl rfl (leN rfl) rfl (st (s_assign rfl) rfl (Run.nil (pj_then (J_seq (J_reg (st (s_loadW 4 rfl rfl) rfl (st (s_loadB 2 rfl rfl rfl) rfl ?_))))))))
    refine st (s_callk (hm2 ) rfl ⟨VT.le_refl _, VT.le_refl _, trivial⟩) rfl ?_
    refine st (s_move rfl) rfl (st (s_extract rfl rfl) rfl (st (s_extract rfl rfl) rfl (st (s_extract rfl rfl) rfl ?_)))
    refine a_alloc (T := 43) rfl (ltN rfl) (fun b10 => ?_)
    refine a_alloc (T := 43) rfl (ltN rfl) (fun b11 => ?_)
    refine a_storeB 1 rfl rfl rfl rfl rfl (leN rfl) rfl (a_storeB 0 rfl rfl rfl rfl rfl (leN rfl) rfl (st (s_assign rfl) rfl (Run.nil (pj_then (J_seq (J_reg (st (s_loadB 3 rfl rfl rfl) rfl (st (s_loadB 1 rfl rfl rfl) rfl (stB rfl rfl rfl ?_)))))))))
    refine BuildK.cons rfl rfl rfl (BuildK.cons rfl rfl rfl (BuildK.nil (a_storeW 5 rfl rfl rfl rfl (st (s_assign rfl) rfl (Run.nil (pj_then (J_ret ?_)))))))
    refine retc2 Tryz.results107 (.cellW 5 rfl rfl (fracT_of l1 l2)) (.tmp rfl (VT.le_refl _))
  · obtain ⟨l1, l2⟩ := low_pos (n := n) (show 0 < d by omega)
    have hs : sgnI d = 1 := by unfold sgnI; rw [if_neg hd, if_neg h]
    have hg := rGcd_ok n d hn hds
    have hm1 := rDivMod_ok n _ g0 hn g1
    have hm2 := rDivMod_ok d _ g0 hds g1
    refine J_seq (J_reg ?_)
    refine a_boxS rfl rfl (ltN rfl) (fun b2 => ?_)
    refine a_boxS rfl rfl (ltN rfl) (fun b3 => ?_)
    refine a_allocS (T := 63) rfl rfl rfl (fun b4 => ?_)
    refine st (s_assign rfl) rfl (Run.nil (pj_then (J_seq (J_seq (J_reg (st (s_loadW 1 rfl rfl) rfl ?_))))))
    refine st (s_callk (hsi ) rfl ⟨VT.le_refl _, trivial⟩) rfl ?_
    refine st (sF (by omega) (s_eq rfl rfl)) rfl (Run.nil (pj_then (J_cond0 rfl (J_skip (pj_then (J_seq (J_seq (J_reg (st (s_loadW 1 rfl rfl) rfl ?_)))))))))
    refine st (s_callk (hsi ) rfl ⟨VT.le_refl _, trivial⟩) rfl ?_
    refine st (sF (by omega) (s_lt rfl rfl)) rfl (Run.nil (pj_then (J_cond0 rfl (J_skip (pj_then (J_seq (J_reg (st (s_loadW 2 rfl rfl) rfl (st (s_loadW 1 rfl rfl) rfl ?_)))))))))
    refine st (s_callk (hg ) rfl ⟨VT.le_refl _, VT.le_refl _, trivial⟩) rfl ?_
    refine a_alloc (T := 43) rfl (ltN rfl) (fun b6 => ?_)
    refine a_storeB 0 rfl rfl rfl rfl rfl (leN rfl) rfl (Run.nil (pj_then (J_seq (J_reg (st (s_loadW 3 rfl rfl) rfl (st (s_loadB 0 rfl rfl rfl) rfl ?_))))))
    refine st (s_callk (hm1 ) rfl ⟨VT.le_refl _, VT.le_refl _, trivial⟩) rfl ?_
    refine st (s_move rfl) rfl (st (s_extract rfl rfl) rfl (st (s_extract rfl rfl) rfl (st (s_extract rfl rfl) rfl ?_)))
    refine a_alloc (T := 43) rfl (ltN rfl) (fun b7 => ?_)
    refine a_alloc (T := 43) rfl (ltN rfl) (fun b8 => ?_)
    refine a_storeB 1 rfl rfl rfl rfl rfl (leN rfl) rfl (a_storeB 0 rfl rfl rfl rfl rfl (leN rfl) rfl (st (s_assign rfl) rfl (Run.nil (pj_then (J_seq (J_reg (st (s_loadW 4 rfl rfl) rfl (st (s_loadB 2 rfl rfl rfl) rfl ?_))))))))
    refine st (s_callk (hm2 ) rfl ⟨VT.le_refl _, VT.le_refl _, trivial⟩) rfl ?_
    refine st (s_move rfl) rfl (st (s_extract rfl rfl) rfl (st (s_extract rfl rfl) rfl (st (s_extract rfl rfl) rfl ?_)))
    refine a_alloc (T := 43) rfl (ltN rfl) (fun b10 => ?_)
    refine a_alloc (T := 43) rfl (ltN rfl) (fun b11 => ?_)
    refine a_storeB 1 rfl rfl rfl rfl rfl (leN rfl) rfl (a_storeB 0 rfl rfl rfl rfl rfl (leN rfl) rfl (st (s_assign rfl) rfl (Run.nil (pj_then (J_seq (J_reg (st (s_loadB 3 rfl rfl rfl) rfl (st (s_loadB 1 rfl rfl rfl) rfl (stB rfl rfl rfl ?_)))))))))
    refine BuildK.cons rfl rfl rfl (BuildK.cons rfl rfl rfl (BuildK.nil (a_storeW 5 rfl rfl rfl rfl (st (s_assign rfl) rfl (Run.nil (pj_then (J_ret ?_)))))))
    refine retc2 Tryz.results107 (.cellW 5 rfl rfl (fracT_of l1 l2)) (.tmp rfl (VT.le_refl _))
set_option maxHeartbeats 4000000 in
theorem rqSameF_ok (a b c d : Int) : Ok Tryz.prog 31 [fracT a b, fracT c d] (one (.bool (decide (a = c) && decide (b = d)))) := by
  have h1 := rSame_ok a c
  have h2 := rSame_ok b d
  unfold fracT
  refine Ok.enter Tryz.func31 rfl Tryz.ntmps31 rfl (fun w O => ?_)
  by_cases c1 : a = c
  · rw [decide_eq_true c1] at h1 ⊢
    refine J_seq (J_reg ?_)
    refine a_boxS rfl rfl (ltN rfl) (fun b2 => ?_)
    refine a_boxS rfl rfl (ltN rfl) (fun b3 => ?_)
    refine st (s_assign rfl) rfl (Run.nil (pj_then (J_seq (J_reg (st (s_fieldAddr rfl) rfl (st (s_loadB 1 rfl rfl rfl) rfl (st (s_fieldAddr rfl) rfl (st (s_loadB 0 rfl rfl rfl) rfl ?_))))))))
    refine st (s_callk (h1 ) rfl ⟨VT.le_refl _, VT.le_refl _, trivial⟩) rfl ?_
    refine st (s_move rfl) rfl (sg1 rfl rfl (s_fieldAddr rfl) rfl (sg1 rfl rfl (s_loadB 1 rfl rfl rfl) rfl (sg1 rfl rfl (s_fieldAddr rfl) rfl (sg1 rfl rfl (s_loadB 0 rfl rfl rfl) rfl ?_))))
    refine sg1 rfl rfl (s_callk (h2 ) rfl ⟨VT.le_refl _, VT.le_refl _, trivial⟩) rfl ?_
    refine st (s_pickT rfl rfl) rfl (st (s_assign rfl) rfl (Run.nil (pj_then (J_ret ?_))))
    refine retc1 Tryz.results31 (.tmp rfl (VT.le_refl _))
  · rw [decide_eq_false c1] at h1 ⊢
    refine J_seq (J_reg ?_)
    refine a_boxS rfl rfl (ltN rfl) (fun b2 => ?_)
    refine a_boxS rfl rfl (ltN rfl) (fun b3 => ?_)
    refine st (s_assign rfl) rfl (Run.nil (pj_then (J_seq (J_reg (st (s_fieldAddr rfl) rfl (st (s_loadB 1 rfl rfl rfl) rfl (st (s_fieldAddr rfl) rfl (st (s_loadB 0 rfl rfl rfl) rfl ?_))))))))
    refine st (s_callk (h1 ) rfl ⟨VT.le_refl _, VT.le_refl _, trivial⟩) rfl ?_
    refine st (s_move rfl) rfl (sg0 rfl rfl rfl rfl (sg0 rfl rfl rfl rfl (sg0 rfl rfl rfl rfl (sg0 rfl rfl rfl rfl (sg0 rfl rfl rfl rfl (st (s_pickF rfl rfl) rfl (st (s_assign rfl) rfl (Run.nil (pj_then ?_)))))))))
    refine J_ret ?_
    refine retc1 Tryz.results31 (.tmp rfl (VT.le_refl _))
theorem rqSame_ok (q r : Rat) : Ok Tryz.prog 31 [ratT q, ratT r] (one (.bool (decide (q = r)))) := by
  have h := rqSameF_ok q.num q.den r.num r.den
  have e : (decide (q.num = r.num) && decide ((q.den : Int) = (r.den : Int))) = decide (q = r) := by
    rw [← Bool.decide_and]
    exact decide_eq_decide.2 ⟨fun ⟨h1, h2⟩ => Rat.ext h1 (by omega), fun h => by rw [h]; exact ⟨rfl, rfl⟩⟩
  rw [e] at h
  exact h
end Tor
end
section
namespace Tor
open Go Go.RowKit Go.Proofs
def lz (n : Nat) (x : Int) : Prop := (digs x.natAbs).length ≤ n
theorem lz.small {n : Nat} {x : Int} (h : lz n x) (hn : n ≤ 1099511627776) : small x := Nat.le_trans h hn
theorem lz.small0 {n : Nat} {x : Int} (h : lz n x) (hn : n ≤ 1099511627700) : small0 x := Nat.le_trans h hn
theorem lz.mono {n m : Nat} {x : Int} (h : lz n x) (hn : n ≤ m) : lz m x := Nat.le_trans h hn
theorem lz_le {n : Nat} {x y : Int} (h : lz n y) (hl : x.natAbs ≤ y.natAbs) : lz n x := Nat.le_trans (digs_len_le' hl) h
theorem lz.lt {n : Nat} {x : Int} (h : lz n x) : x.natAbs < 4294967296 ^ n := Nat.lt_of_lt_of_le (lt_of_digs_len _) (Nat.pow_le_pow_right (by decide) h)
theorem lz_mul {n m : Nat} {x y : Int} (hx : lz n x) (hy : lz m y) : lz (n + m) (x * y) := digs_len_le (by
  rw [Int.natAbs_mul, Nat.pow_add]
  have h1 := hx.lt
  have h2 := hy.lt
  exact Nat.mul_lt_mul'' h1 h2)
theorem lz_sub {n : Nat} {x y : Int} (hx : lz n x) (hy : lz n y) : lz (n + 1) (x - y) := digs_len_le (by
  have h1 := hx.lt
  have h2 := hy.lt
  rw [Nat.pow_succ]
  generalize 4294967296 ^ n = z at *
  omega)
theorem lz_add {n : Nat} {x y : Int} (hx : lz n x) (hy : lz n y) : lz (n + 1) (x + y) := digs_len_le (by
  have h1 := hx.lt
  have h2 := hy.lt
  rw [Nat.pow_succ]
  generalize 4294967296 ^ n = z at *
  omega)
theorem lz_neg {n : Nat} {x : Int} (h : lz n x) : lz n (-x) := lz_le h (by omega)
theorem natAbs_ediv_le' (x q : Int) : (x / q).natAbs ≤ x.natAbs := Int.natAbs_ediv_le_natAbs x q
theorem lz_div {n : Nat} {x : Int} (h : lz n x) (q : Int) : lz n (x / q) := lz_le h (natAbs_ediv_le' x q)
theorem lz_zero (n : Nat) : lz n 0 := Nat.zero_le _
theorem lz_one {n : Nat} (h : 1 ≤ n) : lz n 1 := Nat.le_trans (digs_len_le (k := 1) (by decide)) h
theorem lz_step {n : Nat} {p x y z : Int} (hp : lz n p) (hx : lz n x) (hy : lz n y) (hz : lz n z) (q : Int) : lz (2 * n + 1) (stepE p x y z q) := by
  unfold stepE
  have h1 := lz_mul hp hx
  have h2 := lz_mul hy hz
  have h3 := lz_sub h1 h2
  rw [show n + n + 1 = 2 * n + 1 by omega] at h3
  exact lz_div h3 q
theorem lz_stepR {n k c : Nat} {last : Int} {full : Bool} {R : Nat → Nat → Int} (h : ∀ i j, lz n (R i j)) : ∀ i j, lz (2 * n + 1) (stepR k c last full R i j) := fun i j => by
  unfold stepR; split
  · exact lz_step (h _ _) (h _ _) (h _ _) (h _ _) _
  · exact (h _ _).mono (by omega)
theorem fill_rows {sv : Option Nat} {T : TypeId} {cap n w i : Nat} {R S : Nat → Nat → Int} {f : Nat → Int} (hf : ∀ j, f j = S i j) : Own.le (sliO sv T .one cap n (upd (fun q => rowF w (if q < i then S q else R q)) i (rowF w f))) (sliO sv T .one cap n (fun q => rowF w (if q < i + 1 then S q else R q))) := sliO_eq (fun q _ => by
  have e : f = S i := funext hf
  show (if q = i then rowF w f else rowF w (if q < i then S q else R q)) = _
  by_cases c : q = i
  · rw [if_pos c, if_pos (by omega), c, e]
  · rw [if_neg c]
    by_cases c2 : q < i
    · rw [if_pos c2, if_pos (by omega)]
    · rw [if_neg c2, if_neg (by omega)])
theorem keep_rows {sv : Option Nat} {T : TypeId} {cap n w i : Nat} {R S : Nat → Nat → Int} (hf : ∀ j, R i j = S i j) : Own.le (sliO sv T .one cap n (fun q => rowF w (if q < i then S q else R q))) (sliO sv T .one cap n (fun q => rowF w (if q < i + 1 then S q else R q))) := sliO_eq (fun q _ => by
  have e : R i = S i := funext hf
  by_cases c : q = i
  · subst c; rw [if_neg (by omega), if_pos (by omega), e]
  · by_cases c2 : q < i
    · rw [if_pos c2, if_pos (by omega)]
    · rw [if_neg c2, if_neg (by omega)])
theorem nil_slV : VT.le (one (.slice none 0 0)) (one (slV none 0 0)) := one_le rfl
instance {n : Nat} {f : Nat → Int} : Flat (rowF n f) .one := by unfold rowF; infer_instance
attribute [local irreducible] Tor.J Tor.PJ Tor.StepO Tor.one Tor.slT Tor.ptrT Tor.aggT Tor.tupT Tor.exT Tor.andT Tor.eP Tor.boxO Tor.sliO Tor.slV Tor.VT.le Tor.Ret Tor.anyT Tor.xO
set_option maxHeartbeats 1000000 in
theorem CloneR_ok (r : Nat) (φ : Nat → VT) [hF : ∀ i, Flat (φ i) .one] (hr : r ≤ 1048576) : OkM (σ := Option Nat × Nat) Tryz.prog 78 [slT .one r φ] (fun s => one (slV s.1 r s.2)) (fun s => [sliO s.1 30 .one s.2 r φ]) := by
  refine OkM.enter Tryz.func78 rfl Tryz.ntmps78 rfl (fun w O => ?_)
  refine J_seq (J_reg (st (s_assign rfl) rfl (Run.nil (pj_then (J_seq (J_seq (J_reg (st (s_move rfl) rfl (st (s_eqNil rfl) rfl ?_)))))))))
  refine Run.nil (pj_then ?_)
  refine J_ex (t := 4) rfl (fun b => ?_)
  refine J_and (t := 4) rfl (fun hb => ?_)
  refine J_cond rfl (fun hc => ?_) (fun hc => ?_)
  · have h0 := hb hc
    subst h0
    refine J_seq (J_reg (st (s_assign rfl) rfl (Run.nil (pj_then (J_ret (pr_then (PJ_addM (sliO_none0 30 .one φ) ?_)))))))
    exact retM1 (σ := Option Nat × Nat) (ψ := fun s => one (slV s.1 0 s.2)) (Ms := fun s => [sliO s.1 30 .one s.2 0 φ]) (none, 0) Tryz.results78 (.tmp rfl nil_slV) (SubM.refl _)
  · refine J_skip (pj_then (J_seq (J_reg (stSO (n := 0) rfl rfl rfl rfl rfl ?_))))
    refine PartsK.nil (fun bl => ?_)
    refine st (s_move rfl) rfl ?_
    (refine a_append 0 rfl rfl rfl (leN rfl) ?_ ?_ rfl (ltN rfl) (fun sv7 cap7 => ?_); omega; omega)
    refine st (s_assign rfl) rfl (Run.nil (pj_then (J_ret ?_)))
    exact retM1 (σ := Option Nat × Nat) (ψ := fun s => one (slV s.1 r s.2)) (Ms := fun s => [sliO s.1 30 .one s.2 r φ]) (sv7, cap7) Tryz.results78 (.tmp rfl (slV_len (Nat.zero_add r))) (.keep (sliO_len (Nat.zero_add r) (fun q hq => by rw [if_neg (Nat.not_lt_zero q), Nat.sub_zero])) .nil)
attribute [local irreducible] bigT rowF
set_option maxHeartbeats 4000000 in
theorem step_ok (b bs r cap : Nat) (last : Int) (odd : Bool) (ψ : VT) (w : Nat) (R : Nat → Nat → Int) (k c : Nat) (full : Bool) (n : Nat) (hk : k < r) (hc : c < w) (hw : w ≤ 1048576) (hr : r ≤ 1048576) (hl0 : last ≠ 0) (hn : 2 * n + 1 ≤ 1099511627776) (hl : lz n last) (hR : ∀ i j, lz n (R i j)) :
    OkI Tryz.prog 80 [one (.pointer (some ⟨b, 0, none⟩)), one (.int .i64 (k : Nat)), one (.int .i64 (c : Nat)), one (.bool full)] [elimO b (some bs) r cap last odd ψ, sliO (some bs) 30 .one cap r (fun i => rowF w (R i))]
      (fun _ : Unit => tupT []) (fun _ => [elimO b (some bs) r cap (R k c) odd ψ, sliO (some bs) 30 .one cap r (fun i => rowF w (stepR k c last full R i))]) := by
  have hrep := fun f g (hf : ∀ j, lz n (f j)) (hg : ∀ j, lz n (g j)) => replaced_ok b (some bs) r cap last odd ψ w c f g hc hw hl0 (hl.small (by omega)) (fun j => (hf j).small (by omega)) (fun j => (hg j).small (by omega)) (fun j => (lz_mul (hg c) (hf j)).small (by omega)) (fun j => (lz_mul (hf c) (hg j)).small (by omega)) (fun j => (lz_sub (lz_mul (hg c) (hf j)) (lz_mul (hf c) (hg j))).small (by omega))
  refine OkI.enter Tryz.func80 rfl Tryz.ntmps80 rfl (fun w0 O => ?_)
  refine J_seq (J_reg (st (s_move rfl) rfl (st (s_nilCheckP rfl) rfl (st (s_fieldAddr rfl) rfl (st (s_loadB 0 rfl rfl rfl) rfl (st (s_move rfl) rfl (st (s_indexON rfl rfl (by omega)) rfl (st (s_loadE 1 rfl rfl (by omega)) rfl (st (s_assign rfl) rfl ?_)))))))))
  refine Run.nil (pj_then (J_seq (J_seq (J_reg (st (s_move rfl) rfl (st (s_nilCheckP rfl) rfl (st (s_fieldAddr rfl) rfl (st (s_loadB 0 rfl rfl rfl) rfl (st (s_lenO rfl) rfl ?_)))))))))
  refine st (s_move rfl) rfl (Run.nil (pj_then (J_block (J_sub (Γ' := [(0, _), (1, _), (2, _), (3, _), (8, _), (21, _), (22, _), (23, _)]) (SubG.cons rfl (VT.le_refl _) (SubG.cons rfl (VT.le_refl _) (SubG.cons rfl (VT.le_refl _) (SubG.cons rfl (VT.le_refl _) (SubG.cons rfl (VT.le_refl _) (SubG.cons rfl (VT.le_refl _) (SubG.cons rfl (VT.le_refl _) (SubG.cons rfl (VT.le_refl _) (SubG.nil))))))))) (SubM.refl _) ?_))))
  refine J_loopA (σ := Nat) (Γk := [(0, _), (1, _), (2, _), (3, _), (8, _), (21, _), (22, _)]) (SubG.cons rfl (VT.le_refl _) (SubG.cons rfl (VT.le_refl _) (SubG.cons rfl (VT.le_refl _) (SubG.cons rfl (VT.le_refl _) (SubG.cons rfl (VT.le_refl _) (SubG.cons rfl (VT.le_refl _) (SubG.cons rfl (VT.le_refl _) (SubG.nil)))))))) (fun i => [(23, one (.int .i64 (i : Nat)))]) (fun i M0 => (M0.set 1 (sliO (some bs) 30 .one cap r (fun q => rowF w (if q < i then stepR k c last full R q else R q))))) (fun i => i ≤ r) (fun i => r - i) (0) (Nat.zero_le _) (by repeat (first | exact SubG.refl _ | exact SubG.nil | refine SubG.cons rfl (VT.le_refl _) ?_ | (refine SubG.cons rfl (one_le ?_) ?_; (congr 1; first | omega | (simp; omega) | simp)))) (.keep (Own.le_refl _) (.keep (Own.le_refl _) (.nil))) (fun i hi => ?_)
  refine J_norm (Γ' := [(23, _), (0, _), (1, _), (2, _), (3, _), (8, _), (21, _), (22, _)]) (M' := [_, _]) rfl rfl ?_
  cases full with
  | true =>
    by_cases hi : i < r
    · by_cases h1 : k < i
      · refine J_seq (J_reg (st (sT (by omega) (s_lt rfl rfl)) rfl (Run.nil (pj_then (J_seq (J_cond1 rfl (J_skip (pj_then (J_seq ?_)))))))))
        refine J_block (J_seq (J_reg (st (s_move rfl) rfl (st (s_indexON rfl rfl (by omega)) rfl (st (s_loadE 1 rfl rfl (by omega)) rfl (st (s_assign rfl) rfl (st (s_assign rfl) rfl (Run.nil (pj_then ?_)))))))))
        refine J_seq (J_reg (st (s_move rfl) rfl (st (s_move rfl) rfl (st (sT (by omega) (s_gt rfl rfl)) rfl (st (s_move rfl) rfl (sn0 rfl rfl rfl rfl rfl (sn0 rfl rfl rfl rfl rfl (snU rfl rfl rfl rfl (snU rfl rfl rfl rfl ?_)))))))))
        refine snU rfl rfl rfl rfl (sn0 rfl rfl rfl rfl rfl (st (s_pickT rfl rfl) rfl (Run.nil (pj_then (J_cond1 rfl (J_regd 10 mixed (by kernel_rfl) (by decide) (st (s_move rfl) rfl (st (s_nilCheckP rfl) rfl (st (s_fieldAddr rfl) rfl ?_)))))))))
        refine st (s_loadB 0 rfl rfl rfl) rfl (st (s_move rfl) rfl (st (s_move rfl) rfl (st (s_move rfl) rfl (st (s_move rfl) rfl (st (s_move rfl) rfl ?_)))))
        refine st (s_callR (Min := [elimO b (some bs) r cap last odd ψ]) (Kp := [_]) (hrep (R i) (R k) (hR i) (hR k)) rfl ⟨VT.le_refl _, le_eq (by rw [if_neg (Nat.lt_irrefl i)]), VT.le_refl _, VT.le_refl _, trivial⟩ (List.Perm.refl _)) rfl ?_
        refine Run.nil (st (s_indexON rfl rfl (by omega)) rfl ?_)
        (refine a_storeE 1 rfl rfl rfl ?_ rfl ?_; omega)
        refine Run.nil (pn_block (pj_then (J_reg (st (s_addN _ 1 rfl rfl (by omega)) rfl (st (s_move rfl) rfl (Run.nil ?_))))))
        refine pj_roundM (i + 1) (hi) (by omega) (by repeat (first | exact SubG.refl _ | exact SubG.nil | refine SubG.cons rfl (VT.le_refl _) ?_ | (refine SubG.cons rfl (one_le ?_) ?_; (congr 1; first | omega | (simp; omega) | simp)))) (.keep (Own.le_refl _) (.keep (fill_rows (fun j => by unfold stepR; simp [h1])) (.nil)))
      · by_cases h2 : i < k
        · refine J_seq (J_reg (st (sT (by omega) (s_lt rfl rfl)) rfl (Run.nil (pj_then (J_seq (J_cond1 rfl (J_skip (pj_then (J_seq ?_)))))))))
          refine J_block (J_seq (J_reg (st (s_move rfl) rfl (st (s_indexON rfl rfl (by omega)) rfl (st (s_loadE 1 rfl rfl (by omega)) rfl (st (s_assign rfl) rfl (st (s_assign rfl) rfl (Run.nil (pj_then ?_)))))))))
          refine J_seq (J_reg (st (s_move rfl) rfl (st (s_move rfl) rfl (st (sF (by omega) (s_gt rfl rfl)) rfl (st (s_move rfl) rfl (sg1 rfl rfl (s_move rfl) rfl (sg1 rfl rfl (s_move rfl) rfl (sg1 rfl rfl (s_move rfl) rfl (sg1 rfl rfl (s_move rfl) rfl ?_)))))))))
          refine sg1 rfl rfl (sT (by omega) (s_lt rfl rfl)) rfl (sg1 rfl rfl (s_pickT rfl rfl) rfl (st (s_pickF rfl rfl) rfl (Run.nil (pj_then (J_cond1 rfl (J_regd 10 mixed (by kernel_rfl) (by decide) (st (s_move rfl) rfl (st (s_nilCheckP rfl) rfl (st (s_fieldAddr rfl) rfl ?_)))))))))
          refine st (s_loadB 0 rfl rfl rfl) rfl (st (s_move rfl) rfl (st (s_move rfl) rfl (st (s_move rfl) rfl (st (s_move rfl) rfl (st (s_move rfl) rfl ?_)))))
          refine st (s_callR (Min := [elimO b (some bs) r cap last odd ψ]) (Kp := [_]) (hrep (R i) (R k) (hR i) (hR k)) rfl ⟨VT.le_refl _, le_eq (by rw [if_neg (Nat.lt_irrefl i)]), VT.le_refl _, VT.le_refl _, trivial⟩ (List.Perm.refl _)) rfl ?_
          refine Run.nil (st (s_indexON rfl rfl (by omega)) rfl ?_)
          (refine a_storeE 1 rfl rfl rfl ?_ rfl ?_; omega)
          refine Run.nil (pn_block (pj_then (J_reg (st (s_addN _ 1 rfl rfl (by omega)) rfl (st (s_move rfl) rfl (Run.nil ?_))))))
          refine pj_roundM (i + 1) (hi) (by omega) (by repeat (first | exact SubG.refl _ | exact SubG.nil | refine SubG.cons rfl (VT.le_refl _) ?_ | (refine SubG.cons rfl (one_le ?_) ?_; (congr 1; first | omega | (simp; omega) | simp)))) (.keep (Own.le_refl _) (.keep (fill_rows (fun j => by unfold stepR; simp [h2])) (.nil)))
        · refine J_seq (J_reg (st (sT (by omega) (s_lt rfl rfl)) rfl (Run.nil (pj_then (J_seq (J_cond1 rfl (J_skip (pj_then (J_seq ?_)))))))))
          refine J_block (J_seq (J_reg (st (s_move rfl) rfl (st (s_indexON rfl rfl (by omega)) rfl (st (s_loadE 1 rfl rfl (by omega)) rfl (st (s_assign rfl) rfl (st (s_assign rfl) rfl (Run.nil (pj_then ?_)))))))))
          refine J_seq (J_reg (st (s_move rfl) rfl (st (s_move rfl) rfl (st (sF (by omega) (s_gt rfl rfl)) rfl (st (s_move rfl) rfl (sg1 rfl rfl (s_move rfl) rfl (sg1 rfl rfl (s_move rfl) rfl (sg1 rfl rfl (s_move rfl) rfl (sg1 rfl rfl (s_move rfl) rfl ?_)))))))))
          refine sg1 rfl rfl (sF (by omega) (s_lt rfl rfl)) rfl (sg1 rfl rfl (s_pickT rfl rfl) rfl (st (s_pickF rfl rfl) rfl (Run.nil (pj_then (J_cond0 rfl (J_skip (pn_block (pj_then (J_reg ?_)))))))))
          refine st (s_addN _ 1 rfl rfl (by omega)) rfl (st (s_move rfl) rfl (Run.nil ?_))
          refine pj_roundM (i + 1) (hi) (by omega) (by repeat (first | exact SubG.refl _ | exact SubG.nil | refine SubG.cons rfl (VT.le_refl _) ?_ | (refine SubG.cons rfl (one_le ?_) ?_; (congr 1; first | omega | (simp; omega) | simp)))) (.keep (Own.le_refl _) (.keep (keep_rows (fun j => by unfold stepR; simp [h1, h2])) (.nil)))
    · have he : i = r := by omega
      subst he
      unfold rowF
      refine J_seq (J_reg (st (sF (by omega) (s_lt rfl rfl)) rfl (Run.nil (pj_then (J_seq (J_cond0 rfl (J_exit (px_then (px_then ?_)))))))))
      refine px_block (pj_then (J_reg (st (s_move rfl) rfl (st (s_move rfl) rfl (st (s_move rfl) rfl (st (s_indexIN rfl rfl (by omega)) rfl (st (s_load rfl) rfl (st (s_nilCheckP rfl) rfl (st (s_fieldAddr rfl) rfl ?_)))))))))
      refine a_storeB 0 rfl rfl rfl rfl rfl (leN rfl) rfl (Run.nil (pj_fall ?_))
      exact retI0 (σ := Unit) (ψ := fun _ => tupT []) () Tryz.results80 (VT.le_refl _) (.keep (Own.le_refl _) (.keep (sliO_eq fun q hq => by rw [if_pos hq]) .nil))
  | false =>
    by_cases hi : i < r
    · by_cases h1 : k < i
      · refine J_seq (J_reg (st (sT (by omega) (s_lt rfl rfl)) rfl (Run.nil (pj_then (J_seq (J_cond1 rfl (J_skip (pj_then (J_seq ?_)))))))))
        refine J_block (J_seq (J_reg (st (s_move rfl) rfl (st (s_indexON rfl rfl (by omega)) rfl (st (s_loadE 1 rfl rfl (by omega)) rfl (st (s_assign rfl) rfl (st (s_assign rfl) rfl (Run.nil (pj_then ?_)))))))))
        refine J_seq (J_reg (st (s_move rfl) rfl (st (s_move rfl) rfl (st (sT (by omega) (s_gt rfl rfl)) rfl (st (s_move rfl) rfl (sn0 rfl rfl rfl rfl rfl (sn0 rfl rfl rfl rfl rfl (snU rfl rfl rfl rfl (snU rfl rfl rfl rfl ?_)))))))))
        refine snU rfl rfl rfl rfl (sn0 rfl rfl rfl rfl rfl (st (s_pickT rfl rfl) rfl (Run.nil (pj_then (J_cond1 rfl (J_regd 10 mixed (by kernel_rfl) (by decide) (st (s_move rfl) rfl (st (s_nilCheckP rfl) rfl (st (s_fieldAddr rfl) rfl ?_)))))))))
        refine st (s_loadB 0 rfl rfl rfl) rfl (st (s_move rfl) rfl (st (s_move rfl) rfl (st (s_move rfl) rfl (st (s_move rfl) rfl (st (s_move rfl) rfl ?_)))))
        refine st (s_callR (Min := [elimO b (some bs) r cap last odd ψ]) (Kp := [_]) (hrep (R i) (R k) (hR i) (hR k)) rfl ⟨VT.le_refl _, le_eq (by rw [if_neg (Nat.lt_irrefl i)]), VT.le_refl _, VT.le_refl _, trivial⟩ (List.Perm.refl _)) rfl ?_
        refine Run.nil (st (s_indexON rfl rfl (by omega)) rfl ?_)
        (refine a_storeE 1 rfl rfl rfl ?_ rfl ?_; omega)
        refine Run.nil (pn_block (pj_then (J_reg (st (s_addN _ 1 rfl rfl (by omega)) rfl (st (s_move rfl) rfl (Run.nil ?_))))))
        refine pj_roundM (i + 1) (hi) (by omega) (by repeat (first | exact SubG.refl _ | exact SubG.nil | refine SubG.cons rfl (VT.le_refl _) ?_ | (refine SubG.cons rfl (one_le ?_) ?_; (congr 1; first | omega | (simp; omega) | simp)))) (.keep (Own.le_refl _) (.keep (fill_rows (fun j => by unfold stepR; simp [h1])) (.nil)))
      · refine J_seq (J_reg (st (sT (by omega) (s_lt rfl rfl)) rfl (Run.nil (pj_then (J_seq (J_cond1 rfl (J_skip (pj_then (J_seq ?_)))))))))
        refine J_block (J_seq (J_reg (st (s_move rfl) rfl (st (s_indexON rfl rfl (by omega)) rfl (st (s_loadE 1 rfl rfl (by omega)) rfl (st (s_assign rfl) rfl (st (s_assign rfl) rfl (Run.nil (pj_then ?_)))))))))
        refine J_seq (J_reg (st (s_move rfl) rfl (st (s_move rfl) rfl (st (sF (by omega) (s_gt rfl rfl)) rfl (st (s_move rfl) rfl (sg1 rfl rfl (s_move rfl) rfl (sg1 rfl rfl (s_move rfl) rfl (sn0 rfl rfl rfl rfl rfl (sn0 rfl rfl rfl rfl rfl ?_)))))))))
        refine sn0 rfl rfl rfl rfl rfl (sg1 rfl rfl (s_pickF rfl rfl) rfl (st (s_pickF rfl rfl) rfl (Run.nil (pj_then (J_cond0 rfl (J_skip (pn_block (pj_then (J_reg ?_)))))))))
        refine st (s_addN _ 1 rfl rfl (by omega)) rfl (st (s_move rfl) rfl (Run.nil ?_))
        refine pj_roundM (i + 1) (hi) (by omega) (by repeat (first | exact SubG.refl _ | exact SubG.nil | refine SubG.cons rfl (VT.le_refl _) ?_ | (refine SubG.cons rfl (one_le ?_) ?_; (congr 1; first | omega | (simp; omega) | simp)))) (.keep (Own.le_refl _) (.keep (keep_rows (fun j => by unfold stepR; simp [h1])) (.nil)))
    · have he : i = r := by omega
      subst he
      unfold rowF
      refine J_seq (J_reg (st (sF (by omega) (s_lt rfl rfl)) rfl (Run.nil (pj_then (J_seq (J_cond0 rfl (J_exit (px_then (px_then ?_)))))))))
      refine px_block (pj_then (J_reg (st (s_move rfl) rfl (st (s_move rfl) rfl (st (s_move rfl) rfl (st (s_indexIN rfl rfl (by omega)) rfl (st (s_load rfl) rfl (st (s_nilCheckP rfl) rfl (st (s_fieldAddr rfl) rfl ?_)))))))))
      refine a_storeB 0 rfl rfl rfl rfl rfl (leN rfl) rfl (Run.nil (pj_fall ?_))
      exact retI0 (σ := Unit) (ψ := fun _ => tupT []) () Tryz.results80 (VT.le_refl _) (.keep (Own.le_refl _) (.keep (sliO_eq fun q hq => by rw [if_pos hq]) .nil))
end Tor
end
section
namespace Tor
open Go Go.RowKit Go.Proofs
def bndN (n : Nat) : Nat → Nat
  | 0 => n
  | p + 1 => 2 * bndN n p + 1
theorem bndN_eq (n : Nat) : ∀ p, bndN n p + 1 = (n + 1) * 2 ^ p
  | 0 => by rw [Nat.pow_zero, Nat.mul_one]; rfl
  | p + 1 => by
    have := bndN_eq n p
    show 2 * bndN n p + 1 + 1 = _
    rw [Nat.pow_succ, ← Nat.mul_assoc, ← this]; omega
theorem bndN_le {n p q : Nat} (h : p ≤ q) : bndN n p ≤ bndN n q := by
  have h1 := bndN_eq n p
  have h2 := bndN_eq n q
  have h3 : (n + 1) * 2 ^ p ≤ (n + 1) * 2 ^ q := Nat.mul_le_mul_left _ (Nat.pow_le_pow_right (by decide) h)
  omega
structure ElOk (n r : Nat) (e : ElS) : Prop where
  p : e.piv.length ≤ r
  nz : e.last ≠ 0
  last : lz (bndN n e.piv.length) e.last
  R : ∀ i j, lz (bndN n e.piv.length) (e.R i j)
theorem lz_swp {n i k : Nat} {R : Nat → Nat → Int} (h : ∀ i j, lz n (R i j)) : ∀ q j, lz n (swp i k R q j) := fun q j => by
  unfold swp; split
  · exact h _ _
  · split
    · exact h _ _
    · exact h _ _
theorem ElOk.start {n r : Nat} {F : Nat → Nat → Int} (hn : 1 ≤ n) (h : ∀ i j, lz n (F i j)) : ElOk n r ⟨F, 1, false, []⟩ := ⟨Nat.zero_le _, (by decide : (1 : Int) ≠ 0), lz_one hn, h⟩
theorem ElOk.round {n r : Nat} {e : ElS} (h : ElOk n r e) {i c : Nat} (full : Bool) (hp : e.piv.length < r) (hn : swp i e.piv.length e.R e.piv.length c ≠ 0) :
    ElOk n r ⟨stepR e.piv.length c e.last full (swp i e.piv.length e.R), swp i e.piv.length e.R e.piv.length c, xor e.odd (decide (i ≠ e.piv.length)), e.piv ++ [c]⟩ := by
  have hl : (e.piv ++ [c]).length = e.piv.length + 1 := by simp
  refine ⟨by rw [hl]; exact hp, hn, ?_, fun i' j => ?_⟩
  · show lz (bndN n (e.piv ++ [c]).length) _
    rw [hl]; exact (lz_swp h.R _ _).mono (bndN_le (Nat.le_succ _))
  · show lz (bndN n (e.piv ++ [c]).length) _
    rw [hl]; exact lz_stepR (lz_swp h.R) _ _
theorem elN_ok {n r : Nat} (full : Bool) {F : Nat → Nat → Int} (hn : 1 ≤ n) (hF : ∀ i j, lz n (F i j)) : ∀ c, ElOk n r (elN r full F c)
  | 0 => ElOk.start hn hF
  | c + 1 => by
    have h := elN_ok (r := r) full hn hF c
    show ElOk n r (elR r full c (elN r full F c))
    generalize elN r full F c = e at h
    rcases el_cases e.R c e.piv.length r with h0 | ⟨i, hk, hi, h0, hn'⟩
    · rw [elR_none h0]; exact h
    · have hp : e.piv.length < r := by omega
      rw [elR_some hp hk hi h0 hn']
      exact h.round full hp (by rw [swp_at]; exact hn')
def ElI (n r : Nat) (full : Bool) (F : Nat → Nat → Int) (c : Nat) (e : ElS) : Prop := e = elN r full F c ∧ ElOk n r e
abbrev pivF (l : List Nat) : Nat → VT := fun q => one (.int .i64 (l.getD q 0 : Nat))
def elimT (r w : Nat) (e : ElS) : VT := ptrT (.agg 5) (aggT 5 [(0, .agg 4, aggT 4 [(0, .one, slT .one r (fun i => rowF w (e.R i))), (1, .agg 2, bigT e.last), (3, .one, one (.bool e.odd))]), (4, .one, slT .one e.piv.length (pivF e.piv))])
theorem elimT_of (r w : Nat) (e : ElS) : VT.le (ptrT (.agg 5) (aggT 5 [(0, .one, slT .one r (fun i => rowF w (e.R i))), (1, .agg 2, bigT e.last), (3, .one, one (.bool e.odd)), (4, .one, slT .one e.piv.length (pivF e.piv))])) (elimT r w e) :=
  ptrT_le' (agg_nest (m := 5) (o := 0) (k := 4) (cs := [(0, .one, slT .one r (fun i => rowF w (e.R i))), (1, .agg 2, bigT e.last), (3, .one, one (.bool e.odd))]) (rest := [(4, .one, slT .one e.piv.length (pivF e.piv))]) rfl (by decide))
theorem elim_start {b r cap : Nat} {sv : Option Nat} : Own.le (boxO b 81 5 (setC (zeroC #[Value.slice none 0 0, Value.bool false, Value.slice none 0 0, Value.bool false, Value.slice none 0 0] [(0, Lay.agg 4), (4, .one)]) 0 (aggT 4 (setC (setC (zeroC #[Value.slice none 0 0, Value.bool false, Value.slice none 0 0, Value.bool false] [(0, .one), (1, Lay.agg 2), (3, .one)]) 0 (one (slV sv r cap))) 1 (bigT 1)))))
    (elimO b sv r cap 1 false (one (slV none 0 0))) := box_in (o := 0) (k := 4) (cs := [(0, .one, one (slV sv r cap)), (1, .agg 2, bigT 1), (3, .one, one (.bool false))]) (rest := [(4, .one, one (.slice none 0 0))]) rfl
theorem elim_next {b r cap : Nat} {last : Int} {odd : Bool} {sv svp : Option Nat} {capp c : Nat} {l : List Nat} : Own.le (elimO b sv r cap last odd (one (slV svp (l.length + 1) capp))) (elimO b sv r cap last odd (one (slV svp (l ++ [c]).length capp))) := by
  rw [List.length_append]; exact Own.le_refl _
theorem piv_next {sv : Option Nat} {T : TypeId} {cap c : Nat} {l : List Nat} : Own.le (sliO sv T .one cap (l.length + 1) (fun q => if q < l.length then pivF l q else one (.int .i64 (c : Nat)))) (sliO sv T .one cap (l ++ [c]).length (pivF (l ++ [c]))) := sliO_len (by simp) (fun q hq => by
  show _ = one (Value.int .i64 ((l ++ [c]).getD q 0 : Nat))
  by_cases h : q < l.length
  · rw [if_pos h]; show one (Value.int .i64 (l.getD q 0 : Nat)) = _; simp [List.getD, List.getElem?_append_left h]
  · have : q = l.length := by omega
    subst this; rw [if_neg h]; simp [List.getD])
attribute [local irreducible] Tor.J Tor.PJ Tor.StepO Tor.one Tor.slT Tor.ptrT Tor.aggT Tor.tupT Tor.exT Tor.andT Tor.eP Tor.boxO Tor.sliO Tor.slV Tor.VT.le Tor.Ret Tor.anyT Tor.xO
attribute [local irreducible] bigT rowF
set_option maxHeartbeats 4000000 in
theorem run_ok (r w cols : Nat) (F : Nat → Nat → Int) (full : Bool) (n : Nat) (hr : r ≤ 1048576) (hw : w ≤ 1048576) (hcw : cols ≤ w) (hn : 1 ≤ n) (hb : (n + 1) * 2 ^ r ≤ 1099511627776) (hF : ∀ i j, lz n (F i j)) :
    OkM (σ := Nat × Option Nat × Nat × Option Nat × Nat) Tryz.prog 44 [slT .one r (fun i => rowF w (F i)), one (.int .i64 (cols : Nat)), one (.bool full)] (fun s => one (.pointer (some ⟨s.1, 0, none⟩)))
      (fun s => [elimO s.1 s.2.1 r s.2.2.1 (elN r full F cols).last (elN r full F cols).odd (one (slV s.2.2.2.1 (elN r full F cols).piv.length s.2.2.2.2)), sliO s.2.1 30 .one s.2.2.1 r (fun i => rowF w ((elN r full F cols).R i)), sliO s.2.2.2.1 3 .one s.2.2.2.2 (elN r full F cols).piv.length (pivF (elN r full F cols).piv)]) := by
  refine OkM.enter Tryz.func44 rfl Tryz.ntmps44 rfl (fun w0 O => ?_)
  have hcl := CloneR_ok r (fun i => rowF w (F i)) hr
  refine J_seq (J_reg (st (s_assign rfl) rfl (Run.nil (pj_then (J_scope (J_seq (J_reg (st (s_move rfl) rfl ?_))))))))
  refine a_callM (hcl ) rfl ⟨VT.le_refl _, trivial⟩ rfl rfl (fun s12 => ?_)
  refine st (s_callk (Of_ok _ (by omega) (by omega)) rfl ⟨VT.le_refl _, trivial⟩) rfl ?_
  refine stB rfl rfl rfl (BuildK.cons rfl rfl rfl (BuildK.cons rfl rfl rfl (BuildK.nil (stB rfl rfl rfl (BuildK.cons rfl rfl rfl (BuildK.nil ?_))))))
  refine a_boxS rfl rfl (ltN rfl) (fun b16 => ?_)
  refine st (s_assign rfl) rfl (Run.nil (pj_then (J_seq (J_label (pj_then (J_seq (J_seq (J_reg (st (s_assign rfl) rfl ?_)))))))))
  refine Run.nil (pj_then (J_block ?_))
  obtain ⟨sv, cap⟩ := s12
  refine J_addM (sliO_none0 3 .one (pivF [])) (J_sub (Γ' := [(1, _), (2, _), (6, _), (7, _), (8, _)]) (SubG.cons rfl (VT.le_refl _) (SubG.cons rfl (VT.le_refl _) (SubG.cons rfl (VT.le_refl _) (SubG.cons rfl (VT.le_refl _) (SubG.cons rfl (VT.le_refl _) (SubG.nil)))))) (SubM.refl _) ?_)
  refine J_loopA (σ := Nat × ElS × Option Nat × Nat) (Γk := [(1, _), (2, _), (6, _), (7, _)]) (SubG.cons rfl (VT.le_refl _) (SubG.cons rfl (VT.le_refl _) (SubG.cons rfl (VT.le_refl _) (SubG.cons rfl (VT.le_refl _) (SubG.nil))))) (fun s => [(8, one (.int .i64 (s.1 : Nat)))]) (fun s M0 => (((M0.set 2 (sliO sv 30 .one cap r (fun i => rowF w (s.2.1.R i)))).set 1 (elimO b16 sv r cap s.2.1.last s.2.1.odd (one (slV s.2.2.1 s.2.1.piv.length s.2.2.2)))).set 0 (sliO s.2.2.1 3 .one s.2.2.2 s.2.1.piv.length (pivF s.2.1.piv)))) (fun s => s.1 ≤ cols ∧ ElI n r full F s.1 s.2.1) (fun s => cols - s.1) ((0, ⟨F, 1, false, []⟩, none, 0)) (⟨Nat.zero_le _, rfl, ElOk.start hn hF⟩) (by repeat (first | exact SubG.refl _ | exact SubG.nil | refine SubG.cons rfl (VT.le_refl _) ?_ | (refine SubG.cons rfl (one_le ?_) ?_; (congr 1; first | omega | (simp; omega) | simp)))) (.keep (Own.le_refl _) (.keep (elim_start) (.keep (Own.le_refl _) (.nil)))) (fun s hs => ?_)
  refine J_norm (Γ' := [(8, _), (1, _), (2, _), (6, _), (7, _)]) (M' := [_, _, _]) rfl rfl ?_
  obtain ⟨c, e, svp, capp⟩ := s
  obtain ⟨hcc, hE, hO⟩ := hs
  dsimp only at hcc hE hO ⊢
  refine J_factM (i := 2) (F := sv = none → r = 0) rfl (fun g h hp he => sliO_none hp he) (fun hsv => ?_)
  have hpr := hO.p
  by_cases hc : c < cols
  · by_cases hp : e.piv.length < r
    · obtain ⟨bs, rfl⟩ := sv_some hsv (by omega)
      have hbn := bndN_eq n (e.piv.length + 1)
      have hbp : (n + 1) * 2 ^ (e.piv.length + 1) ≤ (n + 1) * 2 ^ r := Nat.mul_le_mul_left _ (Nat.pow_le_pow_right (by decide) hp)
      have hbb : 2 * bndN n e.piv.length + 1 ≤ 1099511627776 := by
        have : bndN n (e.piv.length + 1) = 2 * bndN n e.piv.length + 1 := rfl
        omega
      refine J_seq (J_seq (J_regd 17 mixed (by kernel_rfl) (by decide) (st (s_move rfl) rfl (st (s_move rfl) rfl (st (sT (by omega) (s_lt rfl rfl)) rfl (st (s_move rfl) rfl (sg1 rfl rfl (s_move rfl) rfl (sg1 rfl rfl (s_nilCheckP rfl) rfl (sg1 rfl rfl (s_fieldAddr rfl) rfl ?_)))))))))
      refine sg1 rfl rfl (s_loadB 1 rfl rfl rfl) rfl (sg1 rfl rfl (s_lenO rfl) rfl (sg1 rfl rfl (s_move rfl) rfl (sg1 rfl rfl (s_nilCheckP rfl) rfl (sg1 rfl rfl (s_fieldAddr rfl) rfl (sg1 rfl rfl (s_fieldAddr rfl) rfl (sg1 rfl rfl (s_loadB 1 rfl rfl rfl) rfl (sg1 rfl rfl (s_lenO rfl) rfl (sg1 rfl rfl (sT (by omega) (s_lt rfl rfl)) rfl (st (s_pickT rfl rfl) rfl ?_)))))))))
      refine Run.nil (Run.nil (pj_then (J_cond1 rfl (J_skip (pj_then (J_seq (J_block (J_seq (J_reg ?_)))))))))
      refine st (s_move rfl) rfl (st (s_nilCheckP rfl) rfl (st (s_fieldAddr rfl) rfl (st (s_loadB 1 rfl rfl rfl) rfl (st (s_lenO rfl) rfl (st (s_assign rfl) rfl (Run.nil (pj_then (J_seq (J_reg ?_)))))))))
      refine st (s_move rfl) rfl (st (s_assign rfl) rfl (Run.nil (pj_then (J_block (J_sub (Γ' := [(1, _), (2, _), (6, _), (7, _), (8, _), (9, _), (10, _)]) (SubG.cons rfl (VT.le_refl _) (SubG.cons rfl (VT.le_refl _) (SubG.cons rfl (VT.le_refl _) (SubG.cons rfl (VT.le_refl _) (SubG.cons rfl (VT.le_refl _) (SubG.cons rfl (VT.le_refl _) (SubG.cons rfl (VT.le_refl _) (SubG.nil)))))))) (SubM.refl _) ?_)))))
      refine J_loopA (σ := Nat) (Γk := [(1, _), (2, _), (6, _), (7, _), (8, _), (9, _)]) (SubG.cons rfl (VT.le_refl _) (SubG.cons rfl (VT.le_refl _) (SubG.cons rfl (VT.le_refl _) (SubG.cons rfl (VT.le_refl _) (SubG.cons rfl (VT.le_refl _) (SubG.cons rfl (VT.le_refl _) (SubG.nil))))))) (fun i => [(10, one (.int .i64 (i : Nat)))]) (fun i M0 => M0) (fun i => e.piv.length ≤ i ∧ i ≤ r ∧ ∀ q, e.piv.length ≤ q → q < i → e.R q c = 0) (fun i => r - i) (e.piv.length) (⟨Nat.le_refl _, hpr, fun q h1 h2 => absurd h2 (by omega)⟩) (by repeat (first | exact SubG.refl _ | exact SubG.nil | refine SubG.cons rfl (VT.le_refl _) ?_ | (refine SubG.cons rfl (one_le ?_) ?_; (congr 1; first | omega | (simp; omega) | simp)))) (.keep (Own.le_refl _) (.keep (Own.le_refl _) (.keep (Own.le_refl _) (.nil)))) (fun i hi => ?_)
      refine J_norm (Γ' := [(10, _), (1, _), (2, _), (6, _), (7, _), (8, _), (9, _)]) (M' := [_, _, _]) rfl rfl ?_
      obtain ⟨hi1, hi2, hi3⟩ := hi
      by_cases hi : i < r
      · have hz := sgnI_zero (e.R i c)
        unfold rowF
        by_cases h0 : e.R i c = 0
        · have hz1 := hz.2 h0
          refine J_seq (J_seq (J_reg (st (s_move rfl) rfl (st (s_move rfl) rfl (st (s_nilCheckP rfl) rfl (st (s_fieldAddr rfl) rfl (st (s_fieldAddr rfl) rfl (st (s_loadB 1 rfl rfl rfl) rfl (st (s_lenO rfl) rfl ?_)))))))))
          refine st (sT (by omega) (s_lt rfl rfl)) rfl (Run.nil (pj_then (J_cond1 rfl (J_skip (pj_then (J_seq (J_block (J_seq (J_reg ?_)))))))))
          refine st (s_move rfl) rfl (st (s_nilCheckP rfl) rfl (st (s_fieldAddr rfl) rfl (st (s_fieldAddr rfl) rfl (st (s_loadB 1 rfl rfl rfl) rfl (st (s_move rfl) rfl (st (s_indexON rfl rfl (by omega)) rfl (st (s_loadE 2 rfl rfl (by omega)) rfl (st (s_move rfl) rfl (st (s_indexIN rfl rfl (by omega)) rfl ?_)))))))))
          refine st (s_load rfl) rfl ?_
          refine st (s_callk (SignI_ok _) rfl ⟨VT.le_refl _, trivial⟩) rfl ?_
          refine st (sF (by omega) (s_ne rfl rfl)) rfl (Run.nil (pj_then (J_cond0 rfl (J_skip (pn_block (pj_then (J_reg (st (s_move rfl) rfl (st (s_addN _ 1 rfl rfl (by omega)) rfl ?_)))))))))
          refine st (s_assign rfl) rfl (Run.nil ?_)
          refine pj_roundM (i + 1) (⟨by omega, hi, fun q h1 h2 => by by_cases h3 : q = i; exact h3 ▸ h0; exact hi3 q h1 (by omega)⟩) (by omega) (by repeat (first | exact SubG.refl _ | exact SubG.nil | refine SubG.cons rfl (VT.le_refl _) ?_ | (refine SubG.cons rfl (one_le ?_) ?_; (congr 1; first | omega | (simp; omega) | simp)))) (.keep (Own.le_refl _) (.keep (Own.le_refl _) (.keep (Own.le_refl _) (.nil))))
        · have hz1 : sgnI (e.R i c) ≠ 0 := fun h => h0 (hz.1 h)
          refine J_seq (J_seq (J_reg (st (s_move rfl) rfl (st (s_move rfl) rfl (st (s_nilCheckP rfl) rfl (st (s_fieldAddr rfl) rfl (st (s_fieldAddr rfl) rfl (st (s_loadB 1 rfl rfl rfl) rfl (st (s_lenO rfl) rfl ?_)))))))))
          refine st (sT (by omega) (s_lt rfl rfl)) rfl (Run.nil (pj_then (J_cond1 rfl (J_skip (pj_then (J_seq (J_block (J_seq (J_reg ?_)))))))))
          refine st (s_move rfl) rfl (st (s_nilCheckP rfl) rfl (st (s_fieldAddr rfl) rfl (st (s_fieldAddr rfl) rfl (st (s_loadB 1 rfl rfl rfl) rfl (st (s_move rfl) rfl (st (s_indexON rfl rfl (by omega)) rfl (st (s_loadE 2 rfl rfl (by omega)) rfl (st (s_move rfl) rfl (st (s_indexIN rfl rfl (by omega)) rfl ?_)))))))))
          refine st (s_load rfl) rfl ?_
          refine st (s_callk (SignI_ok _) rfl ⟨VT.le_refl _, trivial⟩) rfl ?_
          refine st (sT (by assumption) (s_ne rfl rfl)) rfl (Run.nil (pj_then (J_cond1 rfl (J_seq (J_reg (st (s_move rfl) rfl (st (s_nilCheckP rfl) rfl (st (s_fieldAddr rfl) rfl (st (s_move rfl) rfl ?_)))))))))
          refine st (s_move rfl) rfl ?_
          refine a_callI (Min := [elimO b16 (some bs) r cap e.last e.odd (one (slV svp e.piv.length capp)), sliO (some bs) 30 .one cap r (fun i => slT (.agg 2) w fun j => bigT (e.R i j))]) (Kp := [_]) (exchA_ok b16 bs r cap e.last e.odd _ (fun i => slT (.agg 2) w fun j => bigT (e.R i j)) i e.piv.length hi hp) rfl ⟨VT.le_refl _, VT.le_refl _, VT.le_refl _, trivial⟩ (List.perm_append_comm (l₁ := [_]) (l₂ := [_, _])) rfl rfl (fun _ => ?_)
          refine Run.nil (pj_then (J_seq (J_reg (st (s_move rfl) rfl (st (s_nilCheckP rfl) rfl (st (s_fieldAddr rfl) rfl (st (s_move rfl) rfl (st (s_move rfl) rfl (st (s_move rfl) rfl ?_)))))))))
          have hst := step_ok b16 bs r cap e.last (xor e.odd (decide (i ≠ e.piv.length))) (one (slV svp e.piv.length capp)) w (swp i e.piv.length e.R) e.piv.length c full (bndN n e.piv.length) hp (by omega) hw hr hO.nz hbb hO.last (lz_swp hO.R)
          unfold rowF at hst
          refine Run_sub (SubG.refl _) (.keep (Own.le_refl _) (.keep (sliO_eq (ψ := fun q => slT (.agg 2) w fun j => bigT (swp i e.piv.length e.R q j)) (fun q _ => swp_map (fun f : Nat → Int => slT (.agg 2) w fun j => bigT (f j)) q)) (SubM.refl _))) ?_
          refine a_callI (Min := [_, _]) (Kp := [_]) hst rfl ⟨VT.le_refl _, VT.le_refl _, VT.le_refl _, VT.le_refl _, trivial⟩ (List.Perm.refl _) rfl rfl (fun _ => ?_)
          refine Run.nil (pj_then (J_seq (J_reg (st (s_move rfl) rfl (st (s_move rfl) rfl (st (s_nilCheckP rfl) rfl (st (s_fieldAddr rfl) rfl (st (s_loadB 0 rfl rfl rfl) rfl (st (s_move rfl) rfl ?_)))))))))
          refine stS1 rfl rfl rfl rfl ?_
          (refine a_append 2 rfl rfl rfl (leN rfl) ?_ ?_ rfl (ltN rfl) (fun sv85 cap85 => ?_); omega; omega)
          refine st (s_nilCheckP rfl) rfl (st (s_fieldAddr rfl) rfl (a_storeB 0 rfl rfl rfl rfl rfl (leN rfl) rfl (Run.nil (pj_then (J_exit (px_block_ne rfl (px_then (px_then (px_block_ne rfl ?_)))))))))
          refine px_block (pj_then (J_reg (st (s_move rfl) rfl (st (s_addN _ 1 rfl rfl (by omega)) rfl (st (s_assign rfl) rfl (Run.nil (PJ_perm (List.perm_append_comm (l₁ := [_, _]) (l₂ := [_])) ?_)))))))
          refine pj_roundM ((c + 1, ⟨stepR e.piv.length c e.last full (swp i e.piv.length e.R), swp i e.piv.length e.R e.piv.length c, xor e.odd (decide (i ≠ e.piv.length)), e.piv ++ [c]⟩, sv85, cap85)) (⟨hc, (elR_some (full := full) hp hi1 hi hi3 h0).symm.trans (congrArg (elR r full c) hE), hO.round full hp (by rw [swp_at]; exact h0)⟩) (by omega) (by repeat (first | exact SubG.refl _ | exact SubG.nil | refine SubG.cons rfl (VT.le_refl _) ?_ | (refine SubG.cons rfl (one_le ?_) ?_; (congr 1; first | omega | (simp; omega) | simp)))) (.keep (piv_next) (.keep (elim_next) (.keep (Own.le_refl _) (.nil))))
      · have hi4 : i = r := by omega
        refine J_seq (J_seq (J_reg (st (s_move rfl) rfl (st (s_move rfl) rfl (st (s_nilCheckP rfl) rfl (st (s_fieldAddr rfl) rfl (st (s_fieldAddr rfl) rfl (st (s_loadB 1 rfl rfl rfl) rfl (st (s_lenO rfl) rfl ?_)))))))))
        refine st (sF (by omega) (s_lt rfl rfl)) rfl (Run.nil (pj_then (J_cond0 rfl (J_exit (px_then (px_then (px_block (pn_block (pj_then ?_)))))))))
        refine J_reg (st (s_move rfl) rfl (st (s_addN _ 1 rfl rfl (by omega)) rfl (st (s_assign rfl) rfl (Run.nil ?_))))
        refine pj_roundM ((c + 1, e, svp, capp)) (⟨hc, (elR_none (full := full) (fun q h1 h2 => hi3 q h1 (by omega))).symm.trans (congrArg (elR r full c) hE), hO⟩) (by omega) (by repeat (first | exact SubG.refl _ | exact SubG.nil | refine SubG.cons rfl (VT.le_refl _) ?_ | (refine SubG.cons rfl (one_le ?_) ?_; (congr 1; first | omega | (simp; omega) | simp)))) (.keep (Own.le_refl _) (.keep (Own.le_refl _) (.keep (Own.le_refl _) (.nil))))
    · have hen : e = elN r full F cols := hE.trans (elN_done (by rw [← hE]; exact hp) cols hcc).symm
      have hpr2 : e.piv.length = r := by omega
      rw [← hen]
      refine J_seq (J_seq (J_regd 17 mixed (by kernel_rfl) (by decide) (st (s_move rfl) rfl (st (s_move rfl) rfl (st (sT (by omega) (s_lt rfl rfl)) rfl (st (s_move rfl) rfl (sg1 rfl rfl (s_move rfl) rfl (sg1 rfl rfl (s_nilCheckP rfl) rfl (sg1 rfl rfl (s_fieldAddr rfl) rfl ?_)))))))))
      refine sg1 rfl rfl (s_loadB 1 rfl rfl rfl) rfl (sg1 rfl rfl (s_lenO rfl) rfl (sg1 rfl rfl (s_move rfl) rfl (sg1 rfl rfl (s_nilCheckP rfl) rfl (sg1 rfl rfl (s_fieldAddr rfl) rfl (sg1 rfl rfl (s_fieldAddr rfl) rfl (sg1 rfl rfl (s_loadB 1 rfl rfl rfl) rfl (sg1 rfl rfl (s_lenO rfl) rfl (sg1 rfl rfl (sF (by omega) (s_lt rfl rfl)) rfl (st (s_pickT rfl rfl) rfl ?_)))))))))
      refine Run.nil (Run.nil (pj_then (J_cond0 rfl (J_exit (px_then (px_then (px_block (pj_then (J_seq ?_)))))))))
      refine J_reg (st (s_move rfl) rfl (st (s_assign rfl) rfl (Run.nil (pj_then (J_ret (pr_scope (PJ_perm (List.perm_append_comm (l₁ := [_]) (l₂ := [_, _])) ?_)))))))
      exact retM1 (b16, sv, cap, svp, capp) Tryz.results44 (.tmp rfl (VT.le_refl _)) (SubM.refl _)
  · have hcl2 : c = cols := by omega
    subst hcl2
    rw [← hE]
    refine J_seq (J_seq (J_regd 17 mixed (by kernel_rfl) (by decide) (st (s_move rfl) rfl (st (s_move rfl) rfl (st (sF (by omega) (s_lt rfl rfl)) rfl (st (s_move rfl) rfl (sg0 rfl rfl rfl rfl (sg0 rfl rfl rfl rfl (sg0 rfl rfl rfl rfl ?_)))))))))
    refine sg0 rfl rfl rfl rfl (sg0 rfl rfl rfl rfl (sg0 rfl rfl rfl rfl (sg0 rfl rfl rfl rfl (sg0 rfl rfl rfl rfl (sg0 rfl rfl rfl rfl (sg0 rfl rfl rfl rfl (sg0 rfl rfl rfl rfl (sg0 rfl rfl rfl rfl (st (s_pickF rfl rfl) rfl ?_)))))))))
    refine Run.nil (Run.nil (pj_then (J_cond0 rfl (J_exit (px_then (px_then (px_block (pj_then (J_seq ?_)))))))))
    refine J_reg (st (s_move rfl) rfl (st (s_assign rfl) rfl (Run.nil (pj_then (J_ret (pr_scope (PJ_perm (List.perm_append_comm (l₁ := [_]) (l₂ := [_, _])) ?_)))))))
    exact retM1 (b16, sv, cap, svp, capp) Tryz.results44 (.tmp rfl (VT.le_refl _)) (SubM.refl _)
theorem run_read {r w : Nat} {e : ElS} {b : Nat} {sv svp : Option Nat} {cap capp : Nat} : Ent [elimO b sv r cap e.last e.odd (one (slV svp e.piv.length capp)), sliO sv 30 .one cap r (fun i => rowF w (e.R i)), sliO svp 3 .one capp e.piv.length (pivF e.piv)] (one (.pointer (some ⟨b, 0, none⟩))) (elimT r w e) :=
  Ent.then (Ent.ptrW List.mem_cons_self (EntC.cons List.mem_cons_self (Ent.sl (List.mem_cons_of_mem _ List.mem_cons_self)) (EntC.cons (List.mem_cons_of_mem _ List.mem_cons_self) (Ent.refl _) (EntC.cons (List.mem_cons_of_mem _ (List.mem_cons_of_mem _ List.mem_cons_self)) (Ent.refl _)
    (EntC.cons (List.mem_cons_of_mem _ (List.mem_cons_of_mem _ (List.mem_cons_of_mem _ List.mem_cons_self))) (Ent.sl (List.mem_cons_of_mem _ (List.mem_cons_of_mem _ List.mem_cons_self))) EntC.nil))))) (elimT_of r w e)
theorem runR_ok (r w cols : Nat) (F : Nat → Nat → Int) (full : Bool) (n : Nat) (hr : r ≤ 1048576) (hw : w ≤ 1048576) (hcw : cols ≤ w) (hn : 1 ≤ n) (hb : (n + 1) * 2 ^ r ≤ 1099511627776) (hF : ∀ i j, lz n (F i j)) :
    Ok Tryz.prog 44 [slT .one r (fun i => rowF w (F i)), one (.int .i64 (cols : Nat)), one (.bool full)] (elimT r w (elN r full F cols)) :=
  (run_ok r w cols F full n hr hw hcw hn hb hF).ok fun s => run_read
end Tor
end
