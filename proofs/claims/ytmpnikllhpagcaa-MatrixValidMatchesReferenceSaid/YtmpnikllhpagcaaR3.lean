/-
  Contracts of the reference implementation of integers: plus and minus on limbs.
-/
import Derived.Test.YtmpnikllhpagcaaI6
set_option linter.unusedVariables false
set_option linter.unusedSimpArgs false
namespace Tor
open Go Go.RowKit Go.Proofs

theorem take_getD_succ (l : List Nat) (k : Nat) : lv (l.take (k + 1)) = lv (l.take k) + 4294967296 ^ k * l.getD k 0 := by
  by_cases hk : k < l.length
  · exact lv_take_succ hk
  · rw [List.take_of_length_le (by omega), List.take_of_length_le (by omega)]; simp [List.getElem?_eq_none (Nat.le_of_not_lt hk)]
/-- The relation of plus's loop. -/
structure RPlus (lx ly zl : List Nat) (c : Nat) : Prop where
  lim : Limbs zl
  c1 : c ≤ 1
  val : lv zl + 4294967296 ^ zl.length * c = lv (lx.take zl.length) + lv (ly.take zl.length)
  len : zl.length ≤ max lx.length ly.length + 1
  big : max lx.length ly.length < zl.length → c = 0
theorem RPlus.step {lx ly zl : List Nat} {c : Nat} (h : RPlus lx ly zl c) (hx : Limbs lx) (hy : Limbs ly) (hgo : zl.length < lx.length ∨ zl.length < ly.length ∨ 0 < c) :
    RPlus lx ly (zl ++ [(c + lx.getD zl.length 0 + ly.getD zl.length 0) % 4294967296]) ((c + lx.getD zl.length 0 + ly.getD zl.length 0) / 4294967296) := by
  have h1 := getD_lt hx zl.length
  have h2 := getD_lt hy zl.length
  have h3 := h.c1
  refine ⟨fun d hd => ?_, by omega, ?_, ?_, ?_⟩
  · rcases List.mem_append.1 hd with hd | hd
    · exact h.lim d hd
    · simp at hd; omega
  · simp only [List.length_append, List.length_cons, List.length_nil, Nat.zero_add]
    rw [lv_append, take_getD_succ, take_getD_succ, Nat.pow_succ]
    have hv := h.val
    generalize lx.getD zl.length 0 = x at *
    generalize ly.getD zl.length 0 = y at *
    generalize 4294967296 ^ zl.length = B at *
    have e : (c + x + y) = 4294967296 * ((c + x + y) / 4294967296) + (c + x + y) % 4294967296 := by omega
    generalize (c + x + y) / 4294967296 = q at *
    generalize (c + x + y) % 4294967296 = r at *
    simp only [lv, Nat.mul_zero, Nat.add_zero]
    have e2 : B * (c + x + y) = B * (4294967296 * q + r) := by rw [e]
    simp only [Nat.mul_add, Nat.mul_assoc] at e2 ⊢
    omega
  · simp only [List.length_append, List.length_cons, List.length_nil, Nat.zero_add]
    have := h.big; omega
  · simp only [List.length_append, List.length_cons, List.length_nil, Nat.zero_add]
    intro hb
    have e1 : lx.getD zl.length 0 = 0 := by simp [List.getElem?_eq_none (show lx.length ≤ zl.length by omega)]
    have e2 : ly.getD zl.length 0 = 0 := by simp [List.getElem?_eq_none (show ly.length ≤ zl.length by omega)]
    rw [e1, e2]; omega

theorem snoc_fun (zl : List Nat) (v : Nat) : ∀ q, q < zl.length + 1 → (if q < zl.length then one (.int .u32 (zl.getD q 0 : Nat)) else one (.int .u32 (v : Nat))) = one (.int .u32 ((zl ++ [v]).getD q 0 : Nat)) := by
  intro q hq
  rw [getD_snoc]
  by_cases h : q < zl.length
  · rw [if_pos h, if_neg (by omega)]
  · have : q = zl.length := by omega
    subst this
    rw [if_neg h, if_pos rfl]
theorem sliO_len {sv : Option Nat} {T : TypeId} {L : Lay} {cap n m : Nat} {φ ψ : Nat → VT} (h : n = m) (H : ∀ q, q < n → φ q = ψ q) : Own.le (sliO sv T L cap n φ) (sliO sv T L cap m ψ) := by
  subst h; exact sliO_eq H
theorem slV_len {sv : Option Nat} {n m cap : Nat} (h : n = m) : VT.le (one (slV sv n cap)) (one (slV sv m cap)) := h ▸ VT.le_refl _
attribute [local irreducible] Tor.J Tor.PJ Tor.StepO Tor.one Tor.slT Tor.ptrT Tor.aggT Tor.tupT Tor.exT Tor.andT Tor.gT Tor.eP Tor.boxO Tor.sliO Tor.slV Tor.VT.le Tor.Ret Tor.anyT
set_option maxHeartbeats 2000000 in
theorem rplus_ok (a b : Nat) (ha : (digs a).length ≤ 1099511627776) (hb : (digs b).length ≤ 1099511627776) : Ok Try.prog 87 [limT (digs a), limT (digs b)] (natS (a + b)) := by
  refine Ok.enter Try.func87 rfl Try.ntmps87 rfl (fun w O => ?_)
  have hx := limbs_digs a
  have hy := limbs_digs b
  have hva := lv_digs a
  have hvb := lv_digs b
  generalize digs a = lx at *
  generalize digs b = ly at *
  refine J_seq ?_
  refine J_reg ?_
  refine st (s_assign rfl) rfl ?_
  refine Run.nil ?_
  refine pj_then ?_
  refine J_seq ?_
  refine J_reg ?_
  refine stSO (n := 0) rfl rfl rfl rfl rfl ?_
  refine PartsK.nil (fun b => ?_)
  refine st (s_assign rfl) rfl ?_
  refine st (s_assign rfl) rfl ?_
  refine Run.nil ?_
  refine pj_then ?_
  refine J_seq ?_
  refine J_seq ?_
  refine J_reg ?_
  refine st (s_assign rfl) rfl ?_
  refine Run.nil ?_
  refine pj_then ?_
  refine J_block ?_
  refine J_loop (σ := List Nat × Nat × Option Nat × Nat) (fun s => [(0, limT lx), (1, limT ly), (5, one (slV s.2.2.1 s.1.length s.2.2.2)), (6, one (.int .u64 (s.2.1 : Nat))), (7, one (.int .i64 s.1.length))])
      (fun s => [sliO s.2.2.1 79 .one s.2.2.2 s.1.length (fun q => one (.int .u32 (s.1.getD q 0 : Nat)))]) (fun s => RPlus lx ly s.1 s.2.1) (fun s => 2 * (max lx.length ly.length - s.1.length) + s.2.1) ([], 0, some b, 0)
      ⟨(fun d hd => by cases hd), Nat.zero_le _, by simp [lv], by simp, by simp⟩ (by repeat (first | exact SubG.nil | refine SubG.cons rfl (VT.le_refl _) ?_ | (refine SubG.cons rfl (one_le ?_) ?_; (congr 1; first | omega | (simp; omega) | simp)))) (.keep (sliO_eq (fun q hq => by omega)) .nil) (fun s hR => ?_)
  obtain ⟨zl, c, sv0, cap0⟩ := s
  simp only at hR ⊢
  have h3 := hR.c1
  have hlen := hR.len
  refine J_seq (J_seq ?_)
  refine J_join (σ := Unit) (fun _ => [(0, limT lx), (1, limT ly), (5, one (slV sv0 zl.length cap0)), (6, one (.int .u64 (c : Nat))), (7, one (.int .i64 zl.length)), (22, one (.bool (decide (zl.length < lx.length ∨ zl.length < ly.length ∨ 0 < c))))])
    (fun _ => [sliO sv0 79 .one cap0 zl.length (fun q => one (.int .u32 (zl.getD q 0 : Nat)))]) (fun _ => True) ?_ (fun _ _ => ?_)
  · refine J_reg ?_
    refine st (s_move rfl) rfl ?_
    refine st (s_move rfl) rfl ?_
    refine st (s_len rfl) rfl ?_
    refine st (s_lt rfl rfl) rfl ?_
    refine st (s_move rfl) rfl ?_
    refine bsel (t := 13) rfl (fun b h1 => ?_)
    rw [h1]
    cases b
    · simp at h1
      refine sg1 rfl rfl (s_move rfl) rfl ?_
      refine sg1 rfl rfl (s_move rfl) rfl ?_
      refine sg1 rfl rfl (s_len rfl) rfl ?_
      refine sg1 rfl rfl (s_lt rfl rfl) rfl ?_
      refine st (s_pickF rfl rfl) rfl ?_
      refine st (s_move rfl) rfl ?_
      refine bsel (t := 19) rfl (fun b h2 => ?_)
      rw [h2]
      cases b
      · simp at h2
        refine sg1 rfl rfl (s_move rfl) rfl ?_
        refine sg1 rfl rfl (s_gt rfl rfl) rfl ?_
        refine st (s_pickF rfl rfl) rfl ?_
        refine Run.nil ?_
        exact pj_cut () trivial (.cons rfl (VT.le_refl _) (.cons rfl (VT.le_refl _) (.cons rfl (VT.le_refl _) (.cons rfl (VT.le_refl _) (.cons rfl (VT.le_refl _) (.cons rfl (one_le (by congr 1; rw [decide_eq_decide]; omega)) .nil)))))) (SubM.refl _)
      · simp at h2
        refine sg0 rfl rfl rfl rfl ?_
        refine sg0 rfl rfl rfl rfl ?_
        refine st (s_pickT rfl rfl) rfl ?_
        refine Run.nil ?_
        exact pj_cut () trivial (.cons rfl (VT.le_refl _) (.cons rfl (VT.le_refl _) (.cons rfl (VT.le_refl _) (.cons rfl (VT.le_refl _) (.cons rfl (VT.le_refl _) (.cons rfl (one_le (by simp; omega)) .nil)))))) (SubM.refl _)
    · simp at h1
      refine sg0 rfl rfl rfl rfl ?_
      refine sg0 rfl rfl rfl rfl ?_
      refine sg0 rfl rfl rfl rfl ?_
      refine sg0 rfl rfl rfl rfl ?_
      refine st (s_pickT rfl rfl) rfl ?_
      refine st (s_move rfl) rfl ?_
      refine sg0 rfl rfl rfl rfl ?_
      refine sg0 rfl rfl rfl rfl ?_
      refine st (s_pickT rfl rfl) rfl ?_
      refine Run.nil ?_
      exact pj_cut () trivial (.cons rfl (VT.le_refl _) (.cons rfl (VT.le_refl _) (.cons rfl (VT.le_refl _) (.cons rfl (VT.le_refl _) (.cons rfl (VT.le_refl _) (.cons rfl (one_le (by simp; omega)) .nil)))))) (SubM.refl _)
  · refine pj_then ?_
    refine J_cond rfl (fun hc => ?_) (fun hc => ?_) <;> simp only [decide_eq_true_eq, decide_eq_false_iff_not] at hc
    · have hstep := hR.step hx hy hc
      have g1 := getD_lt hx zl.length
      have g2 := getD_lt hy zl.length
      refine J_skip ?_
      refine pj_then ?_
      refine J_seq ?_
      refine J_block ?_
      refine J_seq ?_
      refine J_seq ?_
      refine J_reg ?_
      refine st (s_move rfl) rfl ?_
      refine st (s_move rfl) rfl ?_
      refine st (s_len rfl) rfl ?_
      refine st (s_lt rfl rfl) rfl ?_
      refine Run.nil ?_
      refine pj_then ?_
      refine J_join (σ := Unit) (fun _ => [(0, limT lx), (1, limT ly), (5, one (slV sv0 zl.length cap0)), (6, one (.int .u64 (c + lx.getD zl.length 0 : Nat))), (7, one (.int .i64 zl.length))])
        (fun _ => [sliO sv0 79 .one cap0 zl.length (fun q => one (.int .u32 (zl.getD q 0 : Nat)))]) (fun _ => True) ?_ (fun _ _ => ?_)
      · refine J_cond rfl (fun hc2 => ?_) (fun hc2 => ?_) <;> simp only [decide_eq_true_eq, decide_eq_false_iff_not] at hc2
        · refine J_reg ?_
          refine st (s_move rfl) rfl ?_
          refine st (s_move rfl) rfl ?_
          refine st (s_move rfl) rfl ?_
          (refine st (s_indexIN rfl rfl ?_) rfl ?_; omega)
          refine st (s_load rfl) rfl ?_
          (refine st (s_toU64 rfl ?_) rfl ?_; omega)
          (refine st (s_addU rfl rfl ?_) rfl ?_; omega)
          refine st (s_assign rfl) rfl ?_
          refine Run.nil ?_
          exact pj_cut () trivial (by repeat (first | exact SubG.nil | refine SubG.cons rfl (VT.le_refl _) ?_ | (refine SubG.cons rfl (one_le ?_) ?_; (congr 1; first | omega | (simp; omega) | simp)))) (SubM.refl _)
        · have e0 : lx.getD zl.length 0 = 0 := by simp [List.getElem?_eq_none (show lx.length ≤ zl.length by omega)]
          refine J_skip ?_
          exact pj_cut () trivial (by repeat (first | exact SubG.nil | refine SubG.cons rfl (VT.le_refl _) ?_ | (refine SubG.cons rfl (one_le ?_) ?_; (congr 1; first | omega | (simp; omega) | simp)))) (SubM.refl _)
      · refine pj_then ?_
        refine J_seq ?_
        refine J_seq ?_
        refine J_reg ?_
        refine st (s_move rfl) rfl ?_
        refine st (s_move rfl) rfl ?_
        refine st (s_len rfl) rfl ?_
        refine st (s_lt rfl rfl) rfl ?_
        refine Run.nil ?_
        refine pj_then ?_
        refine J_join (σ := Unit) (fun _ => [(0, limT lx), (1, limT ly), (5, one (slV sv0 zl.length cap0)), (6, one (.int .u64 (c + lx.getD zl.length 0 + ly.getD zl.length 0 : Nat))), (7, one (.int .i64 zl.length))])
          (fun _ => [sliO sv0 79 .one cap0 zl.length (fun q => one (.int .u32 (zl.getD q 0 : Nat)))]) (fun _ => True) ?_ (fun _ _ => ?_)
        · refine J_cond rfl (fun hc2 => ?_) (fun hc2 => ?_) <;> simp only [decide_eq_true_eq, decide_eq_false_iff_not] at hc2
          · refine J_reg ?_
            refine st (s_move rfl) rfl ?_
            refine st (s_move rfl) rfl ?_
            refine st (s_move rfl) rfl ?_
            (refine st (s_indexIN rfl rfl ?_) rfl ?_; omega)
            refine st (s_load rfl) rfl ?_
            (refine st (s_toU64 rfl ?_) rfl ?_; omega)
            (refine st (s_addU rfl rfl ?_) rfl ?_; omega)
            refine st (s_assign rfl) rfl ?_
            refine Run.nil ?_
            exact pj_cut () trivial (by repeat (first | exact SubG.nil | refine SubG.cons rfl (VT.le_refl _) ?_ | (refine SubG.cons rfl (one_le ?_) ?_; (congr 1; first | omega | (simp; omega) | simp)))) (SubM.refl _)
          · have e0 : ly.getD zl.length 0 = 0 := by simp [List.getElem?_eq_none (show ly.length ≤ zl.length by omega)]
            refine J_skip ?_
            exact pj_cut () trivial (by repeat (first | exact SubG.nil | refine SubG.cons rfl (VT.le_refl _) ?_ | (refine SubG.cons rfl (one_le ?_) ?_; (congr 1; first | omega | (simp; omega) | simp)))) (SubM.refl _)
        · refine pj_then ?_
          refine J_seq ?_
          refine J_reg ?_
          refine st (s_move rfl) rfl ?_
          refine st (s_move rfl) rfl ?_
          refine st (s_toU32 rfl) rfl ?_
          refine stS1 rfl rfl rfl rfl ?_
          (refine a_append 0 rfl rfl rfl (leN rfl) ?_ ?_ rfl (ltN rfl) (fun sv cap => ?_); omega; omega)
          refine st (s_assign rfl) rfl ?_
          refine Run.nil ?_
          refine pj_then ?_
          refine J_reg ?_
          refine st (s_move rfl) rfl ?_
          (refine st (s_quo32 rfl ?_) rfl ?_; omega)
          refine st (s_assign rfl) rfl ?_
          refine Run.nil ?_
          refine pn_block ?_
          refine pj_then ?_
          refine J_reg ?_
          refine st (s_move rfl) rfl ?_
          (refine st (s_add rfl rfl (wrap_i64 ?_ ?_)) rfl ?_; omega; omega)
          refine st (s_assign rfl) rfl ?_
          refine Run.nil ?_
          refine pj_round (s := (zl, c, sv0, cap0)) (zl ++ [(c + lx.getD zl.length 0 + ly.getD zl.length 0) % 4294967296], (c + lx.getD zl.length 0 + ly.getD zl.length 0) / 4294967296, sv, cap) hstep ?_ (.cons rfl (VT.le_refl _) (.cons rfl (VT.le_refl _) (.cons rfl (slV_len (by simp)) (.cons rfl (VT.le_refl _) (.cons rfl (one_le (by simp)) .nil))))) (.keep (sliO_len (by simp) (fun q hq => snoc_fun zl _ q (by simpa using hq))) .nil)
          have h8 := hstep.c1
          have h9 := hstep.big
          have h10 := hR.big
          simp only [List.length_append, List.length_cons, List.length_nil, Nat.zero_add] at *
          omega
    · refine J_exit ?_
      refine px_then ?_
      refine px_then ?_
      refine px_block ?_
      refine pj_then ?_
      refine J_seq ?_
      refine J_reg ?_
      refine st (s_move rfl) rfl ?_
      refine st (s_assign rfl) rfl ?_
      refine Run.nil ?_
      refine pj_then ?_
      refine J_ret ?_
      refine PJ_freeze (t := 4) (i := 0) rfl rfl ?_
      refine retc1 Try.results87 (.tmp rfl (natS_of (l := zl) hR.lim ?_ (by omega)))
      have h4 := hR.val
      have h5 : c = 0 := by omega
      rw [h5, List.take_of_length_le (by omega), List.take_of_length_le (by omega), hva, hvb] at h4
      omega
end Tor
