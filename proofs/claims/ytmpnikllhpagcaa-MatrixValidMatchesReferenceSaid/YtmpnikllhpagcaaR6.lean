/-
  torsionref01: Mul.
-/
import Derived.Test.YtmpnikllhpagcaaR5
set_option linter.unusedVariables false
set_option linter.unusedSimpArgs false
namespace Tor
open Go Go.RowKit Go.Proofs
/-- The relation of Mul's outer loop. -/
structure RTimesR (lx ly zz : List Nat) (i : Nat) : Prop where
  le : i ≤ lx.length
  len : zz.length = lx.length + ly.length + 1
  lim : Limbs zz
  zero : ∀ k, i + ly.length ≤ k → zz.getD k 0 = 0
  val : lv zz = lv (lx.take i) * lv ly
/-- That of its inner loop. -/
structure RTimesI (lx ly z0 zz : List Nat) (i j c : Nat) : Prop where
  le : j ≤ ly.length + 1
  top : ly.length < j → c = 0
  len : zz.length = lx.length + ly.length + 1
  lim : Limbs zz
  zero : ∀ k, i + ly.length < k → zz.getD k 0 = 0
  zer1 : j ≤ ly.length → zz.getD (i + ly.length) 0 = 0
  c1 : c < 4294967296
  val : lv zz + 4294967296 ^ (i + j) * c = lv z0 + 4294967296 ^ i * (lx.getD i 0 * lv (ly.take j))
theorem RTimesI.step {lx ly z0 zz : List Nat} {i j c : Nat} (h : RTimesI lx ly z0 zz i j c) (hx : Limbs lx) (hy : Limbs ly) (hi : i < lx.length) (hgo : j < ly.length ∨ 0 < c) :
    RTimesI lx ly z0 (zz.set (i + j) ((c + zz.getD (i + j) 0 + lx.getD i 0 * ly.getD j 0) % 4294967296)) i (j + 1) ((c + zz.getD (i + j) 0 + lx.getD i 0 * ly.getD j 0) / 4294967296) := by
  have hj : j ≤ ly.length := by have := h.le; have := h.top; omega
  have hlim := mul_lim (getD_lt hx i) (getD_lt hy j) (getD_lt h.lim (i + j)) h.c1
  have hlt : i + j < zz.length := by rw [h.len]; omega
  refine ⟨by omega, fun ht => ?_, by rw [List.length_set]; exact h.len, h.lim.set (by omega), fun k hk => ?_, fun hk => ?_, by omega, ?_⟩
  · have e : j = ly.length := by omega
    subst e
    rw [h.zer1 (Nat.le_refl _)]
    have e2 : ly.getD ly.length 0 = 0 := by simp
    rw [e2, Nat.mul_zero]
    have := h.c1; omega
  · rw [getD_setL hlt, if_neg (by omega)]; exact h.zero k hk
  · rw [getD_setL hlt, if_neg (by omega)]; exact h.zer1 (by omega)
  · have hs := lv_set (l := zz) (k := i + j) (v := (c + zz.getD (i + j) 0 + lx.getD i 0 * ly.getD j 0) % 4294967296) hlt
    have hv := h.val
    rw [take_getD_succ]
    generalize lx.getD i 0 = x at *
    generalize ly.getD j 0 = y at *
    generalize zz.getD (i + j) 0 = z at *
    have e : c + z + x * y = 4294967296 * ((c + z + x * y) / 4294967296) + (c + z + x * y) % 4294967296 := by omega
    generalize (c + z + x * y) / 4294967296 = q at *
    generalize (c + z + x * y) % 4294967296 = r at *
    rw [show i + (j + 1) = (i + j) + 1 by omega, Nat.pow_succ]
    have eB : 4294967296 ^ i * 4294967296 ^ j = 4294967296 ^ (i + j) := (Nat.pow_add _ _ _).symm
    have e3 : 4294967296 ^ i * (x * (lv (ly.take j) + 4294967296 ^ j * y)) = 4294967296 ^ i * (x * lv (ly.take j)) + 4294967296 ^ (i + j) * (x * y) := by
      rw [Nat.mul_add, Nat.mul_add, ← eB]
      congr 1
      rw [Nat.mul_assoc]; congr 1
      rw [Nat.mul_left_comm]
    rw [e3]
    generalize 4294967296 ^ (i + j) = B at *
    have e2 : B * (c + z + x * y) = B * (4294967296 * q + r) := by rw [e]
    simp only [Nat.mul_add, ← Nat.mul_assoc] at e2 ⊢ hs hv
    omega
theorem RTimesR.start {lx ly z0 : List Nat} {i : Nat} (h : RTimesR lx ly z0 i) : RTimesI lx ly z0 z0 i 0 0 :=
  ⟨Nat.zero_le _, fun _ => rfl, h.len, h.lim, fun k hk => h.zero k (by omega), fun _ => h.zero _ (Nat.le_refl _), by omega, by simp [lv]⟩
theorem RTimesI.finish {lx ly z0 zz : List Nat} {i j : Nat} (h0 : RTimesR lx ly z0 i) (h : RTimesI lx ly z0 zz i j 0) (hj : ly.length ≤ j) (hi : i < lx.length) : RTimesR lx ly zz (i + 1) := by
  refine ⟨hi, h.len, h.lim, fun k hk => h.zero k (by omega), ?_⟩
  have hv := h.val
  rw [Nat.mul_zero, Nat.add_zero, List.take_of_length_le hj, h0.val] at hv
  rw [hv, lv_take_succ hi, Nat.add_mul, Nat.mul_assoc]
attribute [local irreducible] Tor.J Tor.PJ Tor.StepO Tor.one Tor.slT Tor.ptrT Tor.aggT Tor.tupT Tor.exT Tor.andT Tor.gT Tor.eP Tor.boxO Tor.sliO Tor.slV Tor.VT.le Tor.Ret Tor.anyT
attribute [local irreducible] bigT
set_option maxHeartbeats 4000000 in
theorem rMul_ok (n1 n2 : Bool) (v1 v2 : Nat) (h1 : (digs v1).length ≤ 1099511627776) (h2 : (digs v2).length ≤ 1099511627776) : Ok Try.prog 77 [sgT n1 v1, sgT n2 v2] (bigT (sv n1 v1 * sv n2 v2)) := by
  unfold sgT
  refine Ok.enter Try.func77 rfl Try.ntmps77 rfl (fun w O => ?_)
  have hx := limbs_digs v1
  have hy := limbs_digs v2
  have hva := lv_digs v1
  have hvb := lv_digs v2
  generalize digs v1 = lx at *
  generalize digs v2 = ly at *
  refine J_seq ?_
  refine J_reg ?_
  refine a_boxS rfl rfl (ltN rfl) (fun b => ?_)
  refine a_boxS rfl rfl (ltN rfl) (fun b => ?_)
  refine a_alloc (T := 29) rfl (ltN rfl) (fun b => ?_)
  refine Run.nil ?_
  refine pj_then ?_
  refine J_seq ?_
  refine J_reg ?_
  refine st (s_fieldAddr rfl) rfl ?_
  refine st (s_loadB 2 rfl rfl rfl) rfl ?_
  refine st (s_len rfl) rfl ?_
  refine st (s_fieldAddr rfl) rfl ?_
  refine st (s_loadB 1 rfl rfl rfl) rfl ?_
  refine st (s_len rfl) rfl ?_
  (refine st (s_add rfl rfl (wrap_i64 ?_ ?_)) rfl ?_; omega; omega)
  (refine st (s_add rfl rfl (wrap_i64 ?_ ?_)) rfl ?_; omega; omega)
  rename_i ba bb
  refine a_makeSlice (lx.length + ly.length + 1) (lx.length + ly.length + 1) rfl rfl (by simp) (by simp) (Nat.le_refl _) rfl rfl (by omega) rfl rfl (fun bz => ?_)
  refine st (s_assign rfl) rfl ?_
  refine Run.nil ?_
  refine pj_then ?_
  refine J_seq ?_
  refine J_seq ?_
  refine J_reg ?_
  refine st (s_assign rfl) rfl ?_
  refine Run.nil ?_
  refine pj_then ?_
  refine J_block ?_
  refine J_loop (σ := List Nat × Nat) (fun s => [(2, one (.pointer (some ⟨ba, 0, none⟩))), (3, one (.pointer (some ⟨bb, 0, none⟩))), (4, one (.pointer (some ⟨b, 0, none⟩))), (5, one (slV (some bz) (lx.length + ly.length + 1) (lx.length + ly.length + 1))), (6, one (.int .i64 (s.2 : Nat)))])
      (fun s => [sliO (some bz) 79 .one (lx.length + ly.length + 1) (lx.length + ly.length + 1) (fun q => one (.int .u32 (s.1.getD q 0 : Nat))), boxO b 29 2 [(0, .agg 2, one (.agg #[.bool false, .slice none 0 0]))], boxO bb 29 2 [(0, .one, one (.bool n2)), (1, .one, limT ly)], boxO ba 29 2 [(0, .one, one (.bool n1)), (1, .one, limT lx)]])
      (fun s => RTimesR lx ly s.1 s.2) (fun s => lx.length - s.2) (List.replicate (lx.length + ly.length + 1) 0, 0)
      ⟨Nat.zero_le _, by simp, Limbs.replicate _, fun k _ => getD_replicate0 _ _, by simp [lv_replicate, lv]⟩ (by repeat (first | exact SubG.nil | refine SubG.cons rfl (VT.le_refl _) ?_ | (refine SubG.cons rfl (one_le ?_) ?_; (congr 1; first | omega | (simp; omega) | simp)))) (.keep (sliO_eq (fun q _ => by rw [getD_replicate0]; rfl)) (SubM.refl _)) (fun s hR => ?_)
  obtain ⟨z0, i⟩ := s
  simp only at hR ⊢
  refine J_seq ?_
  refine J_seq ?_
  refine J_reg ?_
  refine st (s_move rfl) rfl ?_
  refine st (s_fieldAddr rfl) rfl ?_
  refine st (s_loadB 3 rfl rfl rfl) rfl ?_
  refine st (s_len rfl) rfl ?_
  refine st (s_lt rfl rfl) rfl ?_
  refine Run.nil ?_
  refine pj_then ?_
  refine J_cond rfl (fun hc => ?_) (fun hc => ?_) <;> simp at hc
  · have g1 := getD_lt hx i
    refine J_skip ?_
    refine pj_then ?_
    refine J_seq ?_
    refine J_block ?_
    refine J_seq ?_
    refine J_reg ?_
    refine st (s_assign rfl) rfl ?_
    refine Run.nil ?_
    refine pj_then ?_
    refine J_seq ?_
    refine J_reg ?_
    refine st (s_assign rfl) rfl ?_
    refine Run.nil ?_
    refine pj_then ?_
    refine J_block ?_
    refine J_loop (σ := List Nat × Nat × Nat) (fun s => [(2, one (.pointer (some ⟨ba, 0, none⟩))), (3, one (.pointer (some ⟨bb, 0, none⟩))), (4, one (.pointer (some ⟨b, 0, none⟩))), (5, one (slV (some bz) (lx.length + ly.length + 1) (lx.length + ly.length + 1))), (6, one (.int .i64 (i : Nat))), (7, one (.int .u64 (s.2.2 : Nat))), (8, one (.int .i64 (s.2.1 : Nat)))])
      (fun s => [sliO (some bz) 79 .one (lx.length + ly.length + 1) (lx.length + ly.length + 1) (fun q => one (.int .u32 (s.1.getD q 0 : Nat))), boxO b 29 2 [(0, .agg 2, one (.agg #[.bool false, .slice none 0 0]))], boxO bb 29 2 [(0, .one, one (.bool n2)), (1, .one, limT ly)], boxO ba 29 2 [(0, .one, one (.bool n1)), (1, .one, limT lx)]])
      (fun s => RTimesI lx ly z0 s.1 i s.2.1 s.2.2) (fun s => ly.length + 1 - s.2.1) (z0, 0, 0)
      hR.start (by repeat (first | exact SubG.nil | refine SubG.cons rfl (VT.le_refl _) ?_ | (refine SubG.cons rfl (one_le ?_) ?_; (congr 1; first | omega | (simp; omega) | simp)))) (SubM.refl _) (fun s hI => ?_)
    obtain ⟨zz, j, c⟩ := s
    simp only at hI ⊢
    have g0 := hI.c1
    have gj := hI.le
    refine J_seq (J_seq ?_)
    refine J_join (σ := Unit) (fun _ => [(2, one (.pointer (some ⟨ba, 0, none⟩))), (3, one (.pointer (some ⟨bb, 0, none⟩))), (4, one (.pointer (some ⟨b, 0, none⟩))), (5, one (slV (some bz) (lx.length + ly.length + 1) (lx.length + ly.length + 1))), (6, one (.int .i64 (i : Nat))), (7, one (.int .u64 (c : Nat))), (8, one (.int .i64 (j : Nat))), (33, one (.bool (decide (j < ly.length ∨ 0 < c))))])
      (fun _ => [sliO (some bz) 79 .one (lx.length + ly.length + 1) (lx.length + ly.length + 1) (fun q => one (.int .u32 (zz.getD q 0 : Nat))), boxO b 29 2 [(0, .agg 2, one (.agg #[.bool false, .slice none 0 0]))], boxO bb 29 2 [(0, .one, one (.bool n2)), (1, .one, limT ly)], boxO ba 29 2 [(0, .one, one (.bool n1)), (1, .one, limT lx)]]) (fun _ => True) ?_ (fun _ _ => ?_)
    · refine J_reg ?_
      refine st (s_move rfl) rfl ?_
      refine st (s_fieldAddr rfl) rfl ?_
      refine st (s_loadB 2 rfl rfl rfl) rfl ?_
      refine st (s_len rfl) rfl ?_
      refine st (s_lt rfl rfl) rfl ?_
      refine st (s_move rfl) rfl ?_
      refine bsel (t := 29) rfl (fun bo hb => ?_)
      rw [hb]
      cases bo
      · simp at hb
        refine sg1 rfl rfl (s_move rfl) rfl ?_
        refine sg1 rfl rfl (s_gt rfl rfl) rfl ?_
        refine st (s_pickF rfl rfl) rfl ?_
        refine Run.nil ?_
        exact pj_cut () trivial (.cons rfl (VT.le_refl _) (.cons rfl (VT.le_refl _) (.cons rfl (VT.le_refl _) (.cons rfl (VT.le_refl _) (.cons rfl (VT.le_refl _) (.cons rfl (VT.le_refl _) (.cons rfl (VT.le_refl _) (.cons rfl (one_le (by congr 1; rw [decide_eq_decide]; omega)) .nil)))))))) (SubM.refl _)
      · simp at hb
        refine sg0 rfl rfl rfl rfl ?_
        refine sg0 rfl rfl rfl rfl ?_
        refine st (s_pickT rfl rfl) rfl ?_
        refine Run.nil ?_
        exact pj_cut () trivial (.cons rfl (VT.le_refl _) (.cons rfl (VT.le_refl _) (.cons rfl (VT.le_refl _) (.cons rfl (VT.le_refl _) (.cons rfl (VT.le_refl _) (.cons rfl (VT.le_refl _) (.cons rfl (VT.le_refl _) (.cons rfl (one_le (by simp; omega)) .nil)))))))) (SubM.refl _)
    · refine pj_then ?_
      refine J_cond rfl (fun hc2 => ?_) (fun hc2 => ?_) <;> simp only [decide_eq_true_eq, decide_eq_false_iff_not] at hc2
      · have hstep := hI.step hx hy hc hc2
        have hjl : j ≤ ly.length := by have := hI.top; omega
        have g2 := getD_lt hy j
        have g3 := getD_lt hI.lim (i + j)
        have g4 := mul_lim g1 g2 g3 g0
        have hlt : i + j < zz.length := by rw [hI.len]; omega
        refine J_skip ?_
        refine pj_then ?_
        refine J_seq ?_
        refine J_block ?_
        refine J_seq ?_
        refine J_reg ?_
        refine st (s_move rfl) rfl ?_
        refine st (s_move rfl) rfl ?_
        refine st (s_move rfl) rfl ?_
        refine st (s_move rfl) rfl ?_
        (refine st (s_add rfl rfl (wrap_i64 ?_ ?_)) rfl ?_; omega; omega)
        (refine st (s_indexON rfl rfl ?_) rfl ?_; omega)
        (refine st (s_loadE 0 rfl rfl ?_) rfl ?_; omega)
        (refine st (s_toU64 rfl ?_) rfl ?_; omega)
        (refine st (s_addU rfl rfl ?_) rfl ?_; omega)
        refine st (s_assign rfl) rfl ?_
        refine Run.nil ?_
        refine pj_then ?_
        refine J_seq ?_
        refine J_seq ?_
        refine J_reg ?_
        refine st (s_move rfl) rfl ?_
        refine st (s_fieldAddr rfl) rfl ?_
        refine st (s_loadB 2 rfl rfl rfl) rfl ?_
        refine st (s_len rfl) rfl ?_
        refine st (s_lt rfl rfl) rfl ?_
        refine Run.nil ?_
        refine pj_then ?_
        refine J_join (σ := Unit) (fun _ => [(2, one (.pointer (some ⟨ba, 0, none⟩))), (3, one (.pointer (some ⟨bb, 0, none⟩))), (4, one (.pointer (some ⟨b, 0, none⟩))), (5, one (slV (some bz) (lx.length + ly.length + 1) (lx.length + ly.length + 1))), (6, one (.int .i64 (i : Nat))), (7, one (.int .u64 (c + zz.getD (i + j) 0 + lx.getD i 0 * ly.getD j 0 : Nat))), (8, one (.int .i64 (j : Nat)))])
          (fun _ => [sliO (some bz) 79 .one (lx.length + ly.length + 1) (lx.length + ly.length + 1) (fun q => one (.int .u32 (zz.getD q 0 : Nat))), boxO b 29 2 [(0, .agg 2, one (.agg #[.bool false, .slice none 0 0]))], boxO bb 29 2 [(0, .one, one (.bool n2)), (1, .one, limT ly)], boxO ba 29 2 [(0, .one, one (.bool n1)), (1, .one, limT lx)]]) (fun _ => True) ?_ (fun _ _ => ?_)
        · refine J_cond rfl (fun hc3 => ?_) (fun hc3 => ?_) <;> simp only [decide_eq_true_eq, decide_eq_false_iff_not] at hc3
          · skip
            refine J_regd 16 mixed (by kernel_rfl) (by decide) ?_
            refine st (s_move rfl) rfl ?_
            refine st (s_fieldAddr rfl) rfl ?_
            refine st (s_loadB 3 rfl rfl rfl) rfl ?_
            refine st (s_move rfl) rfl ?_
            (refine st (s_indexIN rfl rfl ?_) rfl ?_; omega)
            refine st (s_load rfl) rfl ?_
            (refine st (s_toU64 rfl ?_) rfl ?_; omega)
            refine st (s_fieldAddr rfl) rfl ?_
            refine st (s_loadB 2 rfl rfl rfl) rfl ?_
            refine st (s_move rfl) rfl ?_
            (refine st (s_indexIN rfl rfl ?_) rfl ?_; omega)
            refine st (s_load rfl) rfl ?_
            (refine st (s_toU64 rfl ?_) rfl ?_; omega)
            (refine st (s_mulU rfl rfl ?_) rfl ?_; omega)
            (refine st (s_addU rfl rfl ?_) rfl ?_; omega)
            refine st (s_assign rfl) rfl ?_
            refine Run.nil ?_
            refine Run.nil ?_
            exact pj_cut () trivial (by repeat (first | exact SubG.nil | refine SubG.cons rfl (VT.le_refl _) ?_ | (refine SubG.cons rfl (one_le ?_) ?_; (congr 1; first | omega | (simp; omega) | simp)))) (SubM.refl _)
          · have e0 : ly.getD j 0 = 0 := by simp [List.getElem?_eq_none (show ly.length ≤ j by omega)]
            refine J_skip ?_
            refine pj_cut () trivial ?_ (SubM.refl _)
            rw [e0, Nat.mul_zero, Nat.add_zero]
            exact (by repeat (first | exact SubG.nil | refine SubG.cons rfl (VT.le_refl _) ?_ | (refine SubG.cons rfl (one_le ?_) ?_; (congr 1; first | omega | (simp; omega) | simp))))
        · refine pj_then ?_
          refine J_seq ?_
          refine J_reg ?_
          refine st (s_move rfl) rfl ?_
          refine st (s_move rfl) rfl ?_
          refine st (s_move rfl) rfl ?_
          (refine st (s_add rfl rfl (wrap_i64 ?_ ?_)) rfl ?_; omega; omega)
          refine st (s_move rfl) rfl ?_
          refine st (s_toU32 rfl) rfl ?_
          (refine st (s_indexON rfl rfl ?_) rfl ?_; omega)
          (refine a_storeE 0 rfl rfl rfl ?_ rfl ?_; omega)
          refine Run.nil ?_
          refine pj_then ?_
          refine J_reg ?_
          refine st (s_move rfl) rfl ?_
          (refine st (s_quo32 rfl ?_) rfl ?_; omega)
          refine st (s_assign rfl) rfl ?_
          refine Run.nil ?_
          refine pn_block ?_
          refine pj_then ?_
          refine J_reg ?_
          refine st (s_move rfl) rfl ?_
          (refine st (s_add rfl rfl (wrap_i64 ?_ ?_)) rfl ?_; omega; omega)
          refine st (s_assign rfl) rfl ?_
          refine Run.nil ?_
          refine pj_round (s := (zz, j, c)) (zz.set (i + j) ((c + zz.getD (i + j) 0 + lx.getD i 0 * ly.getD j 0) % 4294967296), j + 1, (c + zz.getD (i + j) 0 + lx.getD i 0 * ly.getD j 0) / 4294967296) hstep (by show ly.length + 1 - (j + 1) < ly.length + 1 - j; omega) (by repeat (first | exact SubG.nil | refine SubG.cons rfl (VT.le_refl _) ?_ | (refine SubG.cons rfl (one_le ?_) ?_; (congr 1; first | omega | (simp; omega) | simp)))) (.keep (sliO_eq (fun q hq => ?_)) (SubM.refl _))
          unfold upd; rw [getD_setL hlt]; split <;> rfl
      · have hc0 : c = 0 := by omega
        subst hc0
        have hfin := hI.finish hR (by omega) hc
        refine J_exit ?_
        refine px_then ?_
        refine px_then ?_
        refine px_block ?_
        refine pn_block ?_
        refine pj_then ?_
        refine J_reg ?_
        refine st (s_move rfl) rfl ?_
        (refine st (s_add rfl rfl (wrap_i64 ?_ ?_)) rfl ?_; omega; omega)
        refine st (s_assign rfl) rfl ?_
        refine Run.nil ?_
        exact pj_round (s := (z0, i)) (zz, i + 1) hfin (by show lx.length - (i + 1) < lx.length - i; omega) (by repeat (first | exact SubG.nil | refine SubG.cons rfl (VT.le_refl _) ?_ | (refine SubG.cons rfl (one_le ?_) ?_; (congr 1; first | omega | (simp; omega) | simp)))) (SubM.refl _)
  · have hi : i = lx.length := by have := hR.le; omega
    refine J_exit ?_
    refine px_then ?_
    refine px_then ?_
    refine px_block ?_
    refine pj_then ?_
    refine J_seq ?_
    refine J_reg ?_
    refine st (s_move rfl) rfl ?_
    refine st (s_fieldAddr rfl) rfl ?_
    refine st (s_loadB 3 rfl rfl rfl) rfl ?_
    refine st (s_fieldAddr rfl) rfl ?_
    refine st (s_loadB 2 rfl rfl rfl) rfl ?_
    refine st (s_neB rfl rfl) rfl ?_
    refine Run_freeze (t := 74) (j := 0) rfl rfl ?_
    skip
    refine st (s_callk (rMade_ok _ (v1 * v2)) rfl ⟨VT.le_trans (slT_le' (m := z0.length) (ψ := fun i => one (.int .u32 (z0.getD i 0 : Nat))) hR.len.symm (fun q hq => rfl)) (natS_of (l := z0) hR.lim ?_ ?_), VT.le_refl _, trivial⟩) rfl ?_
    · rw [hR.val, hi, List.take_length, hva, hvb]
    · rw [hR.len]; omega
    refine a_storeB 0 rfl rfl rfl rfl rfl (leN rfl) rfl ?_
    refine Run.nil ?_
    refine pj_then ?_
    refine J_ret ?_
    exact retc1 Try.results77 (.cellB 0 rfl rfl rfl (bigT_eq (by cases n1 <;> cases n2 <;> simp [sv, Int.neg_mul, Int.mul_neg])))
end Tor
