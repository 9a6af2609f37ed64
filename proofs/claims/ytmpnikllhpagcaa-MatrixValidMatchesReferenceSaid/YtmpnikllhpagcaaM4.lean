/-
  torsionref05: Filled.
-/
import Derived.Test.YtmpnikllhpagcaaM3
set_option linter.unusedVariables false
set_option linter.unusedSimpArgs false
namespace Tor
open Go Go.RowKit Go.Proofs
theorem tmod10 (x : Int) : -10 < x.tmod 10 ∧ x.tmod 10 < 10 := ⟨by
  have := Int.tmod_lt_of_pos (-x) (show (0 : Int) < 10 by decide)
  rw [Int.neg_tmod] at this; omega, Int.tmod_lt_of_pos x (by decide)⟩
/-- What Filled lays at the n-th place. -/
def dig (l : List Int) (n : Nat) : Int := (l.getD n 0).tmod 10
attribute [local irreducible] Tor.J Tor.PJ Tor.StepO Tor.one Tor.slT Tor.ptrT Tor.aggT Tor.tupT Tor.exT Tor.andT Tor.gT Tor.eP Tor.boxO Tor.sliO Tor.slV Tor.VT.le Tor.Ret Tor.anyT
attribute [local irreducible] bigT Tor.rowsO
set_option maxHeartbeats 2000000 in
theorem rFilledM_ok (r c : Nat) (l : List Int) (hr0 : r ≤ 16) (hc0 : c ≤ 16) : OkM Try.prog 16 [one (.int .i64 r), one (.int .i64 c), numT .i8 l] (newT r c) (fun s => [outO s.1.2.1 s.1.2.2 r c s.1.1, ownR c s.1.1 (fun i j => dig l (i * c + j))]) := by
  unfold numT
  refine OkM.enter Try.func16 rfl Try.ntmps16 rfl (fun w O => ?_)
  refine J_seq ?_
  refine J_reg ?_
  refine a_allocS (T := 33) rfl rfl rfl (fun b => ?_)
  refine Run.nil ?_
  refine pj_then ?_
  refine J_seq ?_
  refine J_reg ?_
  refine st (s_move rfl) rfl ?_
  refine st (s_max rfl rfl) rfl ?_
  refine st (s_min rfl rfl) rfl ?_
  refine st (s_move rfl) rfl ?_
  refine st (s_max rfl rfl) rfl ?_
  refine st (s_min rfl rfl) rfl ?_
  refine a_callM (rNew_ok r c (by omega) (by omega)) rfl ⟨one_le (by congr 1; omega), one_le (by congr 1; omega), trivial⟩ rfl rfl (fun s => ?_)
  obtain ⟨⟨bs, sv1, cap1⟩, hlen, hsv⟩ := s
  simp only at hlen hsv
  unfold newT
  refine a_allocS (T := 33) rfl rfl rfl (fun b => ?_)
  refine a_storeW 0 rfl rfl rfl rfl ?_
  refine Run.nil ?_
  refine pj_then ?_
  refine J_seq ?_
  refine J_seq ?_
  refine J_reg ?_
  refine st (s_assign rfl) rfl ?_
  refine Run.nil ?_
  refine pj_then ?_
  refine J_block ?_
  rename_i b2
  refine J_loop (σ := Nat) (fun i => [(2, slT .one l.length (fun i => one (.int .i8 (l.getD i 0)))), (6, one (.pointer (some ⟨b2, 0, none⟩))), (7, one (.pointer (some ⟨b, 0, none⟩))), (8, one (.int .i64 (i : Nat)))])
    (fun i => [boxO b 33 3 [(0, .one, one (.int .i64 r)), (1, .one, one (.int .i64 c)), (2, .one, one (slV sv1 r cap1))], outO sv1 cap1 r c bs, ownR c bs (fillF (dig l) c i 0),
      boxO b2 33 3 (zeroC #[Value.int IntKind.i64 0, Value.int IntKind.i64 0, Value.slice none 0 0] [(0, Lay.one), (1, Lay.one), (2, Lay.one)])])
    (fun i => i ≤ r) (fun i => r - i) 0 (Nat.zero_le _) (by repeat (first | exact SubG.nil | refine SubG.cons rfl (VT.le_refl _) ?_ | (refine SubG.cons rfl (one_le ?_) ?_; (congr 1; first | omega | (simp; omega) | simp)))) (.keep (Own.le_refl _) (.keep (Own.le_refl _) (.keep (ownR_le fun i j hi hj => by simp [fillF]) (SubM.refl _)))) (fun i hi => ?_)
  refine J_seq ?_
  refine J_seq ?_
  refine J_reg ?_
  refine st (s_move rfl) rfl ?_
  refine st (s_fieldAddr rfl) rfl ?_
  refine st (s_loadB 0 rfl rfl rfl) rfl ?_
  refine st (s_lt rfl rfl) rfl ?_
  refine Run.nil ?_
  refine pj_then ?_
  refine J_cond rfl (fun hc => ?_) (fun hc => ?_) <;> simp at hc
  · have hir : i < r := by omega
    obtain ⟨bo, rfl⟩ := sv_some hsv (by omega)
    refine J_skip ?_
    refine pj_then ?_
    refine J_seq ?_
    refine J_block ?_
    refine J_seq ?_
    refine J_reg ?_
    refine st (s_assign rfl) rfl ?_
    refine Run.nil ?_
    refine pj_then ?_
    refine J_block ?_
    refine J_loop (σ := Nat) (fun j => [(2, slT .one l.length (fun i => one (.int .i8 (l.getD i 0)))), (6, one (.pointer (some ⟨b2, 0, none⟩))), (7, one (.pointer (some ⟨b, 0, none⟩))), (8, one (.int .i64 (i : Nat))), (9, one (.int .i64 (j : Nat)))])
      (fun j => [boxO b 33 3 [(0, .one, one (.int .i64 r)), (1, .one, one (.int .i64 c)), (2, .one, one (slV (some bo) r cap1))], outO (some bo) cap1 r c bs, ownR c bs (fillF (dig l) c i j),
      boxO b2 33 3 (zeroC #[Value.int IntKind.i64 0, Value.int IntKind.i64 0, Value.slice none 0 0] [(0, Lay.one), (1, Lay.one), (2, Lay.one)])])
      (fun j => j ≤ c) (fun j => c - j) 0 (Nat.zero_le _) (by repeat (first | exact SubG.nil | refine SubG.cons rfl (VT.le_refl _) ?_ | (refine SubG.cons rfl (one_le ?_) ?_; (congr 1; first | omega | (simp; omega) | simp)))) (SubM.refl _) (fun j hj => ?_)
    have hm : i * c ≤ 16 * 16 := Nat.mul_le_mul (by omega) hc0
    have hm2 : (i : Int) * c ≤ 256 := by omega
    have hm3 : 0 ≤ (i : Int) * c := by have := Nat.zero_le (i * c); omega
    refine J_seq (J_seq ?_)
    refine J_join (σ := Unit) (fun _ => [(2, slT .one l.length (fun i => one (.int .i8 (l.getD i 0)))), (6, one (.pointer (some ⟨b2, 0, none⟩))), (7, one (.pointer (some ⟨b, 0, none⟩))), (8, one (.int .i64 (i : Nat))), (9, one (.int .i64 (j : Nat))), (37, one (.bool (decide (j < c ∧ i * c + j < l.length))))])
      (fun _ => [boxO b 33 3 [(0, .one, one (.int .i64 r)), (1, .one, one (.int .i64 c)), (2, .one, one (slV (some bo) r cap1))], outO (some bo) cap1 r c bs, ownR c bs (fillF (dig l) c i j),
      boxO b2 33 3 (zeroC #[Value.int IntKind.i64 0, Value.int IntKind.i64 0, Value.slice none 0 0] [(0, Lay.one), (1, Lay.one), (2, Lay.one)])]) (fun _ => True) ?_ (fun _ _ => ?_)
    · refine J_reg ?_
      refine st (s_move rfl) rfl ?_
      refine st (s_fieldAddr rfl) rfl ?_
      refine st (s_loadB 0 rfl rfl rfl) rfl ?_
      refine st (s_lt rfl rfl) rfl ?_
      refine st (s_move rfl) rfl ?_
      refine bsel (t := 27) rfl (fun b h1 => ?_)
      rw [h1]
      cases b
      · simp at h1
        refine sg0 rfl rfl rfl rfl ?_
        refine sg0 rfl rfl rfl rfl ?_
        refine sg0 rfl rfl rfl rfl ?_
        refine sg0 rfl rfl rfl rfl ?_
        refine sg0 rfl rfl rfl rfl ?_
        refine sg0 rfl rfl rfl rfl ?_
        refine sg0 rfl rfl rfl rfl ?_
        refine sg0 rfl rfl rfl rfl ?_
        refine sg0 rfl rfl rfl rfl ?_
        refine st (s_pickF rfl rfl) rfl ?_
        refine Run.nil ?_
        refine pj_cut () trivial (.cons rfl (VT.le_refl _) (.cons rfl (VT.le_refl _) (.cons rfl (VT.le_refl _) (.cons rfl (VT.le_refl _) (.cons rfl (VT.le_refl _) (.cons rfl (one_le ?_) .nil)))))) (SubM.refl _)
        congr 1; symm; rw [decide_eq_false_iff_not]; omega
      · simp at h1
        refine sg1 rfl rfl (s_move rfl) rfl ?_
        refine sg1 rfl rfl (s_fieldAddr rfl) rfl ?_
        refine sg1 rfl rfl (s_loadB 0 rfl rfl rfl) rfl ?_
        (refine sg1 rfl rfl (s_mul rfl rfl (wrap_i64 ?_ ?_)) rfl ?_; omega; omega)
        refine sg1 rfl rfl (s_move rfl) rfl ?_
        (refine sg1 rfl rfl (s_add rfl rfl (wrap_i64 ?_ ?_)) rfl ?_; omega; omega)
        refine sg1 rfl rfl (s_move rfl) rfl ?_
        refine sg1 rfl rfl (s_len rfl) rfl ?_
        refine sg1 rfl rfl (s_lt rfl rfl) rfl ?_
        refine st (s_pickT rfl rfl) rfl ?_
        refine Run.nil ?_
        refine pj_cut () trivial (.cons rfl (VT.le_refl _) (.cons rfl (VT.le_refl _) (.cons rfl (VT.le_refl _) (.cons rfl (VT.le_refl _) (.cons rfl (VT.le_refl _) (.cons rfl (one_le ?_) .nil)))))) (SubM.refl _)
        congr 1; rw [decide_eq_decide]
        have : ((i * c : Nat) : Int) = (i : Int) * c := by simp
        omega
    · refine pj_then ?_
      refine J_cond rfl (fun hc2 => ?_) (fun hc2 => ?_) <;> simp only [decide_eq_true_eq, decide_eq_false_iff_not] at hc2
      · have hm4 : ((i * c : Nat) : Int) = (i : Int) * c := by simp
        refine J_skip ?_
        refine pj_then ?_
        refine J_seq ?_
        refine J_block ?_
        refine J_regd 19 mixed (by kernel_rfl) (by decide) ?_
        refine st (s_fieldAddr rfl) rfl ?_
        refine st (s_loadB 0 rfl rfl rfl) rfl ?_
        refine st (s_move rfl) rfl ?_
        (refine st (s_indexON rfl rfl ?_) rfl ?_; omega)
        (refine st (s_loadE 1 rfl rfl ?_) rfl ?_; omega)
        refine st (s_move rfl) rfl ?_
        refine st (s_move rfl) rfl ?_
        refine st (s_move rfl) rfl ?_
        refine st (s_fieldAddr rfl) rfl ?_
        refine st (s_loadB 0 rfl rfl rfl) rfl ?_
        (refine st (s_mul rfl rfl (wrap_i64 ?_ ?_)) rfl ?_; omega; omega)
        refine st (s_move rfl) rfl ?_
        (refine st (s_add rfl rfl (wrap_i64 ?_ ?_)) rfl ?_; omega; omega)
        (refine st (s_indexIN rfl rfl ?_) rfl ?_; omega)
        refine st (s_load rfl) rfl ?_
        refine st (s_rem rfl rfl (by decide) rfl) rfl ?_
        have hv := tmod10 (l.getD (i * c + j) 0)
        refine st (s_toI64 rfl ?_ ?_) rfl ?_; · omega
        · omega
        refine st (s_callk (rOf_ok _ (by omega) (by omega)) rfl ⟨VT.le_refl _, trivial⟩) rfl ?_
        (refine st (s_indexON rfl rfl ?_) rfl ?_; omega)
        refine Run.nil ?_
        (refine a_storeR 2 rfl rfl rfl (getq ?_) ?_ rfl ?_; omega; omega)
        refine Run.nil ?_
        refine pn_block ?_
        refine pj_then ?_
        refine J_reg ?_
        refine st (s_move rfl) rfl ?_
        (refine st (s_add rfl rfl (wrap_i64 ?_ ?_)) rfl ?_; omega; omega)
        refine st (s_assign rfl) rfl ?_
        refine Run.nil ?_
        refine pj_round (s := j) (j + 1) (show _ from by omega) (by omega) (by repeat (first | exact SubG.nil | refine SubG.cons rfl (VT.le_refl _) ?_ | (refine SubG.cons rfl (one_le ?_) ?_; (congr 1; first | omega | (simp; omega) | simp)))) (.keep (Own.le_refl _) (.keep (Own.le_refl _) (.keep (upd_fill _ rfl) (SubM.refl _))))
      · refine J_exit ?_
        refine px_then ?_
        refine px_then ?_
        refine px_block ?_
        refine pn_block ?_
        refine pj_then ?_
        refine J_reg ?_
        refine st (s_move rfl) rfl ?_
        (refine st (s_add rfl rfl (wrap_i64 ?_ ?_)) rfl ?_; omega; omega)
        refine st (s_assign rfl) rfl ?_
        refine Run.nil ?_
        refine pj_round (s := i) (i + 1) (show _ from by omega) (by omega) (by repeat (first | exact SubG.nil | refine SubG.cons rfl (VT.le_refl _) ?_ | (refine SubG.cons rfl (one_le ?_) ?_; (congr 1; first | omega | (simp; omega) | simp)))) (.keep (Own.le_refl _) (.keep (Own.le_refl _) (.keep (ownR_le fun q k hq hk => ?_) (SubM.refl _))))
        unfold fillF
        by_cases h : q < i ∨ (q = i ∧ k < j)
        · rw [if_pos h, if_pos (by omega)]
        · rw [if_neg h]
          by_cases h2 : q = i
          · subst h2; rw [if_pos (by omega)]
            have : l.length ≤ q * c + k := by omega
            simp [dig, List.getD, List.getElem?_eq_none this]
          · rw [if_neg (by omega)]
  · have hin : i = r := by omega
    subst hin
    refine J_exit ?_
    refine px_then ?_
    refine px_then ?_
    refine px_block ?_
    refine pj_then ?_
    refine J_seq ?_
    refine J_reg ?_
    refine st (s_loadW 0 rfl rfl) rfl ?_
    refine a_storeW 3 rfl rfl rfl rfl ?_
    refine Run.nil ?_
    refine pj_then ?_
    refine J_ret ?_
    refine retM1 ⟨(bs, sv1, cap1), hlen, hsv⟩ Try.results16 (.cellW 3 rfl rfl ?_) ?_
    · show VT.le _ (newT i c _)
      unfold newT
      exact VT.le_refl _
    · refine .drop (.keep (Own.le_refl _) (.keep (ownR_le fun a b ha hb => ?_) (.drop .nil)))
      have : a < i := by have : a < bs.length := ha; omega
      simp [fillF, this]
theorem newT_mat {r c : Nat} (F : Nat → Nat → Int) (s : NewS r) : Ent [outO s.1.2.1 s.1.2.2 r c s.1.1, ownR c s.1.1 F] (newT r c s) (matF r c F) := by
  unfold newT matF
  exact Ent.agg (newT_open s.2.1 ⟨by simp, by simp, by simp⟩)
theorem rFilled_ok (r c : Nat) (l : List Int) (hr0 : r ≤ 16) (hc0 : c ≤ 16) : Ok Try.prog 16 [one (.int .i64 r), one (.int .i64 c), numT .i8 l] (matF r c (fun i j => dig l (i * c + j))) :=
  (rFilledM_ok r c l hr0 hc0).ok fun s => newT_mat _ s
end Tor
