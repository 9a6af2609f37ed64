/-
  package matrix: New, Identity, Times.
-/
import Derived.Test.YtmpnikllhpagcaaX5
set_option linter.unusedVariables false
set_option linter.unusedSimpArgs false
namespace Tor
open Go Go.RowKit Go.Proofs
instance : Idle Try.prog 78 := Idle.of Try.func78 rfl Try.ntmps78 Try.results78
instance : Idle Try.prog 59 := Idle.of Try.func59 rfl Try.ntmps59 Try.results59
instance : Idle Try.prog 67 := Idle.of Try.func67 rfl Try.ntmps67 Try.results67
/-- A row and an error number. -/
def resV (ok : Bool) (e : Int) (n : Nat) (f : Nat → Int) : VT := tupT [rowF (if ok then n else 0) f, one (.int .i64 (if ok then 0 else e))]
attribute [local irreducible] Tor.J Tor.PJ Tor.StepO Tor.one Tor.slT Tor.ptrT Tor.aggT Tor.tupT Tor.exT Tor.andT Tor.gT Tor.eP Tor.boxO Tor.sliO Tor.slV Tor.VT.le Tor.Ret Tor.anyT
attribute [local irreducible] Tor.rowsO
set_option maxHeartbeats 2000000 in
theorem New_ok (r c : Nat) (hr : r ≤ 1048576) (hc0 : c ≤ 1048576) : OkM Try.prog 46 [one (.int .i64 r), one (.int .i64 c)] (newT r c) (fun s => [outO s.1.2.1 s.1.2.2 r c s.1.1, ownR c s.1.1 (fun _ _ => 0)]) := by
  refine OkM.enterD Try.func46 rfl Try.ntmps46 rfl (fun w O => ?_)
  have e1 : max (r : Int) 0 = r := by omega
  have e2 : max (c : Int) 0 = c := by omega
  refine J_seq ?_
  refine J_reg ?_
  refine a_allocS (T := 33) rfl rfl rfl (fun b => ?_)
  refine Run.nil ?_
  refine pj_then ?_
  refine J_seq ?_
  refine J_reg ?_
  refine a_defer rfl ?_
  refine Run.nil ?_
  refine pj_then ?_
  refine J_seq ?_
  refine J_reg ?_
  refine st (s_move rfl) rfl ?_
  refine st (s_max rfl rfl) rfl ?_
  refine st (s_move rfl) rfl ?_
  refine st (s_max rfl rfl) rfl ?_
  refine st (s_assign rfl) rfl ?_
  refine st (s_assign rfl) rfl ?_
  refine Run.nil ?_
  refine pj_then ?_
  refine J_seq ?_
  refine J_reg ?_
  refine st (s_move rfl) rfl ?_
  rw [e1, e2]
  refine a_makeSlice r r rfl rfl rfl rfl (Nat.le_refl _) rfl rfl (by omega) rfl rfl (fun bo => ?_)
  refine st (s_assign rfl) rfl ?_
  refine Run.nil ?_
  refine pj_then ?_
  refine J_seq ?_
  refine J_seq ?_
  refine J_reg ?_
  refine st (s_move rfl) rfl ?_
  refine st (s_lenO rfl) rfl ?_
  refine st (s_move rfl) rfl ?_
  refine Run.nil ?_
  refine pj_then ?_
  refine J_block ?_
  refine J_conv (ConvM.rows0 (T := 29) (L := .agg 2) (c := c) (φ := fun _ _ => bigT 0) _) ?_
  refine J_loop (σ := List Nat) (fun s => [(0, one (.int .i64 r)), (1, one (.int .i64 c)), (4, one (.pointer (some ⟨b, 0, none⟩))), (5, one (slV (some bo) r r)), (14, one (.int .i64 r)), (15, one (.int .i64 s.length))])
    (fun s => [sliO (some bo) 35 .one r r (fun q => if q < s.length then one (slV (some (s.getD q 0)) c c) else anyT), boxO b 33 3 (zeroC #[Value.int IntKind.i64 0, Value.int IntKind.i64 0, Value.slice none 0 0] [(0, Lay.one), (1, Lay.one), (2, Lay.one)]), ownR c s (fun _ _ => 0)])
    (fun s => s.length ≤ r) (fun s => r - s.length) [] (Nat.zero_le _) (by repeat (first | exact SubG.nil | refine SubG.cons rfl (VT.le_refl _) ?_ | (refine SubG.cons rfl (one_le ?_) ?_; (congr 1; first | omega | (simp; omega) | simp)))) (.keep (sliO_le fun q hq => by rw [if_neg (by simp)]; exact le_any _) (SubM.refl _)) (fun bs hk => ?_)
  refine J_seq ?_
  refine J_reg ?_
  refine st (s_lt rfl rfl) rfl ?_
  refine Run.nil ?_
  refine pj_then ?_
  refine J_seq ?_
  refine J_cond rfl (fun hc => ?_) (fun hc => ?_) <;> simp only [decide_eq_true_eq, decide_eq_false_iff_not, ne_eq, Decidable.not_not] at hc
  · refine J_skip ?_
    refine pj_then ?_
    refine J_seq ?_
    refine J_block ?_
    refine J_seq ?_
    refine J_reg ?_
    refine st (s_move rfl) rfl ?_
    refine st (s_assign rfl) rfl ?_
    refine Run.nil ?_
    refine pj_then ?_
    refine J_reg ?_
    refine st (s_move rfl) rfl ?_
    refine st (s_move rfl) rfl ?_
    refine st (s_move rfl) rfl ?_
    refine a_makeSlice c c rfl rfl rfl rfl (Nat.le_refl _) rfl rfl (by omega) rfl rfl (fun bz => ?_)
    (refine st (s_indexON rfl rfl ?_) rfl ?_; omega)
    (refine a_storeE 1 rfl rfl rfl ?_ rfl ?_; omega)
    refine Run.nil ?_
    refine pn_block ?_
    refine pj_then ?_
    refine J_reg ?_
    (refine st (s_add rfl rfl (wrap_i64 ?_ ?_)) rfl ?_; omega; omega)
    refine st (s_move rfl) rfl ?_
    refine Run.nil ?_
    refine PJ_conv (ConvM.row (k := 2) rfl) ?_
    refine pj_round (s := bs) (bs ++ [bz]) (by simp; omega) (by simp; omega) (.cons rfl (VT.le_refl _) (.cons rfl (VT.le_refl _) (.cons rfl (VT.le_refl _) (.cons rfl (VT.le_refl _) (.cons rfl (VT.le_refl _) (.cons rfl (one_le (by simp)) .nil)))))) ?_
    refine .keep (sliO_eq (fun q hq => ?_)) (.keep (Own.le_refl _) (.keep (rowsO_le fun i j hi hj => ?_) .nil))
    · unfold upd
      by_cases h : q = bs.length
      · subst h; simp
      · rw [if_neg h]
        show (if q < bs.length then one (slV (some (bs.getD q 0)) c c) else anyT) = _
        by_cases h2 : q < bs.length
        · rw [if_pos h2, if_pos (by simp; omega)]; simp [List.getElem?_append_left h2]
        · rw [if_neg h2, if_neg (by simp; omega)]
    · simp only
      split
      · exact VT.le_refl _
      · exact zero_big
  · have hlen : bs.length = r := by omega
    subst hlen
    refine J_exit ?_
    refine px_then ?_
    refine px_then ?_
    refine px_block ?_
    refine pj_then ?_
    refine J_seq ?_
    refine J_reg ?_
    refine st (s_move rfl) rfl ?_
    refine st (s_move rfl) rfl ?_
    refine st (s_move rfl) rfl ?_
    refine stB rfl rfl rfl ?_
    refine BuildK.cons rfl rfl rfl ?_
    refine BuildK.cons rfl rfl rfl ?_
    refine BuildK.cons rfl rfl rfl ?_
    refine BuildK.nil ?_
    refine a_storeW 1 rfl rfl rfl rfl ?_
    refine Run.nil ?_
    refine pj_then ?_
    refine J_ret ?_
    refine pj_idle (retM1 ⟨(bs, some bo, bs.length), rfl, fun h => by cases h⟩ Try.results46 (.cellW 1 rfl rfl (VT.le_refl _)) ?_)
    refine .keep (sliO_eq fun q hq => ?_) (.drop (SubM.refl _))
    rw [if_pos hq]
attribute [local irreducible] bigT
set_option maxHeartbeats 2000000 in
theorem Identity_ok (n : Nat) (hn : n ≤ 1048576) : Ok Try.prog 40 [one (.int .i64 n)] (matF n n (fun i j => if i = j then 1 else 0)) := by
  refine Ok.enter Try.func40 rfl Try.ntmps40 rfl (fun w O => ?_)
  refine J_seq ?_
  refine J_reg ?_
  refine a_allocS (T := 33) rfl rfl rfl (fun b => ?_)
  refine Run.nil ?_
  refine pj_then ?_
  refine J_seq ?_
  refine J_reg ?_
  refine st (s_move rfl) rfl ?_
  refine st (s_move rfl) rfl ?_
  refine a_callM (New_ok n n hn hn) rfl ⟨VT.le_refl _, VT.le_refl _, trivial⟩ rfl rfl (fun s => ?_)
  obtain ⟨⟨bs, sv1, cap1⟩, hlen, hsv⟩ := s
  simp only at hlen hsv
  unfold newT
  refine a_allocS (T := 33) rfl rfl rfl (fun b => ?_)
  refine a_storeW 0 rfl rfl rfl rfl ?_
  refine Run.nil ?_
  refine pj_then ?_
  refine J_seq ?_
  refine J_seq ?_
  refine J_reg ?_
  refine st (s_fieldAddr rfl) rfl ?_
  refine st (s_loadB 0 rfl rfl rfl) rfl ?_
  refine st (s_lenO rfl) rfl ?_
  refine st (s_move rfl) rfl ?_
  refine Run.nil ?_
  refine pj_then ?_
  refine J_block ?_
  rename_i b2
  refine J_loop (σ := Nat) (fun i => [(2, one (.pointer (some ⟨b2, 0, none⟩))), (3, one (.pointer (some ⟨b, 0, none⟩))), (10, one (.int .i64 n)), (11, one (.int .i64 (i : Nat)))])
    (fun i => [boxO b 33 3 [(0, .one, one (.int .i64 n)), (1, .one, one (.int .i64 n)), (2, .one, one (slV sv1 n cap1))], outO sv1 cap1 n n bs, ownR n bs (fun q k => if q < i then (if q = k then 1 else 0) else 0),
      boxO b2 33 3 (zeroC #[Value.int IntKind.i64 0, Value.int IntKind.i64 0, Value.slice none 0 0] [(0, Lay.one), (1, Lay.one), (2, Lay.one)])])
    (fun i => i ≤ n) (fun i => n - i) 0 (Nat.zero_le _) (by repeat (first | exact SubG.nil | refine SubG.cons rfl (VT.le_refl _) ?_ | (refine SubG.cons rfl (one_le ?_) ?_; (congr 1; first | omega | (simp; omega) | simp)))) (.keep (Own.le_refl _) (.keep (Own.le_refl _) (.keep (ownR_le fun i j hi hj => by simp) (SubM.refl _)))) (fun i hi => ?_)
  refine J_seq ?_
  refine J_reg ?_
  refine st (s_lt rfl rfl) rfl ?_
  refine Run.nil ?_
  refine pj_then ?_
  refine J_seq ?_
  refine J_cond rfl (fun hc => ?_) (fun hc => ?_) <;> simp only [decide_eq_true_eq, decide_eq_false_iff_not, ne_eq, Decidable.not_not] at hc
  · obtain ⟨bo, rfl⟩ := sv_some hsv (by omega)
    refine J_skip ?_
    refine pj_then ?_
    refine J_seq ?_
    refine J_block ?_
    refine J_seq ?_
    refine J_reg ?_
    refine st (s_move rfl) rfl ?_
    refine st (s_assign rfl) rfl ?_
    refine Run.nil ?_
    refine pj_then ?_
    refine J_regd 8 mixed (by kernel_rfl) (by decide) ?_
    refine st (s_fieldAddr rfl) rfl ?_
    refine st (s_loadB 0 rfl rfl rfl) rfl ?_
    refine st (s_move rfl) rfl ?_
    (refine st (s_indexON rfl rfl ?_) rfl ?_; omega)
    (refine st (s_loadE 1 rfl rfl ?_) rfl ?_; omega)
    refine st (s_move rfl) rfl ?_
    refine st (s_callk (Of_ok 1 (by decide) (by decide)) rfl ⟨VT.le_refl _, trivial⟩) rfl ?_
    (refine st (s_indexON rfl rfl ?_) rfl ?_; omega)
    refine Run.nil ?_
    (refine a_storeR 2 rfl rfl rfl (getq ?_) ?_ rfl ?_; omega; omega)
    refine Run.nil ?_
    refine pn_block ?_
    refine pj_then ?_
    refine J_reg ?_
    (refine st (s_add rfl rfl (wrap_i64 ?_ ?_)) rfl ?_; omega; omega)
    refine st (s_move rfl) rfl ?_
    refine Run.nil ?_
    refine pj_round (s := i) (i + 1) (show _ from by omega) (by omega) (by repeat (first | exact SubG.nil | refine SubG.cons rfl (VT.le_refl _) ?_ | (refine SubG.cons rfl (one_le ?_) ?_; (congr 1; first | omega | (simp; omega) | simp)))) (.keep (Own.le_refl _) (.keep (Own.le_refl _) (.keep (rowsO_eq fun q k hq hk => ?_) (SubM.refl _))))
    unfold upd2
    by_cases h : q = i
    · subst h
      by_cases h2 : k = q
      · subst h2; simp
      · have h3 : ¬ q = k := fun e => h2 e.symm
        simp [h2, h3]
    · have h3 : q < i + 1 ↔ q < i := by omega
      simp [h, h3]
  · have hin : i = n := by omega
    subst hin
    refine J_exit ?_
    refine px_then ?_
    refine px_then ?_
    refine px_block ?_
    refine pj_then ?_
    refine J_seq ?_
    refine J_reg ?_
    refine st (s_loadW 0 rfl rfl) rfl ?_
    refine a_storeW 3 rfl rfl rfl rfl ?_
    refine Run.nil ?_
    refine pj_then ?_
    refine J_ret ?_
    have hperm : ∀ (x y z u : Own), [x, y, z, u].Perm ([y, z] ++ [x, u]) := fun x y z u => (List.Perm.swap y x _).trans (List.Perm.cons y (List.Perm.swap z x _))
    refine PJ_open [outO sv1 cap1 i i bs, ownR i bs (fun q k => if q < i then (if q = k then 1 else 0) else 0)] (hperm _ _ _ _) (.keep (EntO.refl _) (.keep (EntO.box (newT_open hlen ⟨by simp, by simp, by simp⟩)) .nil)) (EntG.refl _) ?_
    refine retc1 Try.results40 (.cellW 1 rfl rfl ?_)
    exact matF_le fun a b ha hb => by simp [ha]
set_option maxHeartbeats 2000000 in
theorem Times_ok (n : Nat) (v : Nat → Int) (r c : Nat) (G : Nat → Nat → Int) (hr : r ≤ 1048576) (hc0 : c ≤ 1048576) (hv : ∀ i, mod4 (v i)) (hG : ∀ i j, mod4 (G i j)) :
    Ok Try.prog 30 [rowF n v, matF r c G] (resV (decide (n = r)) 50 c (fun j => sumF r (fun k => v k * G k j))) := by
  unfold resV
  refine Ok.enterD Try.func30 rfl Try.ntmps30 rfl (fun w O => ?_)
  refine J_fact (t := 0) rfl (fun _ _ => slT_bound) (fun hb => ?_)
  unfold matF
  refine J_seq ?_
  refine J_reg ?_
  refine a_boxS rfl rfl (ltN rfl) (fun b => ?_)
  refine st (s_assign rfl) rfl ?_
  refine st (s_assign rfl) rfl ?_
  refine Run.nil ?_
  refine pj_then ?_
  refine J_seq ?_
  refine J_reg ?_
  refine a_defer rfl ?_
  refine Run.nil ?_
  refine pj_then ?_
  refine J_seq ?_
  refine J_seq ?_
  refine J_reg ?_
  refine st (s_loadW 0 rfl rfl) rfl ?_
  refine st (s_callk (matValidF_ok r c G) rfl ⟨VT.le_refl _, trivial⟩) rfl ?_
  unfold rowF
  refine st (s_not rfl) rfl ?_
  refine st (s_move rfl) rfl ?_
  refine sg1 rfl rfl (s_move rfl) rfl ?_
  refine sg1 rfl rfl (s_len rfl) rfl ?_
  refine sg1 rfl rfl (s_fieldAddr rfl) rfl ?_
  refine sg1 rfl rfl (s_loadB 0 rfl rfl rfl) rfl ?_
  refine sg1 rfl rfl (s_ne rfl rfl) rfl ?_
  refine st (s_pickF rfl rfl) rfl ?_
  refine Run.nil ?_
  refine pj_then ?_
  refine J_cond rfl (fun hc => ?_) (fun hc => ?_) <;> simp only [decide_eq_true_eq, decide_eq_false_iff_not, ne_eq, Decidable.not_not] at hc
  · have hne : ¬ n = r := by omega
    refine J_seq ?_
    refine J_reg ?_
    refine st (s_assign rfl) rfl ?_
    refine st (s_assign rfl) rfl ?_
    refine Run.nil ?_
    refine pj_then ?_
    refine J_ret ?_
    refine pr_then ?_
    refine pj_idle (retc2 Try.results30 (.tmp rfl ?_) (.tmp rfl (one_le ?_)))
    · rw [decide_eq_false hne]; exact nil_slT
    · rw [decide_eq_false hne]; rfl
  · have he : n = r := by omega
    subst he
    refine J_skip ?_
    refine pj_then ?_
    refine J_seq ?_
    refine J_reg ?_
    refine st (s_move rfl) rfl ?_
    refine st (s_loadW 0 rfl rfl) rfl ?_
    refine st (s_callk (mtimes_ok n c v G hr hc0 hv hG) rfl ⟨VT.le_refl _, VT.le_refl _, trivial⟩) rfl ?_
    refine st (s_assign rfl) rfl ?_
    refine st (s_assign rfl) rfl ?_
    refine Run.nil ?_
    refine pj_then ?_
    refine J_ret ?_
    refine pj_idle (retc2 Try.results30 (.tmp rfl ?_) (.tmp rfl (one_le ?_)))
    · simp only [decide_true]; exact VT.le_refl _
    · simp
end Tor
