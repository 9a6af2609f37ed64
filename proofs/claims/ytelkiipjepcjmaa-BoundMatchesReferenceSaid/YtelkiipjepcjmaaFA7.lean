/-
  Proofs that laws of this seat return true for every input, and that their arguments read afterwards as before.
  No condition.
-/
import Derived.Test.YtelkiipjepcjmaaFA6
import Derived.Test.YtelkiipjepcjmaaRows
set_option linter.unusedVariables false
set_option linter.unusedSimpArgs false
section
namespace Tor
open Go Go.RowKit Go.Proofs
theorem nilV_le : VT.le (one (.slice none 0 0)) (one (slV none 0 0)) := VT.le_refl _
attribute [local irreducible] Tor.J Tor.PJ Tor.StepO Tor.one Tor.slT Tor.ptrT Tor.aggT Tor.tupT Tor.exT Tor.andT Tor.eP Tor.boxO Tor.sliO Tor.slV Tor.VT.le Tor.Ret Tor.anyT
attribute [local irreducible] bigT
set_option maxHeartbeats 4000000 in
theorem Len64s_ok (x : Nat) (hx : x < 256) : Ok Try.prog 92 [one (.int .u64 (x : Nat))] (one (.int .i64 (blen x))) := by
  have k2 : blen x ≤ 8 := blen_le (n := 8) (by omega) (by decide)
  refine Ok.enter Try.func92 rfl Try.ntmps92 rfl (fun w O => ?_)
  refine J_seq (J_reg (st (s_assign rfl) rfl (Run.nil (pj_then (J_seq (J_seq (J_reg (st (s_move rfl) rfl (st (sF (by omega) (s_ge rfl rfl)) rfl ?_)))))))))
  refine Run.nil (pj_then (J_cond0 rfl (J_skip (pj_then (J_seq (J_seq (J_reg (st (s_move rfl) rfl (st (sF (by omega) (s_ge rfl rfl)) rfl ?_)))))))))
  refine Run.nil (pj_then (J_cond0 rfl (J_skip (pj_then (J_seq (J_seq (J_reg (st (s_move rfl) rfl (st (sF (by omega) (s_ge rfl rfl)) rfl ?_)))))))))
  refine Run.nil (pj_then (J_cond0 rfl (J_skip (pj_then (J_seq (J_reg (st (s_move rfl) rfl (st (s_move rfl) rfl (st (s_toU8K rfl (by omega) (by omega)) rfl ?_)))))))))
  refine st (s_indexStr (by kernel_rfl) rfl rfl (tab_of (by decide +kernel) (by omega))) rfl (st (s_toI64 rfl (by omega) (by omega)) rfl (st (s_add rfl rfl (wrap_i64 (by omega) (by omega))) rfl (st (s_assign rfl) rfl (Run.nil (pj_then (J_ret ?_))))))
  refine retc1 Try.results92 (.tmp rfl (one_le (by congr 1; omega)))
set_option maxHeartbeats 4000000 in
theorem Lens_ok (x : Nat) (hx : x < 256) : Ok Try.prog 78 [one (.int .u64 (x : Nat))] (one (.int .i64 (blen x))) := by
  have h := Len64s_ok x hx
  refine Ok.enter Try.func78 rfl Try.ntmps78 rfl (fun w O => ?_)
  refine J_seq (J_reg (st (s_assign rfl) rfl (Run.nil (pj_then (J_seq (J_cond0 rfl (J_skip (pj_then (J_seq ?_)))))))))
  refine J_reg (st (s_move rfl) rfl ?_)
  refine st (s_callk (h ) rfl ⟨VT.le_refl _, trivial⟩) rfl ?_
  refine st (s_assign rfl) rfl (Run.nil (pj_then (J_ret ?_)))
  refine retc1 Try.results78 (.tmp rfl (VT.le_refl _))
set_option maxHeartbeats 4000000 in
theorem pdq_ok (sv : Option Nat) (cap n : Nat) (lim : Int) (g : Nat → Int) (cl : VT) (hn : n ≤ 12) (hC : ∀ x y, (∃ i, i < n ∧ x = g i) → (∃ i, i < n ∧ y = g i) → Callable Try.prog cl [bigT x, bigT y] (one (.int .i64 (cmpI y x)))) :
    OkI Try.prog 77 [one (slV sv n cap), one (.int .i64 0), one (.int .i64 (n : Nat)), one (.int .i64 lim), cl] [sliO sv 32 (.agg 2) cap n (fun q => bigT (g q))]
      (fun _ : Unit => tupT []) (fun _ => [sliO sv 32 (.agg 2) cap n (fun q => bigT (sortN n g q))]) := by
  have hi := insertion_ok sv cap n g cl (by omega) hC
  refine OkI.enter Try.func77 rfl Try.ntmps77 rfl (fun w O => ?_)
  refine J_seq (J_reg (st (s_assign rfl) rfl (Run.nil (pj_then (J_seq (J_reg (st (s_assign rfl) rfl (Run.nil (pj_then ?_)))))))))
  refine J_block ?_
  refine J_rounds 0 ?_
  refine J_block (J_seq (J_reg (st (s_move rfl) rfl (st (s_move rfl) rfl (st (s_subN _ 0 rfl rfl (by omega) (by omega)) rfl (st (s_assign rfl) rfl (Run.nil (pj_then (J_seq ?_)))))))))
  refine J_seq (J_reg (st (s_move rfl) rfl (st (sT (by omega) (s_le rfl rfl)) rfl (Run.nil (pj_then (J_cond1 rfl (J_seq (J_reg (st (s_move rfl) rfl ?_)))))))))
  refine st (s_move rfl) rfl (st (s_move rfl) rfl (st (s_move rfl) rfl ?_))
  refine a_callI (Kp := []) hi rfl ⟨VT.le_refl _, VT.le_refl _, VT.le_refl _, VT.le_refl _, trivial⟩ (List.Perm.refl _) rfl rfl (fun _ => ?_)
  refine Run.nil (pj_then (J_ret (pr_then (pr_block (pr_then (pr_block ?_))))))
  exact retI0 (σ := Unit) (ψ := fun _ => tupT []) () Try.results77 (VT.le_refl _) (SubM.refl _)
set_option maxHeartbeats 4000000 in
theorem SortFunc_ok (sv : Option Nat) (cap n : Nat) (g : Nat → Int) (cl : VT) (hn : n ≤ 12) (hC : ∀ x y, (∃ i, i < n ∧ x = g i) → (∃ i, i < n ∧ y = g i) → Callable Try.prog cl [bigT x, bigT y] (one (.int .i64 (cmpI y x)))) :
    OkI Try.prog 59 [one (slV sv n cap), cl] [sliO sv 32 (.agg 2) cap n (fun q => bigT (g q))]
      (fun _ : Unit => tupT []) (fun _ => [sliO sv 32 (.agg 2) cap n (fun q => bigT (sortN n g q))]) := by
  have hp := fun lim => pdq_ok sv cap n lim g cl hn hC
  have hL := Lens_ok n (by omega)
  refine OkI.enter Try.func59 rfl Try.ntmps59 rfl (fun w O => ?_)
  refine J_seq (J_reg (st (s_move rfl) rfl (st (s_lenO rfl) rfl (st (s_assign rfl) rfl (Run.nil (pj_then (J_reg (st (s_move rfl) rfl (st (s_move rfl) rfl ?_)))))))))
  refine st (s_move rfl) rfl (st (s_toU64 rfl (by omega)) rfl ?_)
  refine st (s_callk (hL ) rfl ⟨VT.le_refl _, trivial⟩) rfl ?_
  refine st (s_move rfl) rfl ?_
  refine a_callI (Kp := []) (hp _) rfl ⟨VT.le_refl _, VT.le_refl _, VT.le_refl _, VT.le_refl _, VT.le_refl _, trivial⟩ (List.Perm.refl _) rfl rfl (fun _ => ?_)
  refine Run.nil (pj_fall ?_)
  exact retI0 (σ := Unit) (ψ := fun _ => tupT []) () Try.results59 (VT.le_refl _) (SubM.refl _)
set_option maxHeartbeats 4000000 in
theorem cmpLen_ok (x y : Int) : Ok Try.prog 60 [bigT x, bigT y] (one (.int .i64 (cmpI y x))) := by
  have h := CmpI_ok y x
  refine Ok.enter Try.func60 rfl Try.ntmps60 rfl (fun w O => ?_)
  refine J_seq (J_reg ?_)
  refine a_box rfl rfl (ltN rfl) (fun b2 => ?_)
  refine a_box rfl rfl (ltN rfl) (fun b3 => ?_)
  refine st (s_assign rfl) rfl (Run.nil (pj_then (J_seq (J_reg (st (s_loadB 0 rfl rfl rfl) rfl (st (s_loadB 1 rfl rfl rfl) rfl ?_))))))
  refine st (s_callk (h ) rfl ⟨VT.le_refl _, VT.le_refl _, trivial⟩) rfl ?_
  refine st (s_assign rfl) rfl (Run.nil (pj_then (J_ret ?_)))
  refine retc1 Try.results60 (.tmp rfl (VT.le_refl _))
theorem srt_le {r c : Nat} {F : Nat → Nat → Int} : VT.le (slT (.agg 2) r (fun q => bigT (sortN r (fun i => (lenN c (F i) : Int)) q))) (slT (.agg 2) r (fun t => bigT (srtN r c F t : Int))) := slT_le fun q hq => le_eq (by rw [srtN_cast hq])
set_option maxHeartbeats 4000000 in
theorem lengths_ok (r c : Nat) (F : Nat → Nat → Int) (hr : r ≤ 12) (hc : c ≤ 1048576) (hF : ∀ i j, mod4 (F i j)) : Ok Try.prog 39 [matF r c F] (slT (.agg 2) r (fun t => bigT (srtN r c F t : Int))) := by
  have hd := fun i => Dot_ok c c (F i) (F i) hc hc (hF i) (hF i)
  have hd' : ∀ i, Ok Try.prog 58 [rowF c (F i), rowF c (F i)] (tupT [bigT (lenN c (F i) : Int), one (.int .i64 0)]) := fun i => by
    have h := hd i
    rw [if_pos rfl, if_pos rfl, ← lenN_eq] at h; exact h
  clear hd
  unfold matF rowF at *
  refine Ok.enter Try.func39 rfl Try.ntmps39 rfl (fun w O => ?_)
  refine J_seq (J_reg ?_)
  refine a_boxS rfl rfl (ltN rfl) (fun b1 => ?_)
  refine st (s_assign rfl) rfl (Run.nil (pj_then (J_seq (J_reg (st (s_assign rfl) rfl (Run.nil (pj_then (J_seq (J_seq ?_)))))))))
  refine J_reg (st (s_fieldAddr rfl) rfl (st (s_loadB 0 rfl rfl rfl) rfl (st (s_len rfl) rfl (st (s_move rfl) rfl (Run.nil (pj_then (J_block ?_)))))))
  refine J_conv (ConvM.nilSl0 (T := 32) (L := .agg 2) (φ := fun _ => anyT) _) ?_
  refine J_sub (Γ' := [(2, _), (3, _), (9, _), (10, _), (11, _)]) (SubG.cons rfl (VT.le_refl _) (SubG.cons rfl (VT.le_refl _) (SubG.cons rfl (VT.le_refl _) (SubG.cons rfl (VT.le_refl _) (SubG.cons rfl (VT.le_refl _) (SubG.nil)))))) (SubM.refl _) ?_
  refine J_loopA (σ := Nat × Option Nat × Nat) (Γk := [(2, _), (9, _), (10, _)]) (SubG.cons rfl (VT.le_refl _) (SubG.cons rfl (VT.le_refl _) (SubG.cons rfl (VT.le_refl _) (SubG.nil)))) (fun s => [(11, one (.int .i64 (s.1 : Nat))), (3, one (slV s.2.1 s.1 s.2.2))]) (fun s M0 => (M0.set 0 (sliO s.2.1 32 (.agg 2) s.2.2 s.1 (fun q => bigT (lenN c (F q) : Int))))) (fun s => s.1 ≤ r) (fun s => r - s.1) ((0, none, 0)) (Nat.zero_le _) (by (repeat (first | exact SubG.nil | refine SubG.cons rfl (VT.le_refl _) ?_ | refine SubG.cons rfl nilV_le ?_))) (.keep (sliO_eq (fun q hq => absurd hq (Nat.not_lt_zero _))) (.keep (Own.le_refl _) (.nil))) (fun s hs => ?_)
  refine J_norm (Γ' := [(11, _), (3, _), (2, _), (9, _), (10, _)]) (M' := [_, _]) rfl rfl ?_
  obtain ⟨i, sv, cap⟩ := s
  dsimp only at hs ⊢
  by_cases hi : i < r
  · refine J_seq (J_reg (st (sT (by omega) (s_lt rfl rfl)) rfl (Run.nil (pj_then (J_seq (J_cond1 rfl (J_skip (pj_then (J_seq ?_)))))))))
    refine J_block (J_seq (J_reg (st (s_indexIN rfl rfl (by omega)) rfl (st (s_load rfl) rfl (st (s_assign rfl) rfl (Run.nil (pj_then (J_seq (J_reg ?_)))))))))
    refine st (s_move rfl) rfl (st (s_move rfl) rfl ?_)
    refine st (s_callk (hd' _) rfl ⟨VT.le_refl _, VT.le_refl _, trivial⟩) rfl ?_
    refine st (s_move rfl) rfl (st (s_extract rfl rfl) rfl (st (s_extract rfl rfl) rfl ?_))
    refine a_alloc (T := 32) rfl (ltN rfl) (fun b6 => ?_)
    refine a_storeB 0 rfl rfl rfl rfl rfl (leN rfl) rfl (st (s_assign rfl) rfl (Run.nil (pj_then (J_reg (st (s_move rfl) rfl (st (s_loadB 0 rfl rfl rfl) rfl (stS1 rfl rfl rfl rfl ?_)))))))
    (refine a_append 1 rfl rfl rfl (leN rfl) ?_ ?_ rfl (ltN rfl) (fun sv24 cap24 => ?_); omega; omega)
    refine st (s_assign rfl) rfl (Run.nil (pn_block (pj_then (J_reg (st (s_addN _ 1 rfl rfl (by omega)) rfl (st (s_move rfl) rfl (Run.nil ?_)))))))
    refine pj_roundM ((i + 1, sv24, cap24)) (hi) (by omega) (by repeat (first | exact SubG.refl _ | exact SubG.nil | refine SubG.cons rfl (VT.le_refl _) ?_ | (refine SubG.cons rfl (one_le ?_) ?_; (congr 1; first | omega | (simp; omega) | simp)))) (.drop (.keep (rowT_snoc (h := fun q => (lenN c (F q) : Int)) rfl) (.keep (Own.le_refl _) (.nil))))
  · have he : i = r := by omega
    subst he
    have hso := SortFunc_ok sv cap i (fun q => (lenN c (F q) : Int)) (one (.func (.func 60) #[] #[])) hr (fun x y _ _ => Callable.fn (cmpLen_ok x y))
    refine J_seq (J_reg (st (sF (by omega) (s_lt rfl rfl)) rfl (Run.nil (pj_then (J_seq (J_cond0 rfl (J_exit (px_then (px_then ?_)))))))))
    refine px_block (pj_then (J_seq (J_reg (st (s_move rfl) rfl ?_))))
    refine a_callI (Kp := [_]) hso rfl ⟨VT.le_refl _, VT.le_refl _, trivial⟩ (List.Perm.refl _) rfl rfl (fun _ => ?_)
    refine Run.nil (pj_then (J_seq (J_reg (st (s_move rfl) rfl (st (s_assign rfl) rfl (Run.nil (pj_then (J_ret (PJ_freeze (t := 2) (i := 0) rfl rfl ?_)))))))))
    refine retc1 Try.results39 (.tmp rfl (srt_le))
set_option maxHeartbeats 4000000 in
theorem root_ok (n : Nat) (g : Nat → Nat) (B : Nat) (hn : n ≤ 1048576) (hB : 1 ≤ B) (hp : B ^ n < 2 ^ 800) (hg : ∀ i, i < n → g i ≤ B) : Ok Try.prog 38 [slT (.agg 2) n (fun t => bigT (g t : Int))] (bigT (upN (prN n g) : Int)) := by
  have h1 := Of_ok 1 (by decide) (by decide)
  refine Ok.enter Try.func38 rfl Try.ntmps38 rfl (fun w O => ?_)
  refine J_seq (J_reg ?_)
  refine a_alloc (T := 32) rfl (ltN rfl) (fun b2 => ?_)
  refine Run.nil (pj_then (J_seq (J_reg ?_)))
  refine st (s_callk (h1 ) rfl ⟨VT.le_refl _, trivial⟩) rfl ?_
  refine a_alloc (T := 32) rfl (ltN rfl) (fun b3 => ?_)
  refine a_storeB 0 rfl rfl rfl rfl rfl (leN rfl) rfl (Run.nil (pj_then (J_seq (J_seq (J_reg (st (s_move rfl) rfl (st (s_len rfl) rfl (st (s_move rfl) rfl (Run.nil ?_)))))))))
  refine pj_then (J_block (J_sub (Γ' := [(2, _), (3, _), (9, _), (10, _), (11, _)]) (SubG.cons rfl (VT.le_refl _) (SubG.cons rfl (VT.le_refl _) (SubG.cons rfl (VT.le_refl _) (SubG.cons rfl (VT.le_refl _) (SubG.cons rfl (VT.le_refl _) (SubG.nil)))))) (SubM.refl _) ?_))
  refine J_loopA (σ := Nat) (Γk := [(2, _), (3, _), (9, _), (10, _)]) (SubG.cons rfl (VT.le_refl _) (SubG.cons rfl (VT.le_refl _) (SubG.cons rfl (VT.le_refl _) (SubG.cons rfl (VT.le_refl _) (SubG.nil))))) (fun i => [(11, one (.int .i64 (i : Nat)))]) (fun i M0 => (M0.set 0 (boxO b3 32 2 [(0, .agg 2, bigT (prN i g : Int))]))) (fun i => i ≤ n) (fun i => n - i) (0) (Nat.zero_le _) (by repeat (first | exact SubG.refl _ | exact SubG.nil | refine SubG.cons rfl (VT.le_refl _) ?_ | (refine SubG.cons rfl (one_le ?_) ?_; (congr 1; first | omega | (simp; omega) | simp)))) (.keep (Own.le_refl _) (.keep (Own.le_refl _) (.nil))) (fun i hi => ?_)
  refine J_norm (Γ' := [(11, _), (2, _), (3, _), (9, _), (10, _)]) (M' := [_, _]) rfl rfl ?_
  by_cases hi : i < n
  · have hB8 := B_lt hB hp (by omega)
    have hm := MulI_ok (prN i g : Int) (g i : Int) (sm800 (pw800 (prN_lt hB hp hg (Nat.le_of_lt hi)))) (sm800 (pw800 (Nat.lt_of_le_of_lt (hg i hi) hB8)))
    have hs : ((prN (i + 1) g : Nat) : Int) = (prN i g : Int) * (g i : Int) := by rw [prN, Int.natCast_mul]
    refine J_seq (J_reg (st (sT (by omega) (s_lt rfl rfl)) rfl (Run.nil (pj_then (J_seq (J_cond1 rfl (J_skip (pj_then (J_seq ?_)))))))))
    refine J_block (J_seq (J_reg (st (s_indexIN rfl rfl (by omega)) rfl (st (s_load rfl) rfl ?_))))
    refine a_alloc (T := 32) rfl (ltN rfl) (fun b5 => ?_)
    refine a_storeB 0 rfl rfl rfl rfl rfl (leN rfl) rfl (Run.nil (pj_then (J_reg (st (s_loadB 1 rfl rfl rfl) rfl (st (s_loadB 0 rfl rfl rfl) rfl ?_)))))
    refine st (s_callk (hm ) rfl ⟨VT.le_refl _, VT.le_refl _, trivial⟩) rfl ?_
    refine a_storeB 1 rfl rfl rfl rfl rfl (leN rfl) rfl (Run.nil (pn_block (pj_then (J_reg (st (s_addN _ 1 rfl rfl (by omega)) rfl (st (s_move rfl) rfl (Run.nil ?_)))))))
    refine pj_roundM (i + 1) (hi) (by omega) (by repeat (first | exact SubG.refl _ | exact SubG.nil | refine SubG.cons rfl (VT.le_refl _) ?_ | (refine SubG.cons rfl (one_le ?_) ?_; (congr 1; first | omega | (simp; omega) | simp)))) (.drop (.keep (Own.le_refl _) (.keep (Own.le_refl _) (.nil))))
  · have he : i = n := by omega
    subst he
    have ha := prN_lt hB hp hg (Nat.le_refl i)
    generalize prN i g = a at *
    have h2 := isq_spec a
    have hs := isq_le a
    have hro : Ok Try.prog 57 [bigT (a : Int)] (tupT [bigT (isq a : Int), one (.int .i64 0)]) := by
      by_cases h0 : a = 0
      · subst h0; exact Root0_ok
      · exact Root_ok a (isq a) ha h0 h2.1 h2.2
    have hsm : small (isq a : Int) := sm800 (Nat.le_trans hs (pw800 ha))
    have hm := MulI_ok (isq a : Int) (isq a : Int) hsm hsm
    have hq : (isq a : Int) * (isq a : Int) = ((isq a * isq a : Nat) : Int) := (Int.natCast_mul _ _).symm
    have hc := CmpI_ok ((isq a : Int) * (isq a : Int)) (a : Int)
    have had := AddI_ok (isq a : Int) 1 hsm small_one
    unfold upN
    by_cases hlt : isq a * isq a < a
    · have hcc : cmpI ((isq a : Int) * (isq a : Int)) (a : Int) < 0 := by rw [hq]; unfold cmpI; rw [if_pos (by omega)]; decide
      rw [if_pos hlt]
      generalize cmpI ((isq a : Int) * (isq a : Int)) (a : Int) = cc at *
      refine J_seq (J_reg (st (sF (by omega) (s_lt rfl rfl)) rfl (Run.nil (pj_then (J_seq (J_cond0 rfl (J_exit (px_then (px_then ?_)))))))))
      refine px_block (pj_then (J_seq (J_reg (st (s_loadB 0 rfl rfl rfl) rfl ?_))))
      refine st (s_callk (hro ) rfl ⟨VT.le_refl _, trivial⟩) rfl ?_
      refine st (s_move rfl) rfl (st (s_extract rfl rfl) rfl (st (s_extract rfl rfl) rfl ?_))
      refine a_alloc (T := 32) rfl (ltN rfl) (fun b6 => ?_)
      refine a_storeB 0 rfl rfl rfl rfl rfl (leN rfl) rfl (st (s_assign rfl) rfl (Run.nil (pj_then (J_seq (J_seq (J_regd 6 mixed (by kernel_rfl) (by decide) (st (s_loadB 0 rfl rfl rfl) rfl (st (s_loadB 0 rfl rfl rfl) rfl ?_))))))))
      refine st (s_callk (hm ) rfl ⟨VT.le_refl _, VT.le_refl _, trivial⟩) rfl ?_
      refine st (s_loadB 1 rfl rfl rfl) rfl ?_
      refine st (s_callk (hc ) rfl ⟨VT.le_refl _, VT.le_refl _, trivial⟩) rfl ?_
      refine st (sT (by assumption) (s_lt rfl rfl)) rfl (Run.nil (Run.nil (pj_then (J_cond1 rfl (J_regd 2 mixed (by kernel_rfl) (by decide) (st (s_loadB 0 rfl rfl rfl) rfl ?_))))))
      refine st (s_callk (h1 ) rfl ⟨VT.le_refl _, trivial⟩) rfl ?_
      refine Run.nil ?_
      refine st (s_callk (had ) rfl ⟨VT.le_refl _, VT.le_refl _, trivial⟩) rfl ?_
      refine a_storeB 0 rfl rfl rfl rfl rfl (leN rfl) rfl (Run.nil (pj_then (J_seq (J_reg (st (s_loadB 0 rfl rfl rfl) rfl (a_storeB 2 rfl rfl rfl rfl rfl (leN rfl) rfl (Run.nil (pj_then (J_ret ?_)))))))))
      refine retc1 Try.results38 (.cellB 2 rfl rfl rfl (bigT_cast (by omega)))
    · have hcc : ¬ cmpI ((isq a : Int) * (isq a : Int)) (a : Int) < 0 := by
        rw [hq]; unfold cmpI; rw [if_neg (by omega)]; split <;> decide
      rw [if_neg hlt]
      generalize cmpI ((isq a : Int) * (isq a : Int)) (a : Int) = cc at *
      refine J_seq (J_reg (st (sF (by omega) (s_lt rfl rfl)) rfl (Run.nil (pj_then (J_seq (J_cond0 rfl (J_exit (px_then (px_then ?_)))))))))
      refine px_block (pj_then (J_seq (J_reg (st (s_loadB 0 rfl rfl rfl) rfl ?_))))
      refine st (s_callk (hro ) rfl ⟨VT.le_refl _, trivial⟩) rfl ?_
      refine st (s_move rfl) rfl (st (s_extract rfl rfl) rfl (st (s_extract rfl rfl) rfl ?_))
      refine a_alloc (T := 32) rfl (ltN rfl) (fun b6 => ?_)
      refine a_storeB 0 rfl rfl rfl rfl rfl (leN rfl) rfl (st (s_assign rfl) rfl (Run.nil (pj_then (J_seq (J_seq (J_regd 6 mixed (by kernel_rfl) (by decide) (st (s_loadB 0 rfl rfl rfl) rfl (st (s_loadB 0 rfl rfl rfl) rfl ?_))))))))
      refine st (s_callk (hm ) rfl ⟨VT.le_refl _, VT.le_refl _, trivial⟩) rfl ?_
      refine st (s_loadB 1 rfl rfl rfl) rfl ?_
      refine st (s_callk (hc ) rfl ⟨VT.le_refl _, VT.le_refl _, trivial⟩) rfl ?_
      refine st (sF (by assumption) (s_lt rfl rfl)) rfl (Run.nil (Run.nil (pj_then (J_cond0 rfl (J_skip (pj_then (J_seq (J_reg (st (s_loadB 0 rfl rfl rfl) rfl ?_)))))))))
      refine a_storeB 2 rfl rfl rfl rfl rfl (leN rfl) rfl (Run.nil (pj_then (J_ret ?_)))
      refine retc1 Try.results38 (.cellB 2 rfl rfl rfl (VT.le_refl _))
end Tor
end
section
namespace Tor
open Go Go.RowKit Go.Proofs
def cstRow (f : Nat → Int) : Nat → Nat × Nat → Nat × Nat
  | 0, s => s
  | k + 1, s => if f k = 0 then cstRow f k s else ((cstRow f k s).1 + 1, max (cstRow f k s).2 (bitsN (f k).natAbs))
def cstM (c : Nat) (F : Nat → Nat → Int) : Nat → Nat × Nat
  | 0 => (0, 0)
  | i + 1 => cstRow (F i) c (cstM c F i)
theorem cstRow_le {f : Nat → Int} (hf : ∀ k, bitsN (f k).natAbs ≤ 2048) {s : Nat × Nat} (h2 : s.2 ≤ 2048) : ∀ k, (cstRow f k s).1 ≤ s.1 + k ∧ (cstRow f k s).2 ≤ 2048
  | 0 => ⟨Nat.le_refl _, h2⟩
  | k + 1 => by
    obtain ⟨h3, h4⟩ := cstRow_le hf h2 k
    have := hf k
    show (if f k = 0 then cstRow f k s else ((cstRow f k s).1 + 1, max (cstRow f k s).2 (bitsN (f k).natAbs))).1 ≤ _ ∧ (if f k = 0 then cstRow f k s else ((cstRow f k s).1 + 1, max (cstRow f k s).2 (bitsN (f k).natAbs))).2 ≤ 2048
    split
    · exact ⟨by omega, h4⟩
    · exact ⟨by dsimp only; omega, by dsimp only; omega⟩
theorem cstM_le {c : Nat} {F : Nat → Nat → Int} (hc : c ≤ 8) (hf : ∀ i k, bitsN (F i k).natAbs ≤ 2048) : ∀ i, (cstM c F i).1 ≤ 8 * i ∧ (cstM c F i).2 ≤ 2048
  | 0 => ⟨Nat.le_refl _, Nat.zero_le _⟩
  | i + 1 => by
    obtain ⟨h1, h2⟩ := cstM_le hc hf i
    obtain ⟨h3, h4⟩ := cstRow_le (hf i) (s := cstM c F i) h2 c
    exact ⟨by show (cstRow (F i) c (cstM c F i)).1 ≤ _; omega, h4⟩
abbrev costT (a b c : Nat) : VT := aggT 3 [(0, .one, one (.int .i64 (a : Nat))), (1, .one, one (.int .i64 (b : Nat))), (2, .one, one (.int .i64 (c : Nat)))]
theorem cost_le {b : Nat} {T : TypeId} {s s' : Nat × Nat} {y : Nat} (hs : s' = (s.1 + 1, max s.2 y)) : Own.le (boxO b T 3 [(0, .one, one (.int .i64 ((s.1 + 1 : Nat) : Int))), (1, .one, one (.int .i64 (max (s.2 : Int) (y : Int)))), (2, .one, one (.int .i64 0))]) (boxO b T 3 [(0, .one, one (.int .i64 (s'.1 : Nat))), (1, .one, one (.int .i64 (s'.2 : Nat))), (2, .one, one (.int .i64 0))]) := by
  subst hs
  rw [show max (s.2 : Int) (y : Int) = ((max s.2 y : Nat) : Int) by omega]
  exact Own.le_refl _
theorem cost_same {b : Nat} {T : TypeId} {s s' : Nat × Nat} (hs : s' = s) : Own.le (boxO b T 3 [(0, .one, one (.int .i64 (s.1 : Nat))), (1, .one, one (.int .i64 (max (s.2 : Int) 0))), (2, .one, one (.int .i64 0))]) (boxO b T 3 [(0, .one, one (.int .i64 (s'.1 : Nat))), (1, .one, one (.int .i64 (s'.2 : Nat))), (2, .one, one (.int .i64 0))]) := by
  subst hs
  rw [show max (s'.2 : Int) 0 = (s'.2 : Int) by omega]
  exact Own.le_refl _
def stepsN (r c b : Nat) : Nat := r * c * (min r c) * (1 + b * (min r c) / 32)
theorem steps_le {r c b : Nat} (hr : r ≤ 8) (hc : c ≤ 8) (hb : b ≤ 2048) : r * c ≤ 64 ∧ r * c * (min r c) ≤ 512 ∧ b * (min r c) ≤ 16384 ∧ r * c * (min r c) * (1 + b * (min r c) / 32) ≤ 512 * 513 := by
  have h1 : r * c ≤ 8 * 8 := Nat.mul_le_mul hr hc
  have h2 : min r c ≤ 8 := by omega
  have h3 : r * c * min r c ≤ 64 * 8 := Nat.mul_le_mul h1 h2
  have h4 : b * min r c ≤ 2048 * 8 := Nat.mul_le_mul hb h2
  exact ⟨h1, h3, h4, Nat.mul_le_mul h3 (by omega)⟩
attribute [local irreducible] Tor.J Tor.PJ Tor.StepO Tor.one Tor.slT Tor.ptrT Tor.aggT Tor.tupT Tor.exT Tor.andT Tor.eP Tor.boxO Tor.sliO Tor.slV Tor.VT.le Tor.Ret Tor.anyT
attribute [local irreducible] bigT
set_option maxHeartbeats 4000000 in
theorem HadamardS_ok (r c : Nat) (F : Nat → Nat → Int) (h : r ≠ c) : Ok Try.prog 10 [matF r c F] (tupT [bigT 0, one (.int .i64 50)]) := by
  have hv := matValidF_ok r c F
  unfold matF at *
  refine Ok.enter Try.func10 rfl Try.ntmps10 rfl (fun w O => ?_)
  refine J_seq (J_reg ?_)
  refine a_boxS rfl rfl (ltN rfl) (fun b1 => ?_)
  refine a_alloc (T := 32) rfl (ltN rfl) (fun b2 => ?_)
  refine st (s_assign rfl) rfl (Run.nil (pj_then (J_seq (J_seq (J_reg (st (s_loadW 1 rfl rfl) rfl ?_))))))
  refine st (s_callk (hv ) rfl ⟨VT.le_refl _, trivial⟩) rfl ?_
  refine st (s_not rfl) rfl (st (s_move rfl) rfl (sg1 rfl rfl (s_fieldAddr rfl) rfl (sg1 rfl rfl (s_loadB 1 rfl rfl rfl) rfl (sg1 rfl rfl (s_fieldAddr rfl) rfl (sg1 rfl rfl (s_loadB 1 rfl rfl rfl) rfl (sg1 rfl rfl (sT (by omega) (s_ne rfl rfl)) rfl (st (s_pickF rfl rfl) rfl (Run.nil (pj_then ?_)))))))))
  refine J_cond1 rfl (J_seq (J_reg (stB rfl rfl rfl (BuildK.nil (a_storeB 0 rfl rfl rfl rfl rfl (leN rfl) rfl (st (s_assign rfl) rfl (Run.nil (pj_then (J_ret ?_)))))))))
  refine pr_then ?_
  refine retc2 Try.results10 (.cellB 0 rfl rfl rfl (zero_bigC)) (.tmp rfl (VT.le_refl _))
set_option maxHeartbeats 4000000 in
theorem Hadamard_ok (r : Nat) (F : Nat → Nat → Int) (B : Nat) (hr : r ≤ 12) (hF : ∀ i j, mod4 (F i j)) (hB : 1 ≤ B) (hn : B ^ r < 2 ^ 800) (hl : ∀ i, i < r → lenN r (F i) ≤ B) : Ok Try.prog 10 [matF r r F] (tupT [bigT (upN (prN r (srtN r r F)) : Int), one (.int .i64 0)]) := by
  have hv := matValidF_ok r r F
  have hle := lengths_ok r r F hr (by omega) hF
  have hro := root_ok r (srtN r r F) B (by omega) hB hn (fun i hi => srtN_le hl hi)
  unfold matF at *
  refine Ok.enter Try.func10 rfl Try.ntmps10 rfl (fun w O => ?_)
  refine J_seq (J_reg ?_)
  refine a_boxS rfl rfl (ltN rfl) (fun b1 => ?_)
  refine a_alloc (T := 32) rfl (ltN rfl) (fun b2 => ?_)
  refine st (s_assign rfl) rfl (Run.nil (pj_then (J_seq (J_seq (J_reg (st (s_loadW 1 rfl rfl) rfl ?_))))))
  refine st (s_callk (hv ) rfl ⟨VT.le_refl _, trivial⟩) rfl ?_
  refine st (s_not rfl) rfl (st (s_move rfl) rfl (sg1 rfl rfl (s_fieldAddr rfl) rfl (sg1 rfl rfl (s_loadB 1 rfl rfl rfl) rfl (sg1 rfl rfl (s_fieldAddr rfl) rfl (sg1 rfl rfl (s_loadB 1 rfl rfl rfl) rfl (sg1 rfl rfl (sF (by omega) (s_ne rfl rfl)) rfl (st (s_pickF rfl rfl) rfl (Run.nil (pj_then ?_)))))))))
  refine J_cond0 rfl (J_skip (pj_then (J_seq (J_reg (st (s_loadW 1 rfl rfl) rfl ?_)))))
  refine st (s_callk (hle ) rfl ⟨VT.le_refl _, trivial⟩) rfl ?_
  refine st (s_callk (hro ) rfl ⟨VT.le_refl _, trivial⟩) rfl ?_
  refine a_storeB 0 rfl rfl rfl rfl rfl (leN rfl) rfl (st (s_assign rfl) rfl (Run.nil (pj_then (J_ret ?_))))
  refine retc2 Try.results10 (.cellB 0 rfl rfl rfl (VT.le_refl _)) (.tmp rfl (VT.le_refl _))
set_option maxHeartbeats 4000000 in
theorem MinorL_ok (r c : Nat) (F : Nat → Nat → Int) (k : Int) (hk : k ≤ 0) : Ok Try.prog 14 [matF r c F, one (.int .i64 k)] (bigT 1) := by
  have h0 := Of_ok 1 (by decide) (by decide)
  unfold matF
  refine Ok.enter Try.func14 rfl Try.ntmps14 rfl (fun w O => ?_)
  refine J_seq (J_reg ?_)
  refine a_boxS rfl rfl (ltN rfl) (fun b2 => ?_)
  refine a_alloc (T := 32) rfl (ltN rfl) (fun b4 => ?_)
  refine Run.nil (pj_then (J_seq (J_block (J_seq (J_reg (st (s_move rfl) rfl (st (sT (by assumption) (s_le rfl rfl)) rfl (st (s_assign rfl) rfl (Run.nil ?_)))))))))
  refine pj_then (J_cond1 rfl (J_seq (J_reg ?_)))
  refine st (s_callk (h0 ) rfl ⟨VT.le_refl _, trivial⟩) rfl ?_
  refine a_storeB 0 rfl rfl rfl rfl rfl (leN rfl) rfl (Run.nil (pj_then (J_ret (pr_block (pr_then ?_)))))
  refine retc1 Try.results14 (.cellB 0 rfl rfl rfl (VT.le_refl _))
set_option maxHeartbeats 4000000 in
theorem MinorG_ok (r c : Nat) (F : Nat → Nat → Int) (k : Int) (hk : (r : Int) < k) (hk0 : 0 < k) : Ok Try.prog 14 [matF r c F, one (.int .i64 k)] (bigT 0) := by
  unfold matF
  refine Ok.enter Try.func14 rfl Try.ntmps14 rfl (fun w O => ?_)
  refine J_seq (J_reg ?_)
  refine a_boxS rfl rfl (ltN rfl) (fun b2 => ?_)
  refine a_alloc (T := 32) rfl (ltN rfl) (fun b4 => ?_)
  refine Run.nil (pj_then (J_seq (J_block (J_seq (J_reg (st (s_move rfl) rfl (st (sF (by omega) (s_le rfl rfl)) rfl (st (s_assign rfl) rfl (Run.nil ?_)))))))))
  refine pj_then (J_cond0 rfl (J_seq (J_reg (st (s_move rfl) rfl (st (s_fieldAddr rfl) rfl (st (s_loadB 1 rfl rfl rfl) rfl (st (s_len rfl) rfl (st (sT (by assumption) (s_gt rfl rfl)) rfl (st (s_assign rfl) rfl ?_)))))))))
  refine Run.nil (pj_then (J_cond1 rfl (J_seq (J_reg (stB rfl rfl rfl (BuildK.nil (a_storeB 0 rfl rfl rfl rfl rfl (leN rfl) rfl (Run.nil (pj_then ?_)))))))))
  refine J_ret (pr_block (pr_then ?_))
  refine retc1 Try.results14 (.cellB 0 rfl rfl rfl (zero_bigC))
set_option maxHeartbeats 4000000 in
theorem Minor_ok (r c : Nat) (F : Nat → Nat → Int) (k B : Nat) (hr : r ≤ 12) (hc : c ≤ 1048576) (hk0 : 0 < k) (hk : k ≤ r) (hF : ∀ i j, mod4 (F i j)) (hB : 1 ≤ B) (hn : B ^ r < 2 ^ 800) (hl : ∀ i, i < r → lenN c (F i) ≤ B) :
    Ok Try.prog 14 [matF r c F, one (.int .i64 (k : Nat))] (bigT (upN (prN k (srtN r c F)) : Int)) := by
  have hle := lengths_ok r c F hr hc hF
  have hro := root_ok k (srtN r c F) B (by omega) hB (Nat.lt_of_le_of_lt (Nat.pow_le_pow_right hB hk) hn) (fun i hi => srtN_le hl (by omega))
  unfold matF at *
  refine Ok.enter Try.func14 rfl Try.ntmps14 rfl (fun w O => ?_)
  refine J_seq (J_reg ?_)
  refine a_boxS rfl rfl (ltN rfl) (fun b2 => ?_)
  refine a_alloc (T := 32) rfl (ltN rfl) (fun b4 => ?_)
  refine Run.nil (pj_then (J_seq (J_block (J_seq (J_reg (st (s_move rfl) rfl (st (sF (by omega) (s_le rfl rfl)) rfl (st (s_assign rfl) rfl (Run.nil ?_)))))))))
  refine pj_then (J_cond0 rfl (J_seq (J_reg (st (s_move rfl) rfl (st (s_fieldAddr rfl) rfl (st (s_loadB 1 rfl rfl rfl) rfl (st (s_len rfl) rfl (st (sF (by omega) (s_gt rfl rfl)) rfl (st (s_assign rfl) rfl ?_)))))))))
  refine Run.nil (pj_then (J_cond0 rfl (J_skip (pn_block (pj_then (J_seq (J_reg (st (s_loadW 1 rfl rfl) rfl ?_))))))))
  refine st (s_callk (hle ) rfl ⟨VT.le_refl _, trivial⟩) rfl ?_
  refine st (s_move rfl) rfl ?_
  refine st (s_slice rfl rfl rfl rfl (fun _ => rfl) (by omega) (by omega) (by omega) (by omega)) rfl ?_
  refine Run_retype (t := 19) (ψ := slT (.agg 2) k (fun t => bigT (srtN r c F t : Int))) rfl (slT_le' (by omega) (fun q hq => by rw [show Int.toNat 0 + q = q by simp])) ?_
  refine st (s_callk (hro ) rfl ⟨VT.le_refl _, trivial⟩) rfl ?_
  refine a_storeB 0 rfl rfl rfl rfl rfl (leN rfl) rfl (Run.nil (pj_then (J_ret ?_)))
  refine retc1 Try.results14 (.cellB 0 rfl rfl rfl (VT.le_refl _))
set_option maxHeartbeats 4000000 in
theorem Cost_ok (r c : Nat) (F : Nat → Nat → Int) (hr : r ≤ 8) (hc : c ≤ 8) (hF : ∀ i j, small (F i j)) (hb : ∀ i j, bitsN (F i j).natAbs ≤ 2048) :
    Ok Try.prog 12 [matF r c F] (costT (cstM c F r).1 (cstM c F r).2 (stepsN r c (cstM c F r).2)) := by
  unfold matF
  refine Ok.enter Try.func12 rfl Try.ntmps12 rfl (fun w O => ?_)
  refine J_seq (J_reg ?_)
  refine a_boxS rfl rfl (ltN rfl) (fun b1 => ?_)
  refine a_allocS (T := 37) rfl rfl rfl (fun b2 => ?_)
  refine Run.nil (pj_then (J_seq (J_reg ?_)))
  refine a_allocS (T := 37) rfl rfl rfl (fun b3 => ?_)
  refine Run.nil (pj_then (J_seq (J_seq (J_reg (st (s_fieldAddr rfl) rfl (st (s_loadB 2 rfl rfl rfl) rfl (st (s_len rfl) rfl (st (s_move rfl) rfl (Run.nil ?_)))))))))
  refine pj_then (J_block (J_sub (Γ' := [(1, _), (2, _), (3, _), (10, _), (11, _), (12, _)]) (SubG.cons rfl (VT.le_refl _) (SubG.cons rfl (VT.le_refl _) (SubG.cons rfl (VT.le_refl _) (SubG.cons rfl (VT.le_refl _) (SubG.cons rfl (VT.le_refl _) (SubG.cons rfl (VT.le_refl _) (SubG.nil))))))) (SubM.refl _) ?_))
  refine J_loopA (σ := Nat) (Γk := [(1, _), (2, _), (3, _), (10, _), (11, _)]) (SubG.cons rfl (VT.le_refl _) (SubG.cons rfl (VT.le_refl _) (SubG.cons rfl (VT.le_refl _) (SubG.cons rfl (VT.le_refl _) (SubG.cons rfl (VT.le_refl _) (SubG.nil)))))) (fun i => [(12, one (.int .i64 (i : Nat)))]) (fun i M0 => (M0.set 0 (boxO b3 37 3 [(0, .one, one (.int .i64 ((cstM c F i).1 : Nat))), (1, .one, one (.int .i64 ((cstM c F i).2 : Nat))), (2, .one, one (.int .i64 0))]))) (fun i => i ≤ r) (fun i => r - i) (0) (Nat.zero_le _) (by repeat (first | exact SubG.refl _ | exact SubG.nil | refine SubG.cons rfl (VT.le_refl _) ?_ | (refine SubG.cons rfl (one_le ?_) ?_; (congr 1; first | omega | (simp; omega) | simp)))) (.keep (Own.le_refl _) (.keep (Own.le_refl _) (.keep (Own.le_refl _) (.nil)))) (fun i hi => ?_)
  refine J_norm (Γ' := [(12, _), (1, _), (2, _), (3, _), (10, _), (11, _)]) (M' := [_, _, _]) rfl rfl ?_
  obtain ⟨m1, m2⟩ := cstM_le hc hb i
  by_cases hi : i < r
  · refine J_seq (J_reg (st (sT (by omega) (s_lt rfl rfl)) rfl (Run.nil (pj_then (J_seq (J_cond1 rfl (J_skip (pj_then (J_seq ?_)))))))))
    refine J_block (J_seq (J_reg (st (s_indexIN rfl rfl (by omega)) rfl (st (s_load rfl) rfl (st (s_assign rfl) rfl (Run.nil (pj_then (J_seq (J_reg ?_)))))))))
    refine st (s_move rfl) rfl (st (s_len rfl) rfl (st (s_move rfl) rfl (Run.nil (pj_then (J_block (J_sub (Γ' := [(1, _), (2, _), (3, _), (10, _), (11, _), (12, _), (16, _), (17, _), (18, _)]) (SubG.cons rfl (VT.le_refl _) (SubG.cons rfl (VT.le_refl _) (SubG.cons rfl (VT.le_refl _) (SubG.cons rfl (VT.le_refl _) (SubG.cons rfl (VT.le_refl _) (SubG.cons rfl (VT.le_refl _) (SubG.cons rfl (VT.le_refl _) (SubG.cons rfl (VT.le_refl _) (SubG.cons rfl (VT.le_refl _) (SubG.nil)))))))))) (SubM.refl _) ?_))))))
    refine J_loopA (σ := Nat) (Γk := [(1, _), (2, _), (3, _), (10, _), (11, _), (12, _), (16, _), (17, _)]) (SubG.cons rfl (VT.le_refl _) (SubG.cons rfl (VT.le_refl _) (SubG.cons rfl (VT.le_refl _) (SubG.cons rfl (VT.le_refl _) (SubG.cons rfl (VT.le_refl _) (SubG.cons rfl (VT.le_refl _) (SubG.cons rfl (VT.le_refl _) (SubG.cons rfl (VT.le_refl _) (SubG.nil))))))))) (fun k => [(18, one (.int .i64 (k : Nat)))]) (fun k M0 => (M0.set 0 (boxO b3 37 3 [(0, .one, one (.int .i64 ((cstRow (F i) k (cstM c F i)).1 : Nat))), (1, .one, one (.int .i64 ((cstRow (F i) k (cstM c F i)).2 : Nat))), (2, .one, one (.int .i64 0))]))) (fun k => k ≤ c) (fun k => c - k) (0) (Nat.zero_le _) (by repeat (first | exact SubG.refl _ | exact SubG.nil | refine SubG.cons rfl (VT.le_refl _) ?_ | (refine SubG.cons rfl (one_le ?_) ?_; (congr 1; first | omega | (simp; omega) | simp)))) (.keep (Own.le_refl _) (.keep (Own.le_refl _) (.keep (Own.le_refl _) (.nil)))) (fun k hk => ?_)
    refine J_norm (Γ' := [(18, _), (1, _), (2, _), (3, _), (10, _), (11, _), (12, _), (16, _), (17, _)]) (M' := [_, _, _]) rfl rfl ?_
    obtain ⟨n1, n2⟩ := cstRow_le (hb i) m2 k
    by_cases hk : k < c
    · have hs : cstRow (F i) (k + 1) (cstM c F i) = if F i k = 0 then cstRow (F i) k (cstM c F i) else ((cstRow (F i) k (cstM c F i)).1 + 1, max (cstRow (F i) k (cstM c F i)).2 (bitsN (F i k).natAbs)) := rfl
      have hsg := SignI_ok (F i k)
      have hz := sgnI_zero (F i k)
      have hbt := Bits_ok (F i k) (hF i k)
      have hbk := hb i k
      by_cases h0 : F i k = 0
      · have hs0 := hz.2 h0
        rw [if_pos h0] at hs
        unfold rowF
        refine J_seq (J_reg (st (sT (by omega) (s_lt rfl rfl)) rfl (Run.nil (pj_then (J_seq (J_cond1 rfl (J_skip (pj_then (J_seq ?_)))))))))
        refine J_block (J_seq (J_reg (st (s_indexIN rfl rfl (by omega)) rfl (st (s_load rfl) rfl ?_))))
        refine a_alloc (T := 32) rfl (ltN rfl) (fun b7 => ?_)
        refine a_storeB 0 rfl rfl rfl rfl rfl (leN rfl) rfl (Run.nil (pj_then (J_seq (J_reg (st (s_loadB 0 rfl rfl rfl) rfl ?_)))))
        refine st (s_callk (hsg ) rfl ⟨VT.le_refl _, trivial⟩) rfl ?_
        refine st (sF (by omega) (s_ne rfl rfl)) rfl (Run.nil (pj_then (J_cond0 rfl (J_skip (pn_block (pj_then (J_reg (st (s_addN _ 1 rfl rfl (by omega)) rfl (st (s_move rfl) rfl ?_)))))))))
        refine Run.nil ?_
        refine pj_roundM (k + 1) (hk) (by omega) (by repeat (first | exact SubG.refl _ | exact SubG.nil | refine SubG.cons rfl (VT.le_refl _) ?_ | (refine SubG.cons rfl (one_le ?_) ?_; (congr 1; first | omega | (simp; omega) | simp)))) (.drop (.keep (hs ▸ Own.le_refl _) (.keep (Own.le_refl _) (.keep (Own.le_refl _) (.nil)))))
      · have hs0 : sgnI (F i k) ≠ 0 := fun h => h0 (hz.1 h)
        rw [if_neg h0] at hs
        unfold rowF
        refine J_seq (J_reg (st (sT (by omega) (s_lt rfl rfl)) rfl (Run.nil (pj_then (J_seq (J_cond1 rfl (J_skip (pj_then (J_seq ?_)))))))))
        refine J_block (J_seq (J_reg (st (s_indexIN rfl rfl (by omega)) rfl (st (s_load rfl) rfl ?_))))
        refine a_alloc (T := 32) rfl (ltN rfl) (fun b7 => ?_)
        refine a_storeB 0 rfl rfl rfl rfl rfl (leN rfl) rfl (Run.nil (pj_then (J_seq (J_reg (st (s_loadB 0 rfl rfl rfl) rfl ?_)))))
        refine st (s_callk (hsg ) rfl ⟨VT.le_refl _, trivial⟩) rfl ?_
        refine st (sT (by assumption) (s_ne rfl rfl)) rfl (Run.nil (pj_then (J_cond1 rfl (J_seq (J_reg (st (s_fieldAddr rfl) rfl (st (s_loadB 1 rfl rfl rfl) rfl (st (s_addN _ 1 rfl rfl (by omega)) rfl (st (s_fieldAddr rfl) rfl ?_)))))))))
        refine a_storeB 1 rfl rfl rfl rfl rfl (leN rfl) rfl (Run.nil (pj_then (J_regd 5 mixed (by kernel_rfl) (by decide) (st (s_fieldAddr rfl) rfl (st (s_loadB 1 rfl rfl rfl) rfl (st (s_loadB 0 rfl rfl rfl) rfl ?_))))))
        refine st (s_callk (hbt ) rfl ⟨VT.le_refl _, trivial⟩) rfl ?_
        refine st (s_max rfl rfl) rfl (Run.nil (st (s_fieldAddr rfl) rfl (a_storeB 1 rfl rfl rfl rfl rfl (leN rfl) rfl (Run.nil (pn_block (pj_then (J_reg (st (s_addN _ 1 rfl rfl (by omega)) rfl (st (s_move rfl) rfl ?_)))))))))
        refine Run.nil ?_
        refine pj_roundM (k + 1) (hk) (by omega) (by repeat (first | exact SubG.refl _ | exact SubG.nil | refine SubG.cons rfl (VT.le_refl _) ?_ | (refine SubG.cons rfl (one_le ?_) ?_; (congr 1; first | omega | (simp; omega) | simp)))) (.drop (.keep (cost_le hs) (.keep (Own.le_refl _) (.keep (Own.le_refl _) (.nil)))))
    · have hkc : k = c := by omega
      subst hkc
      refine J_seq (J_reg (st (sF (by omega) (s_lt rfl rfl)) rfl (Run.nil (pj_then (J_seq (J_cond0 rfl (J_exit (px_then (px_then ?_)))))))))
      refine px_block (pn_block (pj_then (J_reg (st (s_addN _ 1 rfl rfl (by omega)) rfl (st (s_move rfl) rfl (Run.nil ?_))))))
      refine pj_roundM (i + 1) (hi) (by omega) (by repeat (first | exact SubG.refl _ | exact SubG.nil | refine SubG.cons rfl (VT.le_refl _) ?_ | (refine SubG.cons rfl (one_le ?_) ?_; (congr 1; first | omega | (simp; omega) | simp)))) (.keep (Own.le_refl _) (.keep (Own.le_refl _) (.keep (Own.le_refl _) (.nil))))
  · have he : i = r := by omega
    subst he
    obtain ⟨q1, q2, q3, q4⟩ := steps_le hr hc m2
    unfold stepsN
    generalize (cstM c F i).2 = b at *
    generalize (cstM c F i).1 = a at *
    refine J_seq (J_reg (st (sF (by omega) (s_lt rfl rfl)) rfl (Run.nil (pj_then (J_seq (J_cond0 rfl (J_exit (px_then (px_then ?_)))))))))
    refine px_block (pj_then (J_seq (J_reg (st (s_fieldAddr rfl) rfl (st (s_loadB 2 rfl rfl rfl) rfl (st (s_fieldAddr rfl) rfl (st (s_loadB 2 rfl rfl rfl) rfl (st (s_min rfl rfl) rfl (st (s_assign rfl) rfl ?_)))))))))
    refine Run.nil (pj_then (J_seq (J_reg (st (s_fieldAddr rfl) rfl (st (s_loadB 2 rfl rfl rfl) rfl (st (s_fieldAddr rfl) rfl (st (s_loadB 2 rfl rfl rfl) rfl (st (s_mulN _ _ rfl rfl (by omega)) rfl (st (s_move rfl) rfl ?_)))))))))
    refine Run_retype (t := 8) (ψ := one (.int .i64 ((min i c : Nat) : Int))) rfl (one_le (by congr 1; omega)) (Run_retype (t := 47) (ψ := one (.int .i64 ((min i c : Nat) : Int))) rfl (one_le (by congr 1; omega)) ?_)
    generalize min i c = m at *
    refine st (s_mulN _ _ rfl rfl (by omega)) rfl (st (s_fieldAddr rfl) rfl (st (s_loadB 0 rfl rfl rfl) rfl (st (s_move rfl) rfl (st (s_mulN _ _ rfl rfl (by omega)) rfl (st (s_quoN 32 rfl rfl rfl (by decide) (by omega)) rfl (st (s_add rfl rfl (wrap_i64 (by omega) (by omega))) rfl (Run_retype (t := 54) (ψ := one (.int .i64 ((1 + b * m / 32 : Nat) : Int))) rfl (one_le (by congr 1)) (st (s_mulN _ _ rfl rfl (by omega)) rfl (st (s_fieldAddr rfl) rfl ?_)))))))))
    refine a_storeB 0 rfl rfl rfl rfl rfl (leN rfl) rfl (Run.nil (pj_then (J_seq (J_reg (st (s_loadW 0 rfl rfl) rfl (a_storeW 1 rfl rfl rfl rfl (Run.nil (pj_then (J_ret ?_)))))))))
    refine retc1 Try.results12 (.cellW 1 rfl rfl (VT.le_refl _))
set_option maxHeartbeats 4000000 in
theorem s9Cost_ok (r c : Nat) (F : Nat → Nat → Int) (hr : r ≤ 8) (hc : c ≤ 8) (hF : ∀ i j, small (F i j)) (hb : ∀ i j, bitsN (F i j).natAbs ≤ 2048) :
    Ok Try.prog 16 [matF r c F] (costT (cstM c F r).1 (cstM c F r).2 (stepsN r c (cstM c F r).2)) := by
  unfold matF
  refine Ok.enter Try.func16 rfl Try.ntmps16 rfl (fun w O => ?_)
  refine J_seq (J_reg ?_)
  refine a_boxS rfl rfl (ltN rfl) (fun b1 => ?_)
  refine a_allocS (T := 37) rfl rfl rfl (fun b2 => ?_)
  refine Run.nil (pj_then (J_seq (J_reg (stB rfl rfl rfl (BuildK.nil ?_)))))
  refine a_allocS (T := 37) rfl rfl rfl (fun b3 => ?_)
  refine a_storeW 0 rfl rfl rfl rfl (Run.nil (pj_then (J_seq (J_seq (J_reg (st (s_assign rfl) rfl (Run.nil (pj_then (J_block ?_)))))))))
  refine J_sub (Γ' := [(1, _), (2, _), (3, _), (4, _)]) (SubG.cons rfl (VT.le_refl _) (SubG.cons rfl (VT.le_refl _) (SubG.cons rfl (VT.le_refl _) (SubG.cons rfl (VT.le_refl _) (SubG.nil))))) (SubM.refl _) ?_
  refine J_loopA (σ := Nat) (Γk := [(1, _), (2, _), (3, _)]) (SubG.cons rfl (VT.le_refl _) (SubG.cons rfl (VT.le_refl _) (SubG.cons rfl (VT.le_refl _) (SubG.nil)))) (fun i => [(4, one (.int .i64 (i : Nat)))]) (fun i M0 => (M0.set 0 (boxO b3 37 3 [(0, .one, one (.int .i64 ((cstM c F i).1 : Nat))), (1, .one, one (.int .i64 ((cstM c F i).2 : Nat))), (2, .one, one (.int .i64 0))]))) (fun i => i ≤ r) (fun i => r - i) (0) (Nat.zero_le _) (by repeat (first | exact SubG.refl _ | exact SubG.nil | refine SubG.cons rfl (VT.le_refl _) ?_ | (refine SubG.cons rfl (one_le ?_) ?_; (congr 1; first | omega | (simp; omega) | simp)))) (.keep (Own.le_refl _) (.keep (Own.le_refl _) (.keep (Own.le_refl _) (.nil)))) (fun i hi => ?_)
  refine J_norm (Γ' := [(4, _), (1, _), (2, _), (3, _)]) (M' := [_, _, _]) rfl rfl ?_
  obtain ⟨m1, m2⟩ := cstM_le hc hb i
  by_cases hi : i < r
  · refine J_seq (J_seq (J_reg (st (s_move rfl) rfl (st (s_fieldAddr rfl) rfl (st (s_loadB 2 rfl rfl rfl) rfl (st (sT (by omega) (s_lt rfl rfl)) rfl (Run.nil (pj_then (J_cond1 rfl ?_)))))))))
    refine J_skip (pj_then (J_seq (J_block (J_seq (J_reg (st (s_assign rfl) rfl (Run.nil (pj_then (J_block ?_)))))))))
    refine J_sub (Γ' := [(1, _), (2, _), (3, _), (4, _), (5, _)]) (SubG.cons rfl (VT.le_refl _) (SubG.cons rfl (VT.le_refl _) (SubG.cons rfl (VT.le_refl _) (SubG.cons rfl (VT.le_refl _) (SubG.cons rfl (VT.le_refl _) (SubG.nil)))))) (SubM.refl _) ?_
    refine J_loopA (σ := Nat) (Γk := [(1, _), (2, _), (3, _), (4, _)]) (SubG.cons rfl (VT.le_refl _) (SubG.cons rfl (VT.le_refl _) (SubG.cons rfl (VT.le_refl _) (SubG.cons rfl (VT.le_refl _) (SubG.nil))))) (fun k => [(5, one (.int .i64 (k : Nat)))]) (fun k M0 => (M0.set 0 (boxO b3 37 3 [(0, .one, one (.int .i64 ((cstRow (F i) k (cstM c F i)).1 : Nat))), (1, .one, one (.int .i64 ((cstRow (F i) k (cstM c F i)).2 : Nat))), (2, .one, one (.int .i64 0))]))) (fun k => k ≤ c) (fun k => c - k) (0) (Nat.zero_le _) (by repeat (first | exact SubG.refl _ | exact SubG.nil | refine SubG.cons rfl (VT.le_refl _) ?_ | (refine SubG.cons rfl (one_le ?_) ?_; (congr 1; first | omega | (simp; omega) | simp)))) (.keep (Own.le_refl _) (.keep (Own.le_refl _) (.keep (Own.le_refl _) (.nil)))) (fun k hk => ?_)
    refine J_norm (Γ' := [(5, _), (1, _), (2, _), (3, _), (4, _)]) (M' := [_, _, _]) rfl rfl ?_
    obtain ⟨n1, n2⟩ := cstRow_le (hb i) m2 k
    by_cases hk : k < c
    · have hs : cstRow (F i) (k + 1) (cstM c F i) = if F i k = 0 then cstRow (F i) k (cstM c F i) else ((cstRow (F i) k (cstM c F i)).1 + 1, max (cstRow (F i) k (cstM c F i)).2 (bitsN (F i k).natAbs)) := rfl
      have hsg := rSignI_ok (F i k)
      have hz := sgnI_zero (F i k)
      have hbk := hb i k
      by_cases h0 : F i k = 0
      · have hs0 := hz.2 h0
        rw [if_pos h0] at hs
        have hbt : Ok Try.prog 45 [bigT (F i k)] (one (.int .i64 0)) := by rw [h0]; exact rBits0_ok
        unfold rowF
        refine J_seq (J_seq (J_reg (st (s_move rfl) rfl (st (s_fieldAddr rfl) rfl (st (s_loadB 2 rfl rfl rfl) rfl (st (sT (by omega) (s_lt rfl rfl)) rfl (Run.nil (pj_then (J_cond1 rfl ?_)))))))))
        refine J_skip (pj_then (J_seq (J_block (J_seq (J_seq (J_reg (st (s_fieldAddr rfl) rfl (st (s_loadB 2 rfl rfl rfl) rfl (st (s_move rfl) rfl ?_)))))))))
        refine st (s_indexIN rfl rfl (by omega)) rfl (st (s_load rfl) rfl (st (s_move rfl) rfl (st (s_indexIN rfl rfl (by omega)) rfl (st (s_load rfl) rfl ?_))))
        refine st (s_callk (hsg ) rfl ⟨VT.le_refl _, trivial⟩) rfl ?_
        refine st (sF (by omega) (s_ne rfl rfl)) rfl (Run.nil (pj_then (J_cond0 rfl (J_skip (pj_then (J_regd 12 mixed (by kernel_rfl) (by decide) (st (s_fieldAddr rfl) rfl (st (s_loadB 0 rfl rfl rfl) rfl (st (s_fieldAddr rfl) rfl ?_)))))))))
        refine st (s_loadB 2 rfl rfl rfl) rfl (st (s_move rfl) rfl (st (s_indexIN rfl rfl (by omega)) rfl (st (s_load rfl) rfl (st (s_move rfl) rfl (st (s_indexIN rfl rfl (by omega)) rfl (st (s_load rfl) rfl ?_))))))
        refine st (s_callk (hbt ) rfl ⟨VT.le_refl _, trivial⟩) rfl ?_
        refine st (s_max rfl rfl) rfl (Run.nil (st (s_fieldAddr rfl) rfl (a_storeB 0 rfl rfl rfl rfl rfl (leN rfl) rfl (Run.nil (pn_block (pj_then (J_reg (st (s_move rfl) rfl (st (s_addN _ 1 rfl rfl (by omega)) rfl ?_)))))))))
        refine st (s_assign rfl) rfl (Run.nil ?_)
        refine pj_roundM (k + 1) (hk) (by omega) (by repeat (first | exact SubG.refl _ | exact SubG.nil | refine SubG.cons rfl (VT.le_refl _) ?_ | (refine SubG.cons rfl (one_le ?_) ?_; (congr 1; first | omega | (simp; omega) | simp)))) (.keep (cost_same hs) (.keep (Own.le_refl _) (.keep (Own.le_refl _) (.nil))))
      · have hs0 : sgnI (F i k) ≠ 0 := fun h => h0 (hz.1 h)
        rw [if_neg h0] at hs
        have hbt := rBitsI_ok (F i k) (F i k).natAbs rfl (by omega) (hF i k)
        unfold rowF
        refine J_seq (J_seq (J_reg (st (s_move rfl) rfl (st (s_fieldAddr rfl) rfl (st (s_loadB 2 rfl rfl rfl) rfl (st (sT (by omega) (s_lt rfl rfl)) rfl (Run.nil (pj_then (J_cond1 rfl ?_)))))))))
        refine J_skip (pj_then (J_seq (J_block (J_seq (J_seq (J_reg (st (s_fieldAddr rfl) rfl (st (s_loadB 2 rfl rfl rfl) rfl (st (s_move rfl) rfl ?_)))))))))
        refine st (s_indexIN rfl rfl (by omega)) rfl (st (s_load rfl) rfl (st (s_move rfl) rfl (st (s_indexIN rfl rfl (by omega)) rfl (st (s_load rfl) rfl ?_))))
        refine st (s_callk (hsg ) rfl ⟨VT.le_refl _, trivial⟩) rfl ?_
        refine st (sT (by assumption) (s_ne rfl rfl)) rfl (Run.nil (pj_then (J_cond1 rfl (J_reg (st (s_fieldAddr rfl) rfl (st (s_loadB 0 rfl rfl rfl) rfl (st (s_addN _ 1 rfl rfl (by omega)) rfl (st (s_fieldAddr rfl) rfl (a_storeB 0 rfl rfl rfl rfl rfl (leN rfl) rfl ?_)))))))))
        refine Run.nil (pj_then (J_regd 12 mixed (by kernel_rfl) (by decide) (st (s_fieldAddr rfl) rfl (st (s_loadB 0 rfl rfl rfl) rfl (st (s_fieldAddr rfl) rfl (st (s_loadB 2 rfl rfl rfl) rfl (st (s_move rfl) rfl (st (s_indexIN rfl rfl (by omega)) rfl (st (s_load rfl) rfl ?_)))))))))
        refine st (s_move rfl) rfl (st (s_indexIN rfl rfl (by omega)) rfl (st (s_load rfl) rfl ?_))
        refine st (s_callk (hbt ) rfl ⟨VT.le_refl _, trivial⟩) rfl ?_
        refine st (s_max rfl rfl) rfl (Run.nil (st (s_fieldAddr rfl) rfl (a_storeB 0 rfl rfl rfl rfl rfl (leN rfl) rfl (Run.nil (pn_block (pj_then (J_reg (st (s_move rfl) rfl (st (s_addN _ 1 rfl rfl (by omega)) rfl ?_)))))))))
        refine st (s_assign rfl) rfl (Run.nil ?_)
        refine pj_roundM (k + 1) (hk) (by omega) (by repeat (first | exact SubG.refl _ | exact SubG.nil | refine SubG.cons rfl (VT.le_refl _) ?_ | (refine SubG.cons rfl (one_le ?_) ?_; (congr 1; first | omega | (simp; omega) | simp)))) (.keep (cost_le hs) (.keep (Own.le_refl _) (.keep (Own.le_refl _) (.nil))))
    · have hkc : k = c := by omega
      subst hkc
      refine J_seq (J_seq (J_reg (st (s_move rfl) rfl (st (s_fieldAddr rfl) rfl (st (s_loadB 2 rfl rfl rfl) rfl (st (sF (by omega) (s_lt rfl rfl)) rfl (Run.nil (pj_then (J_cond0 rfl ?_)))))))))
      refine J_exit (px_then (px_then (px_block (pn_block (pj_then (J_reg (st (s_move rfl) rfl (st (s_addN _ 1 rfl rfl (by omega)) rfl (st (s_assign rfl) rfl ?_)))))))))
      refine Run.nil ?_
      refine pj_roundM (i + 1) (hi) (by omega) (by repeat (first | exact SubG.refl _ | exact SubG.nil | refine SubG.cons rfl (VT.le_refl _) ?_ | (refine SubG.cons rfl (one_le ?_) ?_; (congr 1; first | omega | (simp; omega) | simp)))) (.keep (Own.le_refl _) (.keep (Own.le_refl _) (.keep (Own.le_refl _) (.nil))))
  · have he : i = r := by omega
    subst he
    obtain ⟨q1, q2, q3, q4⟩ := steps_le hr hc m2
    unfold stepsN
    generalize (cstM c F i).2 = b at *
    generalize (cstM c F i).1 = a at *
    refine J_seq (J_seq (J_reg (st (s_move rfl) rfl (st (s_fieldAddr rfl) rfl (st (s_loadB 2 rfl rfl rfl) rfl (st (sF (by omega) (s_lt rfl rfl)) rfl (Run.nil (pj_then (J_cond0 rfl ?_)))))))))
    refine J_exit (px_then (px_then (px_block (pj_then (J_seq (J_reg (st (s_fieldAddr rfl) rfl (st (s_loadB 2 rfl rfl rfl) rfl (st (s_fieldAddr rfl) rfl ?_)))))))))
    refine st (s_loadB 2 rfl rfl rfl) rfl (st (s_min rfl rfl) rfl (st (s_assign rfl) rfl (Run.nil (pj_then (J_seq (J_reg (st (s_fieldAddr rfl) rfl (st (s_loadB 2 rfl rfl rfl) rfl (st (s_fieldAddr rfl) rfl ?_)))))))))
    refine st (s_loadB 2 rfl rfl rfl) rfl (st (s_mulN _ _ rfl rfl (by omega)) rfl (st (s_move rfl) rfl (Run_retype (t := 6) (ψ := one (.int .i64 ((min i c : Nat) : Int))) rfl (one_le (by congr 1; omega)) (Run_retype (t := 57) (ψ := one (.int .i64 ((min i c : Nat) : Int))) rfl (one_le (by congr 1; omega)) ?_))))
    generalize min i c = m at *
    refine st (s_mulN _ _ rfl rfl (by omega)) rfl (st (s_fieldAddr rfl) rfl (st (s_loadB 0 rfl rfl rfl) rfl (st (s_move rfl) rfl (st (s_mulN _ _ rfl rfl (by omega)) rfl (st (s_quoN 32 rfl rfl rfl (by decide) (by omega)) rfl (st (s_add rfl rfl (wrap_i64 (by omega) (by omega))) rfl (Run_retype (t := 64) (ψ := one (.int .i64 ((1 + b * m / 32 : Nat) : Int))) rfl (one_le (by congr 1)) (st (s_mulN _ _ rfl rfl (by omega)) rfl (st (s_fieldAddr rfl) rfl ?_)))))))))
    refine a_storeB 0 rfl rfl rfl rfl rfl (leN rfl) rfl (Run.nil (pj_then (J_seq (J_reg (st (s_loadW 0 rfl rfl) rfl (a_storeW 1 rfl rfl rfl rfl (Run.nil (pj_then (J_ret ?_)))))))))
    refine retc1 Try.results16 (.cellW 1 rfl rfl (VT.le_refl _))
end Tor
end
section
namespace Tor
open Go Go.RowKit Go.Proofs
def dZ (B : Nat) : Nat → Nat
  | 0 => 1
  | n + 1 => (n + 1) * (B * dZ B n)
theorem smZ_bound {B : Nat} {f : Nat → Int} (h : ∀ k, (f k).natAbs ≤ B) : ∀ n, (Lin.smZ n f).natAbs ≤ n * B
  | 0 => Nat.zero_le _
  | n + 1 => by
    have ih := smZ_bound h n
    have := h n
    show (Lin.smZ n f + f n).natAbs ≤ _
    rw [Nat.succ_mul]
    exact Nat.le_trans (Int.natAbs_add_le _ _) (Nat.add_le_add ih this)
theorem sgnZ_one (j : Nat) : (Lin.sgnZ j).natAbs = 1 := by unfold Lin.sgnZ; split <;> rfl
theorem detZ_bound {B : Nat} : ∀ {n : Nat} {F : Nat → Nat → Int}, (∀ i j, (F i j).natAbs ≤ B) → (Lin.detZ n F).natAbs ≤ dZ B n
  | 0, _, _ => Nat.le_refl _
  | n + 1, F, h => by
    rw [Lin.detZ]
    refine smZ_bound (fun k => ?_) (n + 1)
    rw [Int.natAbs_mul, Int.natAbs_mul, sgnZ_one, Nat.one_mul]
    exact Nat.mul_le_mul (h 0 k) (detZ_bound fun i j => h _ _)
theorem row_snoc {sv svl : Option Nat} {T : TypeId} {cap i c : Nat} {G : Nat → Nat → Int} : Own.le (sliO sv T .one cap (i + 1) (fun q => if q < i then rowF c (G q) else rowF c (G i))) (sliO sv T .one cap (i + 1) (fun q => rowF c (G q))) := sliO_eq fun q hq => by
  by_cases h : q < i
  · rw [if_pos h]
  · rw [if_neg h, show q = i by omega]
attribute [local irreducible] Tor.J Tor.PJ Tor.StepO Tor.one Tor.slT Tor.ptrT Tor.aggT Tor.tupT Tor.exT Tor.andT Tor.eP Tor.boxO Tor.sliO Tor.slV Tor.VT.le Tor.Ret Tor.anyT
attribute [local irreducible] bigT
set_option maxHeartbeats 4000000 in
theorem s9Rows_ok (r c : Nat) (F : Nat → Nat → Int) (hr : r ≤ 1048576) : Ok Try.prog 24 [matF r c F] (slT .one r (fun i => rowF c (F i))) := by
  unfold matF rowF
  refine Ok.enter Try.func24 rfl Try.ntmps24 rfl (fun w O => ?_)
  refine J_seq (J_reg ?_)
  refine a_boxS rfl rfl (ltN rfl) (fun b1 => ?_)
  refine st (s_assign rfl) rfl (Run.nil (pj_then (J_seq (J_reg (stSO (n := 0) rfl rfl rfl rfl rfl ?_)))))
  refine PartsK.nil (fun bl => ?_)
  refine st (s_assign rfl) rfl (Run.nil (pj_then (J_seq (J_seq (J_reg (st (s_assign rfl) rfl (Run.nil (pj_then (J_block ?_)))))))))
  refine J_sub (Γ' := [(1, _), (2, _), (3, _), (4, _)]) (SubG.cons rfl (VT.le_refl _) (SubG.cons rfl (VT.le_refl _) (SubG.cons rfl (VT.le_refl _) (SubG.cons rfl (VT.le_refl _) (SubG.nil))))) (SubM.refl _) ?_
  refine J_loopA (σ := Nat × Option Nat × Nat) (Γk := [(1, _), (2, _)]) (SubG.cons rfl (VT.le_refl _) (SubG.cons rfl (VT.le_refl _) (SubG.nil))) (fun s => [(4, one (.int .i64 (s.1 : Nat))), (3, one (slV s.2.1 s.1 s.2.2))]) (fun s M0 => (M0.set 0 (sliO s.2.1 54 .one s.2.2 s.1 (fun q => slT (.agg 2) c fun j => bigT (F q j))))) (fun s => s.1 ≤ r) (fun s => r - s.1) ((0, some bl, 0)) (Nat.zero_le _) (by repeat (first | exact SubG.refl _ | exact SubG.nil | refine SubG.cons rfl (VT.le_refl _) ?_ | (refine SubG.cons rfl (one_le ?_) ?_; (congr 1; first | omega | (simp; omega) | simp)))) (.keep (sliO_eq (fun q hq => absurd hq (Nat.not_lt_zero _))) (.keep (Own.le_refl _) (.nil))) (fun s hs => ?_)
  refine J_norm (Γ' := [(4, _), (3, _), (1, _), (2, _)]) (M' := [_, _]) rfl rfl ?_
  obtain ⟨i, sv, cap⟩ := s
  dsimp only at hs ⊢
  by_cases hi : i < r
  · refine J_seq (J_seq (J_reg (st (s_move rfl) rfl (st (s_fieldAddr rfl) rfl (st (s_loadB 1 rfl rfl rfl) rfl (st (sT (by omega) (s_lt rfl rfl)) rfl (Run.nil (pj_then (J_cond1 rfl ?_)))))))))
    refine J_skip (pj_then (J_seq (J_block (J_reg (st (s_move rfl) rfl (st (s_fieldAddr rfl) rfl (st (s_loadB 1 rfl rfl rfl) rfl (st (s_move rfl) rfl (st (s_indexIN rfl rfl (by omega)) rfl ?_)))))))))
    refine st (s_load rfl) rfl (stS1 rfl rfl rfl rfl ?_)
    (refine a_append 0 rfl rfl rfl (leN rfl) ?_ ?_ rfl (ltN rfl) (fun sv19 cap19 => ?_); omega; omega)
    refine st (s_assign rfl) rfl (Run.nil (pn_block (pj_then (J_reg (st (s_move rfl) rfl (st (s_addN _ 1 rfl rfl (by omega)) rfl (st (s_assign rfl) rfl (Run.nil ?_))))))))
    refine pj_roundM ((i + 1, sv19, cap19)) (hi) (by omega) (by repeat (first | exact SubG.refl _ | exact SubG.nil | refine SubG.cons rfl (VT.le_refl _) ?_ | (refine SubG.cons rfl (one_le ?_) ?_; (congr 1; first | omega | (simp; omega) | simp)))) (.keep (row_snoc (svl := none)) (.keep (Own.le_refl _) (.nil)))
  · have he : i = r := by omega
    subst he
    refine J_seq (J_seq (J_reg (st (s_move rfl) rfl (st (s_fieldAddr rfl) rfl (st (s_loadB 1 rfl rfl rfl) rfl (st (sF (by omega) (s_lt rfl rfl)) rfl (Run.nil (pj_then (J_cond0 rfl ?_)))))))))
    refine J_exit (px_then (px_then (px_block (pj_then (J_seq (J_reg (st (s_move rfl) rfl (st (s_assign rfl) rfl (Run.nil ?_)))))))))
    refine pj_then (J_ret (PJ_freeze (t := 2) (i := 0) rfl rfl ?_))
    refine retc1 Try.results24 (.tmp rfl (VT.le_refl _))
theorem rest_open {Ms : Mem} {sv svl : Option Nat} {T T' : TypeId} {cap capl i c : Nat} {G : Nat → Nat → VT} {g : Nat → VT} (hm : sliO svl T' (.agg 2) capl c g ∈ Ms) (hg : ∀ q, q < c → g q = G i q) :
    EntO Ms (sliO sv T .one cap (i + 1) (fun q => if q < i then slT (.agg 2) c (G q) else one (slV svl c capl))) (sliO sv T .one cap (i + 1) (fun q => slT (.agg 2) c (G q))) := EntO.sl fun q hq => by
  show Ent Ms (if q < i then slT (.agg 2) c (G q) else one (slV svl c capl)) (slT (.agg 2) c (G q))
  by_cases h : q < i
  · rw [if_pos h]; exact Ent.refl _
  · rw [if_neg h, show q = i by omega]
    exact Ent.slE hm fun k hk => Ent.le (le_eq (hg k hk))
def detS (n : Nat) (F : Nat → Nat → Int) (k : Nat) : Int := Lin.smZ k (fun j => Lin.sgnZ j * F 0 j * Lin.detZ n (fun i k => F (i + 1) (Lin.skip j k)))
theorem detS_bound {B n : Nat} {F : Nat → Nat → Int} (h : ∀ i j, (F i j).natAbs ≤ B) {k : Nat} (hk : k ≤ n + 1) : (detS n F k).natAbs ≤ dZ B (n + 1) := by
  refine Nat.le_trans (smZ_bound (B := B * dZ B n) (fun k => ?_) k) (Nat.mul_le_mul_right _ hk)
  rw [Int.natAbs_mul, Int.natAbs_mul, sgnZ_one, Nat.one_mul]
  exact Nat.mul_le_mul (h 0 k) (detZ_bound fun i j => h _ _)
set_option maxHeartbeats 8000000 in
theorem s9Det_ok (B : Nat) : ∀ (n : Nat) (F : Nat → Nat → Int), n ≤ 8 → (∀ i j, (F i j).natAbs ≤ B) → (∀ k, k ≤ n → dZ B k ≤ 2 ^ 400) → B ≤ 2 ^ 400 → Ok Try.prog 23 [slT .one n (fun i => rowF n (F i))] (bigT (Lin.detZ n F))
  | 0, F, hn, hF, hD, hB => by
    have h1 := rOf_ok 1 (by decide) (by decide)
    unfold rowF
    refine Ok.enter Try.func23 rfl Try.ntmps23 rfl (fun w O => ?_)
    refine J_seq (J_reg ?_)
    refine a_alloc (T := 32) rfl (ltN rfl) (fun b2 => ?_)
    refine Run.nil (pj_then (J_seq (J_seq (J_reg (st (s_move rfl) rfl (st (s_len rfl) rfl (st (sT (by omega) (s_eq rfl rfl)) rfl (Run.nil (pj_then ?_)))))))))
    refine J_cond1 rfl (J_seq (J_reg ?_))
    refine st (s_callk (h1 ) rfl ⟨VT.le_refl _, trivial⟩) rfl ?_
    refine a_storeB 0 rfl rfl rfl rfl rfl (leN rfl) rfl (Run.nil (pj_then (J_ret (pr_then ?_))))
    refine retc1 Try.results23 (.cellB 0 rfl rfl rfl (VT.le_refl _))
  | n + 1, F, hn, hF, hD, hB => by
    have h0 := rOf_ok 0 (by decide) (by decide)
    have ih := fun k => s9Det_ok B n (fun i j => F (i + 1) (Lin.skip k j)) (by omega) (fun i j => hF _ _) (fun k hk => hD k (by omega)) hB
    have hm4 : ∀ {x : Int} {m : Nat}, m ≤ n + 1 → x.natAbs ≤ dZ B m → mod4 x := fun hm h => Nat.le_trans h (hD _ hm)
    have hdet : Lin.detZ (n + 1) F = detS n F (n + 1) := rfl
    rw [hdet]
    unfold rowF at *
    refine Ok.enter Try.func23 rfl Try.ntmps23 rfl (fun w O => ?_)
    refine J_seq (J_reg ?_)
    refine a_alloc (T := 32) rfl (ltN rfl) (fun b2 => ?_)
    refine Run.nil (pj_then (J_seq (J_seq (J_reg (st (s_move rfl) rfl (st (s_len rfl) rfl (st (sF (by omega) (s_eq rfl rfl)) rfl (Run.nil (pj_then ?_)))))))))
    refine J_cond0 rfl (J_skip (pj_then (J_seq (J_reg ?_))))
    refine st (s_callk (h0 ) rfl ⟨VT.le_refl _, trivial⟩) rfl ?_
    refine a_alloc (T := 32) rfl (ltN rfl) (fun b3 => ?_)
    refine a_storeB 0 rfl rfl rfl rfl rfl (leN rfl) rfl (Run.nil (pj_then (J_seq (J_seq (J_reg (st (s_assign rfl) rfl (Run.nil (pj_then (J_block ?_)))))))))
    refine J_sub (Γ' := [(0, _), (2, _), (3, _), (4, _)]) (SubG.cons rfl (VT.le_refl _) (SubG.cons rfl (VT.le_refl _) (SubG.cons rfl (VT.le_refl _) (SubG.cons rfl (VT.le_refl _) (SubG.nil))))) (SubM.refl _) ?_
    refine J_loopA (σ := Nat) (Γk := [(0, _), (2, _), (3, _)]) (SubG.cons rfl (VT.le_refl _) (SubG.cons rfl (VT.le_refl _) (SubG.cons rfl (VT.le_refl _) (SubG.nil)))) (fun k => [(4, one (.int .i64 (k : Nat)))]) (fun k M0 => (M0.set 0 (boxO b3 32 2 [(0, .agg 2, bigT (detS n F k))]))) (fun k => k ≤ n + 1) (fun k => n + 1 - k) (0) (Nat.zero_le _) (by repeat (first | exact SubG.refl _ | exact SubG.nil | refine SubG.cons rfl (VT.le_refl _) ?_ | (refine SubG.cons rfl (one_le ?_) ?_; (congr 1; first | omega | (simp; omega) | simp)))) (.keep (Own.le_refl _) (.keep (Own.le_refl _) (.nil))) (fun k hk => ?_)
    refine J_norm (Γ' := [(4, _), (0, _), (2, _), (3, _)]) (M' := [_, _]) rfl rfl ?_
    by_cases hk : k < n + 1
    · have ihk := ih k
      clear ih
      refine J_seq (J_seq (J_reg (st (s_move rfl) rfl (st (s_move rfl) rfl (st (s_len rfl) rfl (st (sT (by omega) (s_lt rfl rfl)) rfl (Run.nil (pj_then (J_cond1 rfl ?_)))))))))
      refine J_skip (pj_then (J_seq (J_block (J_seq (J_reg (stSO (n := 0) rfl rfl rfl rfl rfl ?_))))))
      refine PartsK.nil (fun bl => ?_)
      refine st (s_assign rfl) rfl (Run.nil (pj_then (J_seq (J_seq (J_reg (st (s_assign rfl) rfl (Run.nil (pj_then (J_block ?_)))))))))
      refine J_sub (Γ' := [(0, _), (2, _), (3, _), (4, _), (5, _), (6, _)]) (SubG.cons rfl (VT.le_refl _) (SubG.cons rfl (VT.le_refl _) (SubG.cons rfl (VT.le_refl _) (SubG.cons rfl (VT.le_refl _) (SubG.cons rfl (VT.le_refl _) (SubG.cons rfl (VT.le_refl _) (SubG.nil))))))) (SubM.refl _) ?_
      refine J_loopA (σ := Nat × Option Nat × Nat) (Γk := [(0, _), (2, _), (3, _), (4, _)]) (SubG.cons rfl (VT.le_refl _) (SubG.cons rfl (VT.le_refl _) (SubG.cons rfl (VT.le_refl _) (SubG.cons rfl (VT.le_refl _) (SubG.nil))))) (fun s => [(6, one (.int .i64 ((s.1 + 1 : Nat) : Int))), (5, one (slV s.2.1 s.1 s.2.2))]) (fun s M0 => (M0.set 0 (sliO s.2.1 54 .one s.2.2 s.1 (fun q => slT (.agg 2) n (fun j => bigT (F (q + 1) (Lin.skip k j))))))) (fun s => s.1 ≤ n) (fun s => n - s.1) ((0, some bl, 0)) (Nat.zero_le _) (by repeat (first | exact SubG.refl _ | exact SubG.nil | refine SubG.cons rfl (VT.le_refl _) ?_ | (refine SubG.cons rfl (one_le ?_) ?_; (congr 1; first | omega | (simp; omega) | simp)))) (.keep (sliO_eq (fun q hq => absurd hq (Nat.not_lt_zero _))) (.keep (Own.le_refl _) (.keep (Own.le_refl _) (.nil)))) (fun s hs => ?_)
      refine J_norm (Γ' := [(6, _), (5, _), (0, _), (2, _), (3, _), (4, _)]) (M' := [_, _, _]) rfl rfl ?_
      obtain ⟨t, sv, cap⟩ := s
      dsimp only at hs ⊢
      by_cases ht : t < n
      · refine J_seq (J_seq (J_reg (st (s_move rfl) rfl (st (s_move rfl) rfl (st (s_len rfl) rfl (st (sT (by omega) (s_lt rfl rfl)) rfl (Run.nil (pj_then (J_cond1 rfl ?_)))))))))
        refine J_skip (pj_then (J_seq (J_block (J_seq (J_reg (stSO (n := 0) rfl rfl rfl rfl rfl ?_))))))
        refine PartsK.nil (fun bl => ?_)
        refine st (s_move rfl) rfl (st (s_move rfl) rfl (st (s_indexIN rfl rfl (by omega)) rfl (st (s_load rfl) rfl (st (s_move rfl) rfl ?_))))
        refine st (s_slice rfl rfl rfl rfl (fun _ => rfl) (by omega) (by omega) (by omega) (by omega)) rfl ?_
        (refine a_append 0 rfl rfl rfl (leN rfl) ?_ ?_ rfl (ltN rfl) (fun sv34 cap34 => ?_); omega; omega)
        refine st (s_assign rfl) rfl (Run.nil (pj_then (J_seq (J_reg (st (s_move rfl) rfl (st (s_move rfl) rfl (st (s_move rfl) rfl (st (s_indexIN rfl rfl (by omega)) rfl (st (s_load rfl) rfl ?_)))))))))
        refine st (s_move rfl) rfl (st (s_addN _ 1 rfl rfl (by omega)) rfl ?_)
        refine st (s_slice rfl rfl rfl rfl (fun h => nomatch h) (by omega) (by omega) (by omega) (by omega)) rfl ?_
        (refine a_append 0 rfl rfl rfl (leN rfl) ?_ ?_ rfl (ltN rfl) (fun sv43 cap43 => ?_); omega; omega)
        refine st (s_assign rfl) rfl (Run.nil (pj_then (J_reg (st (s_move rfl) rfl (st (s_move rfl) rfl (stS1 rfl rfl rfl rfl ?_))))))
        (refine a_append 1 rfl rfl rfl (leN rfl) ?_ ?_ rfl (ltN rfl) (fun sv47 cap47 => ?_); omega; omega)
        refine st (s_assign rfl) rfl (Run.nil (pn_block (pj_then (J_reg (st (s_move rfl) rfl (st (s_addN _ 1 rfl rfl (by omega)) rfl (st (s_assign rfl) rfl (Run.nil ?_))))))))
        generalize hm : 0 + ((k : Int) - 0).toNat + (((n + 1 : Nat) : Int) - ((k + 1 : Nat) : Int)).toNat = m
        have hmn : n = m := by omega
        subst hmn
        refine PJ_open [_] (List.Perm.refl _) (.keep (rest_open (G := fun q j => bigT (F (q + 1) (Lin.skip k j))) List.mem_cons_self (fun q hq => ?_)) (EntM.refl _)) (EntG.refl _) ?_
        · show (if q < 0 + ((k : Int) - 0).toNat then (if q < 0 then _ else bigT (F (t + 1) (Int.toNat 0 + (q - 0)))) else bigT (F (t + 1) (((k + 1 : Nat) : Int).toNat + (q - (0 + ((k : Int) - 0).toNat))))) = bigT (F (t + 1) (Lin.skip k q))
          unfold Lin.skip
          by_cases h : q < k
          · rw [if_pos (by omega), if_neg (Nat.not_lt_zero _), if_pos h, show Int.toNat 0 + (q - 0) = q by simp]
          · rw [if_neg (by omega), if_neg h, show ((k + 1 : Nat) : Int).toNat + (q - (0 + ((k : Int) - 0).toNat)) = q + 1 by omega]
        refine pj_roundM ((t + 1, sv47, cap47)) (ht) (by omega) (by repeat (first | exact SubG.refl _ | exact SubG.nil | refine SubG.cons rfl (VT.le_refl _) ?_ | (refine SubG.cons rfl (one_le ?_) ?_; (congr 1; first | omega | (simp; omega) | simp)))) (.keep (Own.le_refl _) (.keep (Own.le_refl _) (.keep (Own.le_refl _) (.nil))))
      · have hte : t = n := by omega
        subst hte
        have hsu : detS t F (k + 1) = detS t F k + Lin.sgnZ k * F 0 k * Lin.detZ t (fun i j => F (i + 1) (Lin.skip k j)) := rfl
        have hdb := detZ_bound (n := t) (F := fun i j => F (i + 1) (Lin.skip k j)) (fun i j => hF _ _)
        have hF0 : mod4 (F 0 k) := Nat.le_trans (hF 0 k) hB
        have hd4 : mod4 (Lin.detZ t (fun i j => F (i + 1) (Lin.skip k j))) := hm4 (by omega) hdb
        have hs4 : mod4 (detS t F k) := hm4 (Nat.le_refl _) (detS_bound hF (by omega))
        have hp : small (F 0 k * Lin.detZ t (fun i j => F (i + 1) (Lin.skip k j))) := small_le (mod4_mul hF0 hd4) (by decide +kernel)
        generalize Lin.detZ t (fun i j => F (i + 1) (Lin.skip k j)) = d at *
        have hmu := rMulI_ok (F 0 k) d (mod4_small hF0) (mod4_small hd4)
        refine J_freeze (t := 5) (i := 0) rfl rfl ?_
        by_cases hod : k % 2 = 1
        · have hsg : Lin.sgnZ k = -1 := by unfold Lin.sgnZ; rw [if_neg (by omega)]
          have hsu' : detS t F (k + 1) = detS t F k + -(F 0 k * d) := by rw [hsu, hsg]; grind
          have hng := rNegI_ok (F 0 k * d) hp
          have had := rAddI_ok (detS t F k) (-(F 0 k * d)) (mod4_small hs4) (small_neg hp)
          refine J_seq (J_seq (J_reg (st (s_move rfl) rfl (st (s_move rfl) rfl (st (s_len rfl) rfl (st (sF (by omega) (s_lt rfl rfl)) rfl (Run.nil (pj_then (J_cond0 rfl ?_)))))))))
          refine J_exit (px_then (px_then (px_block (pj_then (J_seq ?_)))))
          refine J_regU2 mixed (by kernel_rfl) (by kernel_rfl) ?_
          refine ux (fun B => s_move rfl) rfl rfl ?_
          refine ux (fun B => s_indexI rfl rfl (by omega) (by omega)) rfl rfl ?_
          refine ux (fun B => s_load rfl) rfl rfl ?_
          refine ux (fun B => s_move rfl) rfl rfl ?_
          refine ux (fun B => s_indexIN rfl rfl (by omega)) rfl rfl ?_
          refine ux (fun B => s_load rfl) rfl rfl ?_
          refine ux (fun B => s_move rfl) rfl rfl ?_
          refine uxk (ihk ) rfl ⟨VT.le_refl _, trivial⟩ rfl ?_
          refine uxk (hmu ) rfl ⟨VT.le_refl _, VT.le_refl _, trivial⟩ rfl ?_
          refine ua rfl (us rfl ?_)
          refine RunU.nil (fun γ => ?_)
          refine PJ_normM (M' := [_, _, _]) rfl (pj_then (J_seq (J_seq (J_reg (st (s_move rfl) rfl (st (s_remN 2 rfl rfl rfl (by decide)) rfl (st (sT (by omega) (s_eq rfl rfl)) rfl (Run.nil (pj_then ?_)))))))))
          refine J_cond1 rfl (J_reg (st (s_loadB 0 rfl rfl rfl) rfl ?_))
          refine st (s_callk (hng ) rfl ⟨VT.le_refl _, trivial⟩) rfl ?_
          refine a_storeB 0 rfl rfl rfl rfl rfl (leN rfl) rfl (Run.nil (pj_then (J_reg (st (s_loadB 1 rfl rfl rfl) rfl (st (s_loadB 0 rfl rfl rfl) rfl ?_)))))
          refine st (s_callk (had ) rfl ⟨VT.le_refl _, VT.le_refl _, trivial⟩) rfl ?_
          refine a_storeB 1 rfl rfl rfl rfl rfl (leN rfl) rfl (Run.nil (pn_block (pj_then (J_reg (st (s_move rfl) rfl (st (s_addN _ 1 rfl rfl (by omega)) rfl (st (s_assign rfl) rfl (Run.nil ?_))))))))
          refine pj_roundM (k + 1) (hk) (by omega) (by repeat (first | exact SubG.refl _ | exact SubG.nil | refine SubG.cons rfl (VT.le_refl _) ?_ | (refine SubG.cons rfl (one_le ?_) ?_; (congr 1; first | omega | (simp; omega) | simp)))) (.drop (.keep (hsu' ▸ Own.le_refl _) (.keep (Own.le_refl _) (.nil))))
        · have hsg : Lin.sgnZ k = 1 := by unfold Lin.sgnZ; rw [if_pos (by omega)]
          have hsu' : detS t F (k + 1) = detS t F k + F 0 k * d := by rw [hsu, hsg]; grind
          have had := rAddI_ok (detS t F k) (F 0 k * d) (mod4_small hs4) hp
          refine J_seq (J_seq (J_reg (st (s_move rfl) rfl (st (s_move rfl) rfl (st (s_len rfl) rfl (st (sF (by omega) (s_lt rfl rfl)) rfl (Run.nil (pj_then (J_cond0 rfl ?_)))))))))
          refine J_exit (px_then (px_then (px_block (pj_then (J_seq ?_)))))
          refine J_regU2 mixed (by kernel_rfl) (by kernel_rfl) ?_
          refine ux (fun B => s_move rfl) rfl rfl ?_
          refine ux (fun B => s_indexI rfl rfl (by omega) (by omega)) rfl rfl ?_
          refine ux (fun B => s_load rfl) rfl rfl ?_
          refine ux (fun B => s_move rfl) rfl rfl ?_
          refine ux (fun B => s_indexIN rfl rfl (by omega)) rfl rfl ?_
          refine ux (fun B => s_load rfl) rfl rfl ?_
          refine ux (fun B => s_move rfl) rfl rfl ?_
          refine uxk (ihk ) rfl ⟨VT.le_refl _, trivial⟩ rfl ?_
          refine uxk (hmu ) rfl ⟨VT.le_refl _, VT.le_refl _, trivial⟩ rfl ?_
          refine ua rfl (us rfl ?_)
          refine RunU.nil (fun γ => ?_)
          refine PJ_normM (M' := [_, _, _]) rfl (pj_then (J_seq (J_seq (J_reg (st (s_move rfl) rfl (st (s_remN 2 rfl rfl rfl (by decide)) rfl (st (sF (by omega) (s_eq rfl rfl)) rfl (Run.nil (pj_then ?_)))))))))
          refine J_cond0 rfl (J_skip (pj_then (J_reg (st (s_loadB 1 rfl rfl rfl) rfl (st (s_loadB 0 rfl rfl rfl) rfl ?_)))))
          refine st (s_callk (had ) rfl ⟨VT.le_refl _, VT.le_refl _, trivial⟩) rfl ?_
          refine a_storeB 1 rfl rfl rfl rfl rfl (leN rfl) rfl (Run.nil (pn_block (pj_then (J_reg (st (s_move rfl) rfl (st (s_addN _ 1 rfl rfl (by omega)) rfl (st (s_assign rfl) rfl (Run.nil ?_))))))))
          refine pj_roundM (k + 1) (hk) (by omega) (by repeat (first | exact SubG.refl _ | exact SubG.nil | refine SubG.cons rfl (VT.le_refl _) ?_ | (refine SubG.cons rfl (one_le ?_) ?_; (congr 1; first | omega | (simp; omega) | simp)))) (.drop (.keep (hsu' ▸ Own.le_refl _) (.keep (Own.le_refl _) (.nil))))
    · have hke : k = n + 1 := by omega
      subst hke
      refine J_seq (J_seq (J_reg (st (s_move rfl) rfl (st (s_move rfl) rfl (st (s_len rfl) rfl (st (sF (by omega) (s_lt rfl rfl)) rfl (Run.nil (pj_then (J_cond0 rfl ?_)))))))))
      refine J_exit (px_then (px_then (px_block (pj_then (J_seq (J_reg (st (s_loadB 0 rfl rfl rfl) rfl (a_storeB 1 rfl rfl rfl rfl rfl (leN rfl) rfl (Run.nil ?_)))))))))
      refine pj_then (J_ret ?_)
      refine retc1 Try.results23 (.cellB 1 rfl rfl rfl (VT.le_refl _))
end Tor
end
section
namespace Tor
open Go Go.RowKit Go.Proofs
def litF (c : Nat) (l : List Int) : Nat → Nat → Int := fun i j => l.getD (i * c + j) 0
theorem lit_row {a b : Int} {f : Nat → Int} (h0 : f 0 = a) (h1 : f 1 = b) : VT.le (slT (.agg 2) 2 (fun q => [bigT b, bigT a].reverse.getD q anyT)) (rowF 2 f) := by
  subst h0 h1
  exact slT_le' rfl fun i hi => by
    match i, hi with
    | 0, _ => rfl
    | 1, _ => rfl
theorem lit22 (a b c d : Int) : VT.le (aggT 3 [(0, .one, one (.int .i64 2)), (1, .one, one (.int .i64 2)), (2, .one, slT .one 2 (fun q => [slT (.agg 2) 2 (fun q => [bigT d, bigT c].reverse.getD q anyT), slT (.agg 2) 2 (fun q => [bigT b, bigT a].reverse.getD q anyT)].reverse.getD q anyT))]) (matF 2 2 (litF 2 [a, b, c, d])) :=
  aggT_le fun q hq => by
    rcases List.mem_cons.1 hq with rfl | hq
    · exact ⟨_, List.mem_cons_self, VT.le_refl _⟩
    · rcases List.mem_cons.1 hq with rfl | hq
      · exact ⟨_, List.mem_cons_of_mem _ List.mem_cons_self, VT.le_refl _⟩
      · rcases List.mem_singleton.1 hq with rfl
        exact ⟨_, List.mem_cons_of_mem _ (List.mem_cons_of_mem _ List.mem_cons_self), slT_le fun i hi => by
          match i, hi with
          | 0, _ => exact lit_row rfl rfl
          | 1, _ => exact lit_row rfl rfl⟩
theorem lit12 (a b : Int) : VT.le (aggT 3 [(0, .one, one (.int .i64 1)), (1, .one, one (.int .i64 2)), (2, .one, slT .one 1 (fun _ => slT (.agg 2) 2 (fun q => [bigT b, bigT a].reverse.getD q anyT)))]) (matF 1 2 (litF 2 [a, b])) :=
  aggT_le fun q hq => by
    rcases List.mem_cons.1 hq with rfl | hq
    · exact ⟨_, List.mem_cons_self, VT.le_refl _⟩
    · rcases List.mem_cons.1 hq with rfl | hq
      · exact ⟨_, List.mem_cons_of_mem _ List.mem_cons_self, VT.le_refl _⟩
      · rcases List.mem_singleton.1 hq with rfl
        exact ⟨_, List.mem_cons_of_mem _ (List.mem_cons_of_mem _ List.mem_cons_self), slT_le fun i hi => by
          match i, hi with
          | 0, _ => exact lit_row rfl rfl⟩
theorem lit00 (F : Nat → Nat → Int) : VT.le (aggT 3 [(0, .one, one (.int .i64 0)), (1, .one, one (.int .i64 0)), (2, .one, one (.slice none 0 0))]) (matF 0 0 F) :=
  aggT_le fun q hq => by
    rcases List.mem_cons.1 hq with rfl | hq
    · exact ⟨_, List.mem_cons_self, VT.le_refl _⟩
    · rcases List.mem_cons.1 hq with rfl | hq
      · exact ⟨_, List.mem_cons_of_mem _ List.mem_cons_self, VT.le_refl _⟩
      · rcases List.mem_singleton.1 hq with rfl
        exact ⟨_, List.mem_cons_of_mem _ (List.mem_cons_of_mem _ List.mem_cons_self), nil_slT⟩
theorem u64_3 : VT.le (slT .one 3 (fun q => [one (.int .u64 5), one (.int .u64 7), one (.int .u64 11)].reverse.getD q anyT)) (u64T [11, 7, 5]) := slT_le' rfl fun i hi => by
  match i, hi with
  | 0, _ => rfl
  | 1, _ => rfl
  | 2, _ => rfl
theorem u64_1 : VT.le (slT .one 1 (fun q => [one (.int .u64 6)].reverse.getD q anyT)) (u64T [6]) := slT_le' rfl fun i hi => by
  match i, hi with
  | 0, _ => rfl
theorem pr12 : tlL primeB (3 : Int).toNat (bf primeB 12) = [11, 7, 5] := by decide +kernel
theorem pr2 : tlL primeB (5 : Int).toNat (bf primeB 2) = [] := by decide +kernel
theorem nd40 : ndL primeB (40 + 40) (min 12 2147483648 + 2) 1 12 = some [11, 7, 5] := by decide +kernel
theorem nd0 : ndL primeB (0 + 0) (min 12 2147483648 + 2) 1 12 = some [] := by decide +kernel
theorem nd3000 : ndL primeB (3000 + 3000) (min 12 2147483648 + 2) 1 12 = none := by decide +kernel
attribute [local irreducible] Tor.J Tor.PJ Tor.StepO Tor.one Tor.slT Tor.ptrT Tor.aggT Tor.tupT Tor.exT Tor.andT Tor.eP Tor.boxO Tor.sliO Tor.slV Tor.VT.le Tor.Ret Tor.anyT
attribute [local irreducible] bigT
set_option maxRecDepth 20000 in
set_option maxHeartbeats 20000000 in
theorem sanity_ok : Ok Try.prog 8 [] (one (.bool true)) := by
  refine Ok.enter Try.func8 rfl Try.ntmps8 rfl (fun w O => ?_)
  have o0 := rOf_ok 0 (by decide) (by decide)
  have o1 := rOf_ok 1 (by decide) (by decide)
  have o2 := rOf_ok 2 (by decide) (by decide)
  have o3 := rOf_ok 3 (by decide) (by decide)
  have o4 := rOf_ok 4 (by decide) (by decide)
  have o5 := rOf_ok 5 (by decide) (by decide)
  have o10 := rOf_ok 10 (by decide) (by decide)
  have om := rOf_ok (-1) (by decide) (by decide)
  have o40 := rOf_ok 40 (by decide) (by decide)
  have o192 := rOf_ok 192 (by decide) (by decide)
  have o3000 := rOf_ok 3000 (by decide) (by decide)
  have hm4 : ∀ {l : List Int} (i j : Nat), (∀ x ∈ l, x.natAbs ≤ 2 ^ 400) → mod4 (litF 2 l i j) := fun {l} i j h => by
    unfold litF mod4
    rw [List.getD_eq_getElem?_getD]
    cases e : l[i * 2 + j]? with
    | none => exact Nat.zero_le _
    | some x => exact h x (List.mem_of_getElem? e)
  have h1 := Hadamard_ok 2 (litF 2 [3, 4, 0, 2]) 25 (by decide) (fun i j => hm4 i j (by decide +kernel)) (by decide) (by decide +kernel) (by decide +kernel)
  have h2 := Hadamard_ok 2 (litF 2 [1, 1, 1, -1]) 25 (by decide) (fun i j => hm4 i j (by decide +kernel)) (by decide) (by decide +kernel) (by decide +kernel)
  have h3 := Hadamard_ok 0 (fun _ _ => 0) 25 (by decide) (fun i j => Nat.zero_le _) (by decide) (by decide +kernel) (by decide +kernel)
  have h4 := HadamardS_ok 1 2 (litF 2 [1, 1]) (by decide)
  rw [show upN (prN 2 (srtN 2 2 (litF 2 [3, 4, 0, 2]))) = 10 by decide +kernel] at h1
  rw [show upN (prN 2 (srtN 2 2 (litF 2 [1, 1, 1, -1]))) = 2 by decide +kernel] at h2
  rw [show upN (prN 0 (srtN 0 0 (fun _ _ => 0))) = 1 by decide +kernel] at h3
  have m1 := Minor_ok 2 2 (litF 2 [3, 4, 0, 2]) 1 25 (by decide) (by decide) (by decide) (by decide) (fun i j => hm4 i j (by decide +kernel)) (by decide) (by decide +kernel) (by decide +kernel)
  have m2 := MinorL_ok 2 2 (litF 2 [3, 4, 0, 2]) 0 (by decide)
  have m3 := MinorG_ok 2 2 (litF 2 [3, 4, 0, 2]) 3 (by decide) (by decide)
  have m4 := Minor_ok 2 2 (litF 2 [1, 1, 1, -1]) 1 25 (by decide) (by decide) (by decide) (by decide) (fun i j => hm4 i j (by decide +kernel)) (by decide) (by decide +kernel) (by decide +kernel)
  have p1 := Primes_ok 12 3 (by decide) (by decide) (by decide)
  have p2 := Primes_ok 12 (-1) (by decide) (by decide) (by decide)
  have p3 := Primes_ok 2 5 (by decide) (by decide) (by decide)
  have n1 := Needed_ok 12 40 (by decide) (by unfold mod4; decide +kernel) _ nd40
  have n2 := Needed_ok 12 0 (by decide) (by unfold mod4; decide +kernel) _ nd0
  have n3 := Needed_ok 12 3000 (by decide) (by unfold mod4; decide +kernel) _ nd3000
  have e1 := Enough_ok [11, 7, 5] 192 (fun q => by match q with | 0 => decide | 1 => decide | 2 => decide | q + 3 => simp) (by decide) (by unfold mod4; decide +kernel)
  have e2 := Enough_ok [6] 3 (fun q => by match q with | 0 => decide | q + 1 => simp) (by decide) (by unfold mod4; decide +kernel)
  rw [show decide ((192 : Int) + 192 < (prL2 [11, 7, 5] ([11, 7, 5] : List Nat).length : Int)) = true by decide +kernel] at e1
  rw [show decide ((3 : Int) + 3 < (prL2 [6] ([6] : List Nat).length : Int)) = false by decide +kernel] at e2
  have c1 := Cost_ok 2 2 (litF 2 [3, 4, 0, 2]) (by decide) (by decide) (fun i j => mod4_small (hm4 i j (by decide +kernel))) (fun i j => by
    have hb : ∀ x ∈ ([3, 4, 0, 2] : List Int), bitsN x.natAbs ≤ 2048 := by decide +kernel
    unfold litF
    rw [List.getD_eq_getElem?_getD]
    cases e : ([3, 4, 0, 2] : List Int)[i * 2 + j]? with
    | none => exact (by decide +kernel : bitsN (0 : Int).natAbs ≤ 2048)
    | some x => exact hb x (List.mem_of_getElem? e))
  rw [show (cstM 2 (litF 2 [3, 4, 0, 2]) 2) = (3, 3) by decide +kernel, show stepsN 2 2 (3, 3).2 = 8 by decide +kernel] at c1
  rw [pr12] at p1
  rw [show tlL primeB (-1 : Int).toNat (bf primeB 12) = [] from rfl] at p2
  rw [pr2] at p3
  refine J_seq (J_reg (st (s_assign rfl) rfl (Run.nil (pj_then (J_seq (J_reg ?_))))))
  refine st (s_callk (o3 ) rfl ⟨VT.le_refl _, trivial⟩) rfl ?_
  refine st (s_callk (o4 ) rfl ⟨VT.le_refl _, trivial⟩) rfl ?_
  refine stS rfl rfl rfl rfl (PartsK.cons rfl (PartsK.cons rfl (PartsK.nil ?_)))
  refine st (s_callk (o0 ) rfl ⟨VT.le_refl _, trivial⟩) rfl ?_
  refine st (s_callk (o2 ) rfl ⟨VT.le_refl _, trivial⟩) rfl ?_
  refine stS rfl rfl rfl rfl (PartsK.cons rfl (PartsK.cons rfl (PartsK.nil (stS rfl rfl rfl rfl (PartsK.cons rfl (PartsK.cons rfl (PartsK.nil (stB rfl rfl rfl (BuildK.cons rfl rfl rfl ?_)))))))))
  refine BuildK.cons rfl rfl rfl (BuildK.cons rfl rfl rfl (BuildK.nil ?_))
  refine a_allocS (T := 28) rfl rfl rfl (fun b1 => ?_)
  refine a_storeW 0 rfl rfl rfl rfl (Run.nil (pj_then (J_seq (J_reg ?_))))
  refine st (s_callk (o1 ) rfl ⟨VT.le_refl _, trivial⟩) rfl ?_
  refine st (s_callk (o1 ) rfl ⟨VT.le_refl _, trivial⟩) rfl ?_
  refine stS rfl rfl rfl rfl (PartsK.cons rfl (PartsK.cons rfl (PartsK.nil ?_)))
  refine st (s_callk (o1 ) rfl ⟨VT.le_refl _, trivial⟩) rfl ?_
  refine st (s_callk (om ) rfl ⟨VT.le_refl _, trivial⟩) rfl ?_
  refine stS rfl rfl rfl rfl (PartsK.cons rfl (PartsK.cons rfl (PartsK.nil (stS rfl rfl rfl rfl (PartsK.cons rfl (PartsK.cons rfl (PartsK.nil (stB rfl rfl rfl (BuildK.cons rfl rfl rfl ?_)))))))))
  refine BuildK.cons rfl rfl rfl (BuildK.cons rfl rfl rfl (BuildK.nil ?_))
  refine a_allocS (T := 28) rfl rfl rfl (fun b2 => ?_)
  refine a_storeW 0 rfl rfl rfl rfl (Run.nil (pj_then (J_seq (J_reg (st (s_loadW 1 rfl rfl) rfl ?_)))))
  refine st (s_callk (h1 ) rfl ⟨(lit22 3 4 0 2), trivial⟩) rfl ?_
  refine st (s_move rfl) rfl (st (s_extract rfl rfl) rfl (st (s_extract rfl rfl) rfl ?_))
  refine a_alloc (T := 32) rfl (ltN rfl) (fun b3 => ?_)
  refine a_storeB 0 rfl rfl rfl rfl rfl (leN rfl) rfl (st (s_assign rfl) rfl (Run.nil (pj_then (J_seq (J_reg (st (s_loadW 1 rfl rfl) rfl ?_))))))
  refine st (s_callk (h2 ) rfl ⟨(lit22 1 1 1 (-1)), trivial⟩) rfl ?_
  refine st (s_move rfl) rfl (st (s_extract rfl rfl) rfl (st (s_extract rfl rfl) rfl ?_))
  refine a_alloc (T := 32) rfl (ltN rfl) (fun b5 => ?_)
  refine a_storeB 0 rfl rfl rfl rfl rfl (leN rfl) rfl (st (s_assign rfl) rfl (Run.nil (pj_then (J_seq (J_reg (stB rfl rfl rfl (BuildK.nil ?_)))))))
  refine st (s_callk (h3 ) rfl ⟨(lit00 _), trivial⟩) rfl ?_
  refine st (s_move rfl) rfl (st (s_extract rfl rfl) rfl (st (s_extract rfl rfl) rfl ?_))
  refine a_alloc (T := 32) rfl (ltN rfl) (fun b7 => ?_)
  refine a_storeB 0 rfl rfl rfl rfl rfl (leN rfl) rfl (st (s_assign rfl) rfl (Run.nil (pj_then (J_seq (J_reg ?_)))))
  refine st (s_callk (o1 ) rfl ⟨VT.le_refl _, trivial⟩) rfl ?_
  refine st (s_callk (o1 ) rfl ⟨VT.le_refl _, trivial⟩) rfl ?_
  refine stS rfl rfl rfl rfl (PartsK.cons rfl (PartsK.cons rfl (PartsK.nil (stS1 rfl rfl rfl rfl (stB rfl rfl rfl (BuildK.cons rfl rfl rfl (BuildK.cons rfl rfl rfl (BuildK.cons rfl rfl rfl (BuildK.nil ?_)))))))))
  refine st (s_callk (h4 ) rfl ⟨(lit12 1 1), trivial⟩) rfl ?_
  refine st (s_move rfl) rfl (st (s_extract rfl rfl) rfl (st (s_extract rfl rfl) rfl ?_))
  refine a_alloc (T := 32) rfl (ltN rfl) (fun b9 => ?_)
  refine a_storeB 0 rfl rfl rfl rfl rfl (leN rfl) rfl (st (s_assign rfl) rfl (Run.nil (pj_then (J_seq (J_reg (st (s_loadW 5 rfl rfl) rfl ?_))))))
  refine st (s_callk (c1 ) rfl ⟨(lit22 3 4 0 2), trivial⟩) rfl ?_
  refine a_allocS (T := 37) rfl rfl rfl (fun b11 => ?_)
  refine a_storeW 0 rfl rfl rfl rfl (Run.nil (pj_then (J_seq (J_regd 34 mixed (by kernel_rfl) (by decide) (st (s_move rfl) rfl (st (sT (by omega) (s_eq rfl rfl)) rfl (st (s_move rfl) rfl (sg1 rfl rfl (s_move rfl) rfl (sg1 rfl rfl (sT (by omega) (s_eq rfl rfl)) rfl ?_)))))))))
  refine st (s_pickT rfl rfl) rfl (st (s_move rfl) rfl (sg1 rfl rfl (s_move rfl) rfl (sg1 rfl rfl (sT (by omega) (s_eq rfl rfl)) rfl (st (s_pickT rfl rfl) rfl (st (s_move rfl) rfl (sg1 rfl rfl (s_move rfl) rfl (sg1 rfl rfl (sT (by omega) (s_eq rfl rfl)) rfl (st (s_pickT rfl rfl) rfl (st (s_move rfl) rfl ?_)))))))))
  refine sg1 rfl rfl (s_loadB 4 rfl rfl rfl) rfl ?_
  refine sg1 rfl rfl (s_callk (o10 ) rfl ⟨VT.le_refl _, trivial⟩) rfl ?_
  refine sg1 rfl rfl (sT (by omega) (s_callk (rSame_ok _ _) rfl ⟨VT.le_refl _, VT.le_refl _, trivial⟩)) rfl ?_
  refine st (s_pickT rfl rfl) rfl (st (s_move rfl) rfl (sg1 rfl rfl (s_loadB 3 rfl rfl rfl) rfl ?_))
  refine sg1 rfl rfl (s_callk (o2 ) rfl ⟨VT.le_refl _, trivial⟩) rfl ?_
  refine sg1 rfl rfl (sT (by omega) (s_callk (rSame_ok _ _) rfl ⟨VT.le_refl _, VT.le_refl _, trivial⟩)) rfl ?_
  refine st (s_pickT rfl rfl) rfl (st (s_move rfl) rfl (sg1 rfl rfl (s_loadB 2 rfl rfl rfl) rfl ?_))
  refine sg1 rfl rfl (s_callk (o1 ) rfl ⟨VT.le_refl _, trivial⟩) rfl ?_
  refine sg1 rfl rfl (sT (by omega) (s_callk (rSame_ok _ _) rfl ⟨VT.le_refl _, VT.le_refl _, trivial⟩)) rfl ?_
  refine st (s_pickT rfl rfl) rfl (st (s_move rfl) rfl (sg1 rfl rfl (s_loadB 1 rfl rfl rfl) rfl ?_))
  refine sg1 rfl rfl (s_callk (rSignI_ok _) rfl ⟨VT.le_refl _, trivial⟩) rfl ?_
  refine sg1 rfl rfl (sT (rfl) (s_eq rfl rfl)) rfl (st (s_pickT rfl rfl) rfl (Run.nil (st (s_assign rfl) rfl (Run.nil (pj_then (J_seq (J_reg (st (s_loadW 6 rfl rfl) rfl ?_))))))))
  refine st (s_callk (m1 ) rfl ⟨(lit22 3 4 0 2), VT.le_refl _, trivial⟩) rfl ?_
  refine st (s_callk (o5 ) rfl ⟨VT.le_refl _, trivial⟩) rfl ?_
  refine st (sT (rfl) (s_callk (rSame_ok _ _) rfl ⟨VT.le_refl _, VT.le_refl _, trivial⟩)) rfl ?_
  refine st (s_move rfl) rfl (sg1 rfl rfl (s_loadW 6 rfl rfl) rfl ?_)
  refine sg1 rfl rfl (s_callk (m2 ) rfl ⟨(lit22 3 4 0 2), VT.le_refl _, trivial⟩) rfl ?_
  refine sg1 rfl rfl (s_callk (o1 ) rfl ⟨VT.le_refl _, trivial⟩) rfl ?_
  refine sg1 rfl rfl (sT (by omega) (s_callk (rSame_ok _ _) rfl ⟨VT.le_refl _, VT.le_refl _, trivial⟩)) rfl ?_
  refine st (s_pickT rfl rfl) rfl (st (s_move rfl) rfl (sg1 rfl rfl (s_loadW 6 rfl rfl) rfl ?_))
  refine sg1 rfl rfl (s_callk (m3 ) rfl ⟨(lit22 3 4 0 2), VT.le_refl _, trivial⟩) rfl ?_
  refine sg1 rfl rfl (s_callk (rSignI_ok _) rfl ⟨VT.le_refl _, trivial⟩) rfl ?_
  refine sg1 rfl rfl (sT (rfl) (s_eq rfl rfl)) rfl (st (s_pickT rfl rfl) rfl (st (s_move rfl) rfl (sg1 rfl rfl (s_loadW 5 rfl rfl) rfl ?_)))
  refine sg1 rfl rfl (s_callk (m4 ) rfl ⟨(lit22 1 1 1 (-1)), VT.le_refl _, trivial⟩) rfl ?_
  refine sg1 rfl rfl (s_callk (o2 ) rfl ⟨VT.le_refl _, trivial⟩) rfl ?_
  refine sg1 rfl rfl (sT (rfl) (s_callk (rSame_ok _ _) rfl ⟨VT.le_refl _, VT.le_refl _, trivial⟩)) rfl ?_
  refine st (s_pickT rfl rfl) rfl (st (s_move rfl) rfl (sg1 rfl rfl (s_fieldAddr rfl) rfl (sg1 rfl rfl (s_loadB 0 rfl rfl rfl) rfl (sg1 rfl rfl (sT (by omega) (s_eq rfl rfl)) rfl (st (s_pickT rfl rfl) rfl (st (s_move rfl) rfl (sg1 rfl rfl (s_fieldAddr rfl) rfl (sg1 rfl rfl (s_loadB 0 rfl rfl rfl) rfl (sg1 rfl rfl (sT (by omega) (s_eq rfl rfl)) rfl ?_)))))))))
  refine st (s_pickT rfl rfl) rfl (st (s_move rfl) rfl (sg1 rfl rfl (s_fieldAddr rfl) rfl (sg1 rfl rfl (s_loadB 0 rfl rfl rfl) rfl (sg1 rfl rfl (sT (by omega) (s_eq rfl rfl)) rfl (st (s_pickT rfl rfl) rfl (st (s_assign rfl) rfl (Run.nil (pj_then (J_seq ?_)))))))))
  refine J_reg (stS rfl rfl rfl rfl (PartsK.cons rfl (PartsK.cons rfl (PartsK.cons rfl (PartsK.nil (st (s_assign rfl) rfl (Run.nil (pj_then (J_seq ?_)))))))))
  refine J_reg (st (s_move rfl) rfl (st (s_move rfl) rfl (sg1 rfl rfl (s_move rfl) rfl (st (s_pickT rfl rfl) rfl (st (s_move rfl) rfl ?_)))))
  refine sg1 rfl rfl (s_callk (p1 ) rfl ⟨VT.le_refl _, VT.le_refl _, trivial⟩) rfl ?_
  refine sg1 rfl rfl (s_move rfl) rfl ?_
  refine sg1 rfl rfl (s_callk (s9Same_ok _ _ _ _ (by decide)) rfl ⟨VT.le_refl _, (u64_3), trivial⟩) rfl ?_
  refine st (s_pickT rfl rfl) rfl (st (s_move rfl) rfl ?_)
  refine sg1 rfl rfl (s_callk (p2 ) rfl ⟨VT.le_refl _, VT.le_refl _, trivial⟩) rfl ?_
  refine sg1 rfl rfl (s_len rfl) rfl (sg1 rfl rfl (sT (rfl) (s_eq rfl rfl)) rfl (st (s_pickT rfl rfl) rfl (st (s_move rfl) rfl ?_)))
  refine sg1 rfl rfl (s_callk (p3 ) rfl ⟨VT.le_refl _, VT.le_refl _, trivial⟩) rfl ?_
  refine sg1 rfl rfl (s_len rfl) rfl (sg1 rfl rfl (sT (rfl) (s_eq rfl rfl)) rfl (st (s_pickT rfl rfl) rfl (st (s_move rfl) rfl ?_)))
  refine sg1 rfl rfl (s_callk (o40 ) rfl ⟨VT.le_refl _, trivial⟩) rfl ?_
  refine sg1 rfl rfl (s_callk (n1 ) rfl ⟨VT.le_refl _, VT.le_refl _, trivial⟩) rfl ?_
  refine sg1 rfl rfl (s_move rfl) rfl ?_
  refine sg1 rfl rfl (s_callk (s9Same_ok _ _ _ _ (by decide)) rfl ⟨VT.le_refl _, (u64_3), trivial⟩) rfl ?_
  refine st (s_pickT rfl rfl) rfl (st (s_move rfl) rfl ?_)
  refine sg1 rfl rfl (s_callk (o0 ) rfl ⟨VT.le_refl _, trivial⟩) rfl ?_
  refine sg1 rfl rfl (s_callk (n2 ) rfl ⟨VT.le_refl _, VT.le_refl _, trivial⟩) rfl ?_
  refine sg1 rfl rfl (s_len rfl) rfl (sg1 rfl rfl (sT (rfl) (s_eq rfl rfl)) rfl (st (s_pickT rfl rfl) rfl (st (s_move rfl) rfl ?_)))
  refine sg1 rfl rfl (s_callk (o3000 ) rfl ⟨VT.le_refl _, trivial⟩) rfl ?_
  refine sg1 rfl rfl (s_callk (n3 ) rfl ⟨VT.le_refl _, VT.le_refl _, trivial⟩) rfl ?_
  refine sg1 rfl rfl (s_len rfl) rfl (sg1 rfl rfl (sT (rfl) (s_eq rfl rfl)) rfl (st (s_pickT rfl rfl) rfl (st (s_move rfl) rfl (sg1 rfl rfl (s_move rfl) rfl ?_))))
  refine sg1 rfl rfl (s_callk (o192 ) rfl ⟨VT.le_refl _, trivial⟩) rfl ?_
  refine sg1 rfl rfl (s_callk (e1 ) rfl ⟨(u64_3), VT.le_refl _, trivial⟩) rfl ?_
  refine st (s_pickT rfl rfl) rfl (st (s_move rfl) rfl (stSg rfl rfl rfl rfl rfl rfl (PartsK.cons rfl (PartsK.nil ?_))))
  refine sg1 rfl rfl (s_callk (o3 ) rfl ⟨VT.le_refl _, trivial⟩) rfl ?_
  refine sg1 rfl rfl (s_callk (e2 ) rfl ⟨(u64_1), VT.le_refl _, trivial⟩) rfl ?_
  refine sg1 rfl rfl (s_not rfl) rfl (st (s_pickT rfl rfl) rfl (st (s_assign rfl) rfl (Run.nil (pj_then (J_ret ?_)))))
  refine retc1 Try.results8 (.tmp rfl (VT.le_refl _))
end Tor
end
section
namespace Tor
theorem sumF_cast (n : Nat) (f : Nat → Int) : ((sumF n f : Int) : Rat) = Lin.sm n (fun i => (f i : Rat)) := by
  induction n with
  | zero => rfl
  | succ n ih => rw [sumF, Lin.sm, Rat.intCast_add, ih]
theorem dot_cast (n : Nat) (f : Nat → Int) : Lin.dot n (fun k => (f k : Rat)) (fun k => (f k : Rat)) = ((lenN n f : Int) : Rat) := by
  rw [lenN_eq, sumF_cast]
  exact Lin.sm_congr fun k _ => (Rat.intCast_mul _ _).symm
theorem pr_cast (n : Nat) (f : Nat → Int) : ((prZ n f : Int) : Rat) = Lin.pr n (fun i => (f i : Rat)) := by
  induction n with
  | zero => rfl
  | succ n ih => rw [prZ, Lin.pr, Rat.intCast_mul, ih]
theorem had_int (n : Nat) (F : Nat → Nat → Int) : Lin.detZ n F * Lin.detZ n F ≤ ((prN n (fun i => lenN n (F i)) : Nat) : Int) := by
  have h := Lin.hadamard n (fun i j => (F i j : Rat))
  rw [← Lin.detZ_cast, ← Rat.intCast_mul, Lin.pr_congr (g := fun i => (((lenN n (F i) : Nat) : Int) : Rat)) (fun i _ => dot_cast n (F i)), ← pr_cast, ← prN_cast] at h
  exact Rat.intCast_le_intCast.1 h
theorem le_upN {d P : Nat} (h : d * d ≤ P) : d ≤ upN P := by
  have h1 := upN_ge P
  rcases Nat.lt_or_ge (upN P) d with h2 | h2
  · have := Nat.mul_lt_mul_of_lt_of_le h2 (Nat.le_of_lt h2) (by omega)
    omega
  · exact h2
theorem sq_abs {x : Int} {P : Nat} (h : x * x ≤ (P : Int)) : x.natAbs * x.natAbs ≤ P := by
  rw [← Int.natAbs_mul]
  have := sqZ_nonneg x
  omega
theorem det_upN (n : Nat) (F : Nat → Nat → Int) : (Lin.detZ n F).natAbs ≤ upN (prN n (fun i => lenN n (F i))) := le_upN (sq_abs (had_int n F))
theorem srt_prod (r c : Nat) (F : Nat → Nat → Int) : prN r (srtN r c F) = prN r (fun i => lenN c (F i)) := by
  apply Int.ofNat.inj
  show ((prN r (srtN r c F) : Nat) : Int) = ((prN r (fun i => lenN c (F i)) : Nat) : Int)
  rw [prN_cast, prN_cast, ← prZ_sort r (fun i => (lenN c (F i) : Int))]
  have : ∀ k, k ≤ r → prZ k (fun i => (srtN r c F i : Int)) = prZ k (sortN r (fun i => (lenN c (F i) : Int))) := fun k => by
    induction k with
    | zero => exact fun _ => rfl
    | succ k ih => intro h; rw [prZ, prZ, ih (by omega), srtN_cast (by omega)]
  exact this r (Nat.le_refl r)
def diaF (v : Nat → Int) : Nat → Nat → Int := fun i j => if j = i then v i else 0
theorem sumF_one {x : Int} {i : Nat} : ∀ {n : Nat}, i < n → sumF n (fun k => (if k = i then x else 0) * (if k = i then x else 0)) = x * x
  | 0, h => absurd h (Nat.not_lt_zero _)
  | n + 1, h => by
    rw [sumF]
    by_cases e : n = i
    · subst e
      rw [if_pos rfl]
      have : ∀ k, k ≤ n → sumF k (fun k => (if k = n then x else 0) * (if k = n then x else 0)) = 0 := fun k => by
        induction k with
        | zero => exact fun _ => rfl
        | succ k ih => intro hk; rw [sumF, ih (by omega), if_neg (by omega)]; rfl
      rw [this n (Nat.le_refl n), Int.zero_add]
    · rw [if_neg e, sumF_one (n := n) (by omega)]; simp
theorem lenN_dia {n i : Nat} {v : Nat → Int} (h : i < n) : lenN n (diaF v i) = (v i).natAbs * (v i).natAbs := by
  unfold lenN diaF; rw [sumF_one h, Int.natAbs_mul]
theorem prN_dia {n : Nat} {v : Nat → Int} : ∀ k, k ≤ n → prN k (fun i => lenN n (diaF v i)) = (prZ k v).natAbs * (prZ k v).natAbs
  | 0, _ => rfl
  | k + 1, h => by
    rw [prN, prN_dia k (by omega), lenN_dia (by omega), prZ, Int.natAbs_mul]
    exact Nat.mul_mul_mul_comm _ _ _ _
theorem upN_dia (n : Nat) (v : Nat → Int) : upN (prN n (srtN n n (diaF v))) = (prZ n v).natAbs := by
  rw [srt_prod, prN_dia n (Nat.le_refl n)]
  exact upN_unique (Nat.le_refl _) fun t ht => Nat.mul_lt_mul_of_lt_of_le ht (Nat.le_of_lt ht) (by omega)
theorem prZ_abs {B : Nat} {v : Nat → Int} (h : ∀ i, (v i).natAbs ≤ B) : ∀ n, (prZ n v).natAbs ≤ B ^ n
  | 0 => Nat.le_refl _
  | n + 1 => by rw [prZ, Int.natAbs_mul, Nat.pow_succ]; exact Nat.mul_le_mul (prZ_abs h n) (h n)
theorem lenN_abs {B c : Nat} {f : Nat → Int} (h : ∀ k, (f k).natAbs ≤ B) : lenN c f ≤ c * (B * B) := by
  unfold lenN
  induction c with
  | zero => simp [sumF]
  | succ c ih =>
    rw [sumF, Nat.succ_mul]
    refine Nat.le_trans (Int.natAbs_add_le _ _) (Nat.add_le_add ih ?_)
    rw [Int.natAbs_mul]; exact Nat.mul_le_mul (h c) (h c)
end Tor
end
section
namespace Tor
open Go Go.RowKit Go.Proofs
attribute [local irreducible] Tor.J Tor.PJ Tor.StepO Tor.one Tor.slT Tor.ptrT Tor.aggT Tor.tupT Tor.exT Tor.andT Tor.eP Tor.boxO Tor.sliO Tor.slV Tor.VT.le Tor.Ret Tor.anyT
theorem rValidI_ok (x : Int) (hx : small x) : Ok Try.prog 18 [bigT x] (one (.bool true)) := by
  have hx' : (digs x.natAbs).length ≤ 1099511627776 := hx
  have h := rValid_ok (decide (x < 0)) (digs x.natAbs) (by omega)
  have e : validI (decide (x < 0)) (digs x.natAbs) = true := by
    unfold validI
    by_cases h0 : (digs x.natAbs).length = 0
    · have := digs_nil h0
      rw [if_pos h0, decide_eq_false (by omega)]; rfl
    · rw [if_neg h0]
      have h1 : x.natAbs ≠ 0 := fun k => h0 (by rw [k]; rfl)
      have := topd_pos h1
      exact decide_eq_true (by omega)
  rw [e] at h
  exact h
end Tor
end
section
namespace Tor
open Go Go.RowKit Go.Proofs
theorem sizF_abs (c : Nat) (l : List Int) (i j : Nat) : (sizF c l i j).natAbs ≤ 9 := digD_abs _ _
theorem len4 {c : Nat} {F : Nat → Nat → Int} (hc : c ≤ 4) (h : ∀ i j, (F i j).natAbs ≤ 9) (i : Nat) : lenN c (F i) ≤ 324 :=
  Nat.le_trans (lenN_abs (h i)) (Nat.mul_le_mul_right 81 hc)
theorem pow4 {n : Nat} (h : n ≤ 4) : 324 ^ n < 2 ^ 800 := Nat.lt_of_le_of_lt (Nat.pow_le_pow_right (n := 324) (i := n) (j := 4) (by decide) h) (by decide +kernel)
theorem ltc {x y : Int} : (cmpI x y < 0) ↔ x < y := by unfold cmpI; split <;> (try split) <;> omega
theorem big_box {b : Nat} {T : TypeId} {x : Int} : Own.le (boxO b T 2 [(0, .agg 2, bigT x)]) (boxO b T 2 [(0, .one, one (.bool (decide (x < 0)))), (1, .one, limT (digs x.natAbs))]) := by
  unfold bigT
  exact box_in (o := 0) (k := 2) (cs := [(0, .one, one (.bool (decide (x < 0)))), (1, .one, limT (digs x.natAbs))]) (rest := []) rfl
theorem dia_row {sv : Option Nat} {T : TypeId} {cap n j : Nat} {v : Nat → Int} : Own.le (sliO sv T (.agg 2) cap n (upd (fun _ => bigT 0) j (bigT (v j)))) (sliO sv T (.agg 2) cap n (fun q => bigT (diaF v j q))) := sliO_eq fun q _ => by
  unfold upd diaF
  by_cases h : q = j
  · rw [if_pos h, if_pos h]
  · rw [if_neg h, if_neg h]
abbrev VecS (n : Nat) : Type := { p : Option Nat × Nat // p.1 = none → n = 0 }
attribute [local irreducible] Tor.J Tor.PJ Tor.StepO Tor.one Tor.slT Tor.ptrT Tor.aggT Tor.tupT Tor.exT Tor.andT Tor.eP Tor.boxO Tor.sliO Tor.slV Tor.VT.le Tor.Ret Tor.anyT
attribute [local irreducible] bigT
set_option maxHeartbeats 4000000 in
theorem s6Vec0_ok (n : Nat) (hn' : n ≤ 1048576) : OkM Try.prog 28 [one (.slice none 0 0), one (.int .i64 (n : Nat))] (fun p : VecS n => one (slV p.1.1 n p.1.2)) (fun p => [sliO p.1.1 32 (.agg 2) p.1.2 n (fun _ => bigT 0)]) := by
  refine OkM.enter Try.func28 rfl Try.ntmps28 rfl (fun w O => ?_)
  refine J_seq (J_reg (st (s_assign rfl) rfl (Run.nil (pj_then (J_seq (J_reg (stSO (n := 0) rfl rfl rfl rfl rfl ?_)))))))
  refine PartsK.nil (fun bl => ?_)
  refine st (s_assign rfl) rfl (Run.nil (pj_then (J_seq (J_seq (J_reg (st (s_assign rfl) rfl (Run.nil (pj_then (J_block ?_)))))))))
  refine J_sub (Γ' := [(0, _), (1, _), (4, _), (5, _), (6, _)]) (SubG.cons rfl (VT.le_refl _) (SubG.cons rfl (VT.le_refl _) (SubG.cons rfl (VT.le_refl _) (SubG.cons rfl (VT.le_refl _) (SubG.cons rfl (VT.le_refl _) (SubG.nil)))))) (SubM.refl _) ?_
  refine J_loopA (σ := Nat × Option Nat × Nat) (Γk := [(0, _), (1, _), (4, _)]) (SubG.cons rfl (VT.le_refl _) (SubG.cons rfl (VT.le_refl _) (SubG.cons rfl (VT.le_refl _) (SubG.nil)))) (fun s => [(6, one (.int .i64 (s.1 : Nat))), (5, one (slV s.2.1 s.1 s.2.2))]) (fun s M0 => (M0.set 0 (sliO s.2.1 32 (.agg 2) s.2.2 s.1 (fun _ => bigT 0)))) (fun s => s.1 ≤ n) (fun s => n - s.1) ((0, some bl, 0)) (Nat.zero_le _) (by repeat (first | exact SubG.refl _ | exact SubG.nil | refine SubG.cons rfl (VT.le_refl _) ?_ | (refine SubG.cons rfl (one_le ?_) ?_; (congr 1; first | omega | (simp; omega) | simp)))) (.keep (sliO_eq (fun q hq => absurd hq (Nat.not_lt_zero _))) (.nil)) (fun s hs => ?_)
  refine J_norm (Γ' := [(6, _), (5, _), (0, _), (1, _), (4, _)]) (M' := [_]) rfl rfl ?_
  obtain ⟨i, sv, cap⟩ := s
  dsimp only at hs ⊢
  by_cases hi : i < n
  · refine J_seq (J_seq (J_reg (st (s_move rfl) rfl (st (s_move rfl) rfl (st (sT (by omega) (s_lt rfl rfl)) rfl (Run.nil (pj_then (J_cond1 rfl (J_skip ?_)))))))))
    refine pj_then (J_seq (J_block (J_seq (J_reg (st (s_callk (s6zero_ok ) rfl trivial) rfl ?_)))))
    refine a_alloc (T := 32) rfl (ltN rfl) (fun b7 => ?_)
    refine a_storeB 0 rfl rfl rfl rfl rfl (leN rfl) rfl (Run.nil (pj_then (J_seq (J_seq (J_reg (st (s_move rfl) rfl (st (s_move rfl) rfl (st (s_lenN rfl) rfl (st (sF (by omega) (s_lt rfl rfl)) rfl ?_)))))))))
    refine Run.nil (pj_then (J_cond0 rfl (J_skip (pj_then (J_reg (st (s_move rfl) rfl (st (s_loadB 0 rfl rfl rfl) rfl (stS1 rfl rfl rfl rfl ?_))))))))
    (refine a_append 1 rfl rfl rfl (leN rfl) ?_ ?_ rfl (ltN rfl) (fun sv29 cap29 => ?_); omega; omega)
    refine st (s_assign rfl) rfl (Run.nil (pn_block (pj_then (J_reg (st (s_move rfl) rfl (st (s_addN _ 1 rfl rfl (by omega)) rfl (st (s_assign rfl) rfl (Run.nil ?_))))))))
    refine pj_roundM ((i + 1, sv29, cap29)) (hi) (by omega) (by repeat (first | exact SubG.refl _ | exact SubG.nil | refine SubG.cons rfl (VT.le_refl _) ?_ | (refine SubG.cons rfl (one_le ?_) ?_; (congr 1; first | omega | (simp; omega) | simp)))) (.drop (.keep (rowT_snoc (h := fun _ => 0) rfl) (.nil)))
  · have he : i = n := by omega
    subst he
    refine J_factM (i := 0) (F := sv = none → i = 0) rfl (fun g h hp he => sliO_none hp he) (fun hsv => ?_)
    refine J_seq (J_seq (J_reg (st (s_move rfl) rfl (st (s_move rfl) rfl (st (sF (by omega) (s_lt rfl rfl)) rfl (Run.nil (pj_then (J_cond0 rfl (J_exit ?_)))))))))
    refine px_then (px_then (px_block (pj_then (J_seq (J_reg (st (s_move rfl) rfl (st (s_assign rfl) rfl (Run.nil (pj_then ?_)))))))))
    refine J_ret ?_
    exact retM1 (⟨(sv, cap), hsv⟩ : VecS i) Try.results28 (.tmp rfl (VT.le_refl _)) (SubM.refl _)
set_option maxRecDepth 20000 in
set_option maxHeartbeats 8000000 in
theorem hadamardLaw_ok (r c : Nat) (l d : List Int) : Ok Try.prog 4 [rawInT r c l, numT .i8 d] (one (.bool true)) := by
  have hs := sanity_ok
  obtain ⟨n, hn⟩ : ∃ n, n = r % 5 := ⟨_, rfl⟩
  have hn4 : n ≤ 4 := by omega
  have hsz := s6Sized_ok r c l n n (by omega) (by omega)
  have aF := sizF_abs n l
  generalize sizF n l = F at *
  have mF : ∀ i j, mod4 (F i j) := fun i j => Nat.le_trans (aF i j) (by decide +kernel)
  have hl : ∀ i, i < n → lenN n (F i) ≤ 324 := fun i _ => len4 hn4 aF i
  have hH := Hadamard_ok n F 324 (by omega) mF (by decide) (pow4 hn4) hl
  rw [srt_prod] at hH
  have hLen : ∀ i, i < n → Ok Try.prog 22 [rowF n (F i)] (bigT (lenN n (F i) : Int)) := fun i hi => s9Length_ok n (F i) (by omega) (mF i) (Nat.lt_of_le_of_lt (hl i hi) (by decide +kernel))
  have hP : ∀ k, k ≤ n → prN k (fun i => lenN n (F i)) ≤ 324 ^ 4 := fun k hk => Nat.le_trans (prN_le hl k hk) (Nat.pow_le_pow_right (n := 324) (i := k) (j := 4) (by decide) (by omega))
  have hR := s9Rows_ok n n F (by omega)
  have dB : ∀ k, k ≤ 4 → dZ 9 k ≤ 2 ^ 400 := by decide +kernel
  have hDet := s9Det_ok 9 n F (by omega) aF (fun k hk => dB k (by omega)) (by decide +kernel)
  have hle := det_upN n F
  have hP4 := hP n (Nat.le_refl n)
  have hb1 := upN_ge (prN n (fun i => lenN n (F i)))
  have hb2 := fun h => upN_lt (a := prN n (fun i => lenN n (F i))) h
  have hbs : upN (prN n (fun i => lenN n (F i))) ≤ 324 ^ 4 := by
    have h1 : upN (prN n (fun i => lenN n (F i))) ≤ upN (324 ^ 4) := upN_le hP4
    have h2 : upN (324 ^ 4) = 324 ^ 2 := upN_unique (by decide) (fun t ht => by
      have := Nat.mul_lt_mul_of_lt_of_le ht (Nat.le_of_lt ht) (by decide)
      exact Nat.lt_of_lt_of_le this (by decide))
    rw [h2] at h1
    exact Nat.le_trans h1 (by decide)
  have hv := s6Vec_ok d n (by omega)
  have av : ∀ i, (dig d i).natAbs ≤ 9 := fun i => digD_abs d i
  generalize dig d = v at *
  have hD := Hadamard_ok n (diaF v) 324 (by omega) (fun i j => by
    unfold diaF; split
    · exact Nat.le_trans (av _) (by decide +kernel)
    · exact Nat.zero_le _) (by decide) (pow4 hn4) (fun i _ => len4 hn4 (fun i j => by
    unfold diaF; split
    · exact av _
    · exact Nat.zero_le _) i)
  rw [upN_dia] at hD
  generalize upN (prN n (fun i => lenN n (F i))) = b at *
  have sb : small (b : Int) := small_le (n := 324 ^ 4) hbs (by decide +kernel)
  have hVa := rValidI_ok (b : Int) sb
  have hSg := rSignI_ok (b : Int)
  have hsg : sgnI (b : Int) = if b = 0 then 0 else 1 := by unfold sgnI; by_cases h : b = 0; (rw [if_pos (by omega), if_pos h]); (rw [if_neg (by omega), if_neg (by omega), if_neg h])
  rw [hsg] at hSg
  clear hsg
  subst hn
  unfold rawInT at hsz ⊢
  refine Ok.enter Try.func4 rfl Try.ntmps4 rfl (fun w O => ?_)
  refine J_seq (J_reg ?_)
  refine a_boxS rfl rfl (ltN rfl) (fun b2 => ?_)
  refine st (s_assign rfl) rfl (Run.nil (pj_then (J_seq (J_reg (st (s_callk (hs ) rfl trivial) rfl (st (s_assign rfl) rfl (Run.nil (pj_then (J_seq ?_)))))))))
  refine J_reg (st (s_fieldAddr rfl) rfl (st (s_loadB 0 rfl rfl rfl) rfl (st (s_remN 5 rfl rfl rfl (by decide)) rfl (st (s_toI64 rfl (by omega) (by omega)) rfl (st (s_assign rfl) rfl (Run.nil (pj_then (J_seq (J_reg ?_)))))))))
  refine st (s_loadW 0 rfl rfl) rfl (st (s_move rfl) rfl (st (s_move rfl) rfl ?_))
  refine st (s_callk (hsz ) rfl ⟨VT.le_refl _, VT.le_refl _, VT.le_refl _, trivial⟩) rfl ?_
  refine a_allocS (T := 28) rfl rfl rfl (fun b7 => ?_)
  refine a_storeW 0 rfl rfl rfl rfl (Run.nil (pj_then (J_seq (J_reg (st (s_loadW 0 rfl rfl) rfl ?_)))))
  refine st (s_callk (hH ) rfl ⟨VT.le_refl _, trivial⟩) rfl ?_
  refine st (s_move rfl) rfl (st (s_extract rfl rfl) rfl (st (s_extract rfl rfl) rfl ?_))
  refine a_alloc (T := 32) rfl (ltN rfl) (fun b8 => ?_)
  refine a_storeB 0 rfl rfl rfl rfl rfl (leN rfl) rfl (st (s_assign rfl) rfl (Run.nil (pj_then (J_seq (J_seq (J_reg (st (s_move rfl) rfl (st (sF (by omega) (s_ne rfl rfl)) rfl (st (s_move rfl) rfl ?_)))))))))
  refine sg1 rfl rfl (s_loadB 0 rfl rfl rfl) rfl ?_
  refine sg1 rfl rfl (s_callk (hVa ) rfl ⟨VT.le_refl _, trivial⟩) rfl ?_
  refine sg1 rfl rfl (s_not rfl) rfl (st (s_pickF rfl rfl) rfl (st (s_move rfl) rfl (sg1 rfl rfl (s_loadB 0 rfl rfl rfl) rfl ?_)))
  refine sg1 rfl rfl (s_callk (hSg ) rfl ⟨VT.le_refl _, trivial⟩) rfl ?_
  refine sg1 rfl rfl (sF (by omega) (s_lt rfl rfl)) rfl (st (s_pickF rfl rfl) rfl (Run.nil (pj_then (J_cond0 rfl (J_skip (pj_then (J_seq (J_reg ?_))))))))
  refine st (s_callk (rOf_ok _ (by omega) (by omega)) rfl ⟨VT.le_refl _, trivial⟩) rfl ?_
  refine a_alloc (T := 32) rfl (ltN rfl) (fun b10 => ?_)
  refine a_storeB 0 rfl rfl rfl rfl rfl (leN rfl) rfl (Run.nil (pj_then (J_seq (J_seq (J_reg (st (s_assign rfl) rfl (Run.nil (pj_then (J_block ?_)))))))))
  generalize r % 5 = n at *
  refine J_sub (Γ' := [(1, _), (4, _), (5, _), (6, _), (7, _), (8, _), (10, _), (11, _)]) (SubG.cons rfl (VT.le_refl _) (SubG.cons rfl (VT.le_refl _) (SubG.cons rfl (VT.le_refl _) (SubG.cons rfl (VT.le_refl _) (SubG.cons rfl (VT.le_refl _) (SubG.cons rfl (VT.le_refl _) (SubG.cons rfl (VT.le_refl _) (SubG.cons rfl (VT.le_refl _) (SubG.nil))))))))) (SubM.refl _) ?_
  refine J_loopA (σ := Nat) (Γk := [(1, _), (4, _), (5, _), (6, _), (7, _), (8, _), (10, _)]) (SubG.cons rfl (VT.le_refl _) (SubG.cons rfl (VT.le_refl _) (SubG.cons rfl (VT.le_refl _) (SubG.cons rfl (VT.le_refl _) (SubG.cons rfl (VT.le_refl _) (SubG.cons rfl (VT.le_refl _) (SubG.cons rfl (VT.le_refl _) (SubG.nil)))))))) (fun i => [(11, one (.int .i64 (i : Nat)))]) (fun i M0 => (M0.set 0 (boxO b10 32 2 [(0, .agg 2, bigT (prN i (fun q => lenN n (F q)) : Int))]))) (fun i => i ≤ n) (fun i => n - i) (0) (Nat.zero_le _) (by repeat (first | exact SubG.refl _ | exact SubG.nil | refine SubG.cons rfl (VT.le_refl _) ?_ | (refine SubG.cons rfl (one_le ?_) ?_; (congr 1; first | omega | (simp; omega) | simp)))) (.keep (Own.le_refl _) (.keep (Own.le_refl _) (.keep (Own.le_refl _) (.keep (Own.le_refl _) (.nil))))) (fun i hi => ?_)
  refine J_norm (Γ' := [(11, _), (1, _), (4, _), (5, _), (6, _), (7, _), (8, _), (10, _)]) (M' := [_, _, _, _]) rfl rfl ?_
  by_cases hi : i < n
  · have hL := hLen i hi
    have hp1 := hP i (by omega)
    have hli := hl i hi
    have hm := rMulI_ok (prN i (fun q => lenN n (F q)) : Int) (lenN n (F i) : Int) (small_le (n := 324 ^ 4) hp1 (by decide +kernel)) (small_le (n := 324) hli (by decide +kernel))
    have hps : ((prN (i + 1) (fun q => lenN n (F q)) : Nat) : Int) = (prN i (fun q => lenN n (F q)) : Int) * (lenN n (F i) : Int) := Int.natCast_mul _ _
    rw [← hps] at hm
    refine J_seq (J_seq (J_reg (st (s_move rfl) rfl (st (s_move rfl) rfl (st (sT (by omega) (s_lt rfl rfl)) rfl (Run.nil (pj_then (J_cond1 rfl (J_skip ?_)))))))))
    refine pj_then (J_seq (J_block (J_regd 8 mixed (by kernel_rfl) (by decide) (st (s_loadB 0 rfl rfl rfl) rfl (st (s_fieldAddr rfl) rfl (st (s_loadB 2 rfl rfl rfl) rfl (st (s_move rfl) rfl (st (s_indexIN rfl rfl (by omega)) rfl (st (s_load rfl) rfl ?_)))))))))
    refine st (s_callk (hLen _ (by assumption)) rfl ⟨VT.le_refl _, trivial⟩) rfl ?_
    refine st (s_callk (hm ) rfl ⟨VT.le_refl _, VT.le_refl _, trivial⟩) rfl ?_
    refine Run.nil (a_storeB 0 rfl rfl rfl rfl rfl (leN rfl) rfl (Run.nil (pn_block (pj_then (J_reg (st (s_move rfl) rfl (st (s_addN _ 1 rfl rfl (by omega)) rfl (st (s_assign rfl) rfl (Run.nil ?_)))))))))
    refine pj_roundM (i + 1) (by omega) (by omega) (by repeat (first | exact SubG.refl _ | exact SubG.nil | refine SubG.cons rfl (VT.le_refl _) ?_ | (refine SubG.cons rfl (one_le ?_) ?_; (congr 1; first | omega | (simp; omega) | simp)))) (.keep (Own.le_refl _) (.keep (Own.le_refl _) (.keep (Own.le_refl _) (.keep (Own.le_refl _) (.nil)))))
  have he : i = n := by omega
  subst he
  have hdl : (digs (Lin.detZ i F).natAbs).length ≤ 1099511627776 := small_le (x := Lin.detZ i F) (n := 324 ^ 4) (Nat.le_trans hle hbs) (by decide +kernel)
  have hMd := rMade_ok false (Lin.detZ i F).natAbs
  rw [if_neg (by decide)] at hMd
  generalize Lin.detZ i F = dt at *
  have hc1 := rCmpI_ok (dt.natAbs : Int) (b : Int) (small_le (n := 324 ^ 4) (Nat.le_trans hle hbs) (by decide +kernel)) sb
  have hc1' : ¬ 0 < cmpI (dt.natAbs : Int) (b : Int) := fun h => by have := gtc.1 h; omega
  have hbb : small ((b : Int) * b) := small_le (n := 324 ^ 8) (by rw [Int.natAbs_mul]; exact Nat.le_trans (Nat.mul_le_mul hbs hbs) (by decide +kernel)) (by decide +kernel)
  have hm1 := rMulI_ok (b : Int) (b : Int) sb sb
  have sP : small (prN i (fun q => lenN i (F q)) : Int) := small_le (n := 324 ^ 4) hP4 (by decide +kernel)
  have hc2 := rCmpI_ok ((b : Int) * b) (prN i (fun q => lenN i (F q)) : Int) hbb sP
  have hc2' : ¬ cmpI ((b : Int) * b) (prN i (fun q => lenN i (F q)) : Int) < 0 := fun h => by
    have := ltc.1 h
    rw [← Int.natCast_mul] at this
    omega
  have h1 := rOf_ok 1 (by decide) (by decide)
  have hsu := rSubI_ok (b : Int) 1 sb small_one
  have hls : ((b : Int) - 1).natAbs ≤ 324 ^ 4 := by omega
  have sl : small ((b : Int) - 1) := small_le (n := 324 ^ 4) hls (by decide +kernel)
  have hm2 := rMulI_ok ((b : Int) - 1) ((b : Int) - 1) sl sl
  have hll : small (((b : Int) - 1) * ((b : Int) - 1)) := small_le (n := 324 ^ 8) (by rw [Int.natAbs_mul]; exact Nat.le_trans (Nat.mul_le_mul hls hls) (by decide +kernel)) (by decide +kernel)
  have hc3 := rCmpI_ok (((b : Int) - 1) * ((b : Int) - 1)) (prN i (fun q => lenN i (F q)) : Int) hll sP
  have hc3' : 0 < b → cmpI (((b : Int) - 1) * ((b : Int) - 1)) (prN i (fun q => lenN i (F q)) : Int) < 0 := fun h => ltc.2 (by
    have := hb2 h
    obtain ⟨e, rfl⟩ : ∃ e, b = e + 1 := ⟨b - 1, by omega⟩
    rw [Nat.add_sub_cancel] at this
    rw [show (((e + 1 : Nat) : Int) - 1) = (e : Int) by omega, ← Int.natCast_mul]
    omega)
  generalize cmpI (((b : Int) - 1) * ((b : Int) - 1)) (prN i (fun q => lenN i (F q)) : Int) = k3 at *
  generalize cmpI ((b : Int) * b) (prN i (fun q => lenN i (F q)) : Int) = k2 at *
  generalize cmpI (dt.natAbs : Int) (b : Int) = k1 at *
  generalize ((b : Int) - 1) * ((b : Int) - 1) = ll at *
  generalize (b : Int) * b = bb at *
  refine J_seq (J_seq (J_reg (st (s_move rfl) rfl (st (s_move rfl) rfl (st (sF (by omega) (s_lt rfl rfl)) rfl (Run.nil (pj_then (J_cond0 rfl (J_exit ?_)))))))))
  refine px_then (px_then (px_block (pj_then (J_seq (J_reg (st (s_loadW 2 rfl rfl) rfl ?_))))))
  refine st (s_callk (hR ) rfl ⟨VT.le_refl _, trivial⟩) rfl ?_
  refine st (s_callk (hDet ) rfl ⟨VT.le_refl _, trivial⟩) rfl ?_
  refine a_alloc (T := 32) rfl (ltN rfl) (fun b12 => ?_)
  refine a_storeB 0 rfl rfl rfl rfl rfl (leN rfl) rfl (Run.nil (pj_then (J_seq (J_sub (SubG.refl _) (.keep big_box (SubM.refl _)) ?_))))
  by_cases hb0 : b = 0
  · rw [if_pos hb0] at hSg
    refine J_regU2 mixed (by kernel_rfl) (by kernel_rfl) ?_
    refine ux (fun B => s_loadB 2 rfl rfl rfl) rfl rfl ?_
    refine uxk (h1 ) rfl ⟨VT.le_refl _, trivial⟩ rfl ?_
    refine uxk (hsu ) rfl ⟨VT.le_refl _, VT.le_refl _, trivial⟩ rfl ?_
    refine ua rfl (us rfl ?_)
    refine RunU.nil (fun γ => ?_)
    refine PJ_normM (M' := [_, _, _, _, _, _]) rfl (pj_then (J_seq (J_seq (J_regd 27 mixed (by kernel_rfl) (by decide) (st (s_loadB 3 rfl rfl rfl) rfl (st (s_loadB 3 rfl rfl rfl) rfl ?_))))))
    refine st (s_callk (hm1 ) rfl ⟨VT.le_refl _, VT.le_refl _, trivial⟩) rfl ?_
    refine st (s_loadB 2 rfl rfl rfl) rfl ?_
    refine st (s_callk (hc2 ) rfl ⟨VT.le_refl _, VT.le_refl _, trivial⟩) rfl ?_
    refine st (sF (by assumption) (s_lt rfl rfl)) rfl (st (s_move rfl) rfl (sg1 rfl rfl (s_loadB 3 rfl rfl rfl) rfl ?_))
    refine sg1 rfl rfl (s_callk (hSg ) rfl ⟨VT.le_refl _, trivial⟩) rfl ?_
    refine sg1 rfl rfl (sF (by omega) (s_gt rfl rfl)) rfl (sg1 rfl rfl (s_move rfl) rfl (sn0 rfl rfl rfl rfl rfl (sn0 rfl rfl rfl rfl rfl (sn0 rfl rfl rfl rfl rfl (sn0 rfl rfl rfl rfl rfl (sn0 rfl rfl rfl rfl rfl (sn0 rfl rfl rfl rfl rfl (sg1 rfl rfl (s_pickF rfl rfl) rfl (st (s_pickF rfl rfl) rfl ?_)))))))))
    refine st (s_move rfl) rfl (sg1 rfl rfl (s_fieldAddr rfl) rfl (sg1 rfl rfl (s_loadB 1 rfl rfl rfl) rfl ?_))
    refine sg1 rfl rfl (s_callk (hMd ) rfl ⟨(natS_digs hdl), VT.le_refl _, trivial⟩) rfl ?_
    refine sg1 rfl rfl (s_loadB 3 rfl rfl rfl) rfl ?_
    refine sg1 rfl rfl (s_callk (hc1 ) rfl ⟨VT.le_refl _, VT.le_refl _, trivial⟩) rfl ?_
    refine sg1 rfl rfl (sF (by assumption) (s_gt rfl rfl)) rfl (st (s_pickF rfl rfl) rfl (Run.nil (Run.nil (pj_then (J_cond0 rfl (J_skip (pj_then (J_seq (J_reg ?_)))))))))
    refine st (s_move rfl) rfl (st (s_move rfl) rfl ?_)
    refine st (s_callk (hv ) rfl ⟨VT.le_refl _, VT.le_refl _, trivial⟩) rfl ?_
    refine st (s_assign rfl) rfl (Run.nil (pj_then (J_seq (J_reg (st (s_move rfl) rfl (st (s_move rfl) rfl (stB rfl rfl rfl (BuildK.cons rfl rfl rfl (BuildK.cons rfl rfl rfl ?_)))))))))
    refine BuildK.nil ?_
    refine a_allocS (T := 28) rfl rfl rfl (fun b15 => ?_)
    refine a_storeW 0 rfl rfl rfl rfl (Run.nil (pj_then (J_seq (J_reg ?_))))
    refine st (s_callk (h1 ) rfl ⟨VT.le_refl _, trivial⟩) rfl ?_
    refine a_alloc (T := 32) rfl (ltN rfl) (fun b16 => ?_)
    refine a_storeB 0 rfl rfl rfl rfl rfl (leN rfl) rfl (Run.nil (pj_then (J_seq (J_seq (J_reg (st (s_assign rfl) rfl (Run.nil (pj_then (J_block ?_)))))))))
    refine J_conv (ConvM.nilSl0 (T := 48) (L := .one) (φ := fun _ => anyT) _) ?_
    refine J_sub (Γ' := [(4, _), (5, _), (6, _), (14, _), (15, _), (16, _), (17, _)]) (SubG.cons rfl (VT.le_refl _) (SubG.cons rfl (VT.le_refl _) (SubG.cons rfl (VT.le_refl _) (SubG.cons rfl (VT.le_refl _) (SubG.cons rfl (VT.le_refl _) (SubG.cons rfl (VT.le_refl _) (SubG.cons rfl (VT.le_refl _) (SubG.nil)))))))) (SubM.refl _) ?_
    refine J_loopA (σ := Nat × Option Nat × Nat) (Γk := [(4, _), (5, _), (6, _), (14, _), (15, _), (16, _)]) (SubG.cons rfl (VT.le_refl _) (SubG.cons rfl (VT.le_refl _) (SubG.cons rfl (VT.le_refl _) (SubG.cons rfl (VT.le_refl _) (SubG.cons rfl (VT.le_refl _) (SubG.cons rfl (VT.le_refl _) (SubG.nil))))))) (fun s => [(17, one (.int .i64 (s.1 : Nat)))]) (fun s M0 => (((M0.set 2 (boxO b15 28 3 [(0, .one, one (.int .i64 (i : Nat))), (1, .one, one (.int .i64 (i : Nat))), (2, .one, one (slV s.2.1 s.1 s.2.2))])).set 1 (boxO b16 32 2 [(0, .agg 2, bigT (prZ s.1 v))])).set 0 (sliO s.2.1 48 .one s.2.2 s.1 (fun q => rowF i (diaF v q))))) (fun s => s.1 ≤ i) (fun s => i - s.1) ((0, none, 0)) (Nat.zero_le _) (by repeat (first | exact SubG.refl _ | exact SubG.nil | refine SubG.cons rfl (VT.le_refl _) ?_ | (refine SubG.cons rfl (one_le ?_) ?_; (congr 1; first | omega | (simp; omega) | simp)))) (.keep (sliO_eq (fun q hq => absurd hq (Nat.not_lt_zero _))) (.keep (Own.le_refl _) (.keep (box3_nil) (.keep (Own.le_refl _) (.keep (Own.le_refl _) (.keep (Own.le_refl _) (.keep (Own.le_refl _) (.keep (Own.le_refl _) (.keep (Own.le_refl _) (.nil)))))))))) (fun s hs => ?_)
    refine J_norm (Γ' := [(17, _), (4, _), (5, _), (6, _), (14, _), (15, _), (16, _)]) (M' := [_, _, _, _, _, _, _, _, _]) rfl rfl ?_
    obtain ⟨j, sv, cap⟩ := s
    dsimp only at hs ⊢
    by_cases hj : j < i
    · have hvj := av j
      have hpa := prZ_abs av j
      have hpl : (prZ j v).natAbs ≤ 9 ^ 4 := Nat.le_trans hpa (Nat.pow_le_pow_right (n := 9) (i := j) (j := 4) (by decide) (by omega))
      have hmv := rMulI_ok (prZ j v) (v j) (small_le (n := 9 ^ 4) hpl (by decide +kernel)) (small_le (n := 9) hvj (by decide +kernel))
      have hpz : prZ (j + 1) v = prZ j v * v j := rfl
      rw [← hpz] at hmv
      have hjs := s6Vec0_ok i (by omega)
      refine J_seq (J_seq (J_reg (st (s_move rfl) rfl (st (s_move rfl) rfl (st (sT (by omega) (s_lt rfl rfl)) rfl (Run.nil (pj_then (J_cond1 rfl (J_skip ?_)))))))))
      refine pj_then (J_seq (J_block (J_seq (J_reg (st (s_move rfl) rfl ?_)))))
      refine a_callM (hjs ) rfl ⟨VT.le_refl _, VT.le_refl _, trivial⟩ rfl rfl (fun s107 => ?_)
      refine st (s_assign rfl) rfl (Run.nil (pj_then (J_seq (J_reg (st (s_move rfl) rfl (st (s_move rfl) rfl (st (s_move rfl) rfl (st (s_move rfl) rfl (st (s_indexIN rfl rfl (by omega)) rfl ?_)))))))))
      refine st (s_load rfl) rfl ?_
      obtain ⟨⟨sv', cap'⟩, hsv'⟩ := s107
      obtain ⟨bo, e⟩ := sv_some hsv' (by omega)
      dsimp only at e ⊢
      subst e
      refine st (s_indexON rfl rfl (by omega)) rfl ?_
      (refine a_storeE 0 rfl rfl rfl ?_ rfl ?_; omega)
      refine Run.nil (pj_then (J_seq (J_reg (st (s_fieldAddr rfl) rfl (st (s_loadB 3 rfl rfl rfl) rfl (st (s_move rfl) rfl (stS1 rfl rfl rfl rfl ?_)))))))
      (refine a_append 1 rfl rfl rfl (leN rfl) ?_ ?_ rfl (ltN rfl) (fun sv119 cap119 => ?_); omega; omega)
      refine st (s_fieldAddr rfl) rfl (a_storeB 3 rfl rfl rfl rfl rfl (leN rfl) rfl (Run.nil (pj_then (J_regd 6 mixed (by kernel_rfl) (by decide) (st (s_loadB 2 rfl rfl rfl) rfl (st (s_move rfl) rfl (st (s_move rfl) rfl (st (s_indexIN rfl rfl (by omega)) rfl (st (s_load rfl) rfl ?_)))))))))
      refine st (s_callk (hmv ) rfl ⟨VT.le_refl _, VT.le_refl _, trivial⟩) rfl ?_
      refine Run.nil (a_storeB 2 rfl rfl rfl rfl rfl (leN rfl) rfl (Run.nil (pn_block (pj_then (J_reg (st (s_move rfl) rfl (st (s_addN _ 1 rfl rfl (by omega)) rfl (st (s_assign rfl) rfl (Run.nil ?_)))))))))
      refine PJ_sub (SubG.refl _) (.keep dia_row (SubM.refl _)) ?_
      refine PJ_open [_] (List.Perm.refl _) (.keep (rows_snoc_open (G := diaF v) List.mem_cons_self (fun q => rfl)) (EntM.refl _)) (EntG.refl _) ?_
      refine pj_roundM ((j + 1, sv119, cap119)) (by omega) (by omega) (by repeat (first | exact SubG.refl _ | exact SubG.nil | refine SubG.cons rfl (VT.le_refl _) ?_ | (refine SubG.cons rfl (one_le ?_) ?_; (congr 1; first | omega | (simp; omega) | simp)))) (.keep (Own.le_refl _) (.keep (Own.le_refl _) (.keep (Own.le_refl _) (.keep (Own.le_refl _) (.keep (Own.le_refl _) (.keep (Own.le_refl _) (.keep (Own.le_refl _) (.keep (Own.le_refl _) (.keep (Own.le_refl _) (.nil))))))))))
    · have hji : j = i := by omega
      subst hji
      refine J_open [_] (List.Perm.refl _) (.keep (EntO.refl _) (.keep (box3_open List.mem_cons_self) (EntM.refl _))) (EntG.refl _) ?_
      refine J_sub (SubG.refl _) (.keep big_box (SubM.refl _)) ?_
      have hpa := prZ_abs av j
      have hpl : (prZ j v).natAbs ≤ 9 ^ 4 := Nat.le_trans hpa (Nat.pow_le_pow_right (n := 9) (i := j) (j := 4) (by decide) (by omega))
      have hpd : (digs (prZ j v).natAbs).length ≤ 1099511627776 := small_le (n := 9 ^ 4) hpl (by decide +kernel)
      have hMp := rMade_ok false (prZ j v).natAbs
      rw [if_neg (by decide)] at hMp
      have hSa := rSame_ok ((prZ j v).natAbs : Int) ((prZ j v).natAbs : Int)
      rw [decide_eq_true rfl] at hSa
      refine J_seq (J_seq (J_reg (st (s_move rfl) rfl (st (s_move rfl) rfl (st (sF (by omega) (s_lt rfl rfl)) rfl (Run.nil (pj_then (J_cond0 rfl (J_exit ?_)))))))))
      refine px_then (px_then (px_block (pj_then (J_seq (J_reg (st (s_loadW 1 rfl rfl) rfl ?_))))))
      refine st (s_callk (hD ) rfl ⟨VT.le_refl _, trivial⟩) rfl ?_
      refine st (s_move rfl) rfl (st (s_extract rfl rfl) rfl (st (s_extract rfl rfl) rfl ?_))
      refine a_alloc (T := 32) rfl (ltN rfl) (fun b19 => ?_)
      refine a_storeB 0 rfl rfl rfl rfl rfl (leN rfl) rfl (st (s_assign rfl) rfl (Run.nil (pj_then (J_seq (J_regd 12 mixed (by kernel_rfl) (by decide) (st (s_move rfl) rfl (st (s_move rfl) rfl (sg1 rfl rfl (s_move rfl) rfl (sg1 rfl rfl (sT (by omega) (s_eq rfl rfl)) rfl ?_)))))))))
      refine st (s_pickT rfl rfl) rfl (st (s_move rfl) rfl (sg1 rfl rfl (s_loadB 0 rfl rfl rfl) rfl (sg1 rfl rfl (s_fieldAddr rfl) rfl (sg1 rfl rfl (s_loadB 1 rfl rfl rfl) rfl ?_))))
      refine sg1 rfl rfl (s_callk (hMp ) rfl ⟨(natS_digs hpd), VT.le_refl _, trivial⟩) rfl ?_
      refine sg1 rfl rfl (s_callk (hSa ) rfl ⟨VT.le_refl _, VT.le_refl _, trivial⟩) rfl ?_
      refine st (s_pickT rfl rfl) rfl (Run.nil (st (s_assign rfl) rfl (Run.nil (pj_then (J_ret ?_)))))
      refine retc1 Try.results4 (.tmp rfl (VT.le_refl _))
  · rw [if_neg hb0] at hSg
    have hc3' := hc3' (by omega)
    refine J_regU2 mixed (by kernel_rfl) (by kernel_rfl) ?_
    refine ux (fun B => s_loadB 2 rfl rfl rfl) rfl rfl ?_
    refine uxk (h1 ) rfl ⟨VT.le_refl _, trivial⟩ rfl ?_
    refine uxk (hsu ) rfl ⟨VT.le_refl _, VT.le_refl _, trivial⟩ rfl ?_
    refine ua rfl (us rfl ?_)
    refine RunU.nil (fun γ => ?_)
    refine PJ_normM (M' := [_, _, _, _, _, _]) rfl (pj_then (J_seq (J_seq (J_regd 27 mixed (by kernel_rfl) (by decide) (st (s_loadB 3 rfl rfl rfl) rfl (st (s_loadB 3 rfl rfl rfl) rfl ?_))))))
    refine st (s_callk (hm1 ) rfl ⟨VT.le_refl _, VT.le_refl _, trivial⟩) rfl ?_
    refine st (s_loadB 2 rfl rfl rfl) rfl ?_
    refine st (s_callk (hc2 ) rfl ⟨VT.le_refl _, VT.le_refl _, trivial⟩) rfl ?_
    refine st (sF (by assumption) (s_lt rfl rfl)) rfl (st (s_move rfl) rfl (sg1 rfl rfl (s_loadB 3 rfl rfl rfl) rfl ?_))
    refine sg1 rfl rfl (s_callk (hSg ) rfl ⟨VT.le_refl _, trivial⟩) rfl ?_
    refine sg1 rfl rfl (sT (by omega) (s_gt rfl rfl)) rfl (sg1 rfl rfl (s_move rfl) rfl (sg1 rfl rfl (s_loadB 0 rfl rfl rfl) rfl (sg1 rfl rfl (s_loadB 0 rfl rfl rfl) rfl ?_)))
    refine sg1 rfl rfl (s_callk (hm2 ) rfl ⟨VT.le_refl _, VT.le_refl _, trivial⟩) rfl ?_
    refine sg1 rfl rfl (s_loadB 2 rfl rfl rfl) rfl ?_
    refine sg1 rfl rfl (s_callk (hc3 ) rfl ⟨VT.le_refl _, VT.le_refl _, trivial⟩) rfl ?_
    refine sg1 rfl rfl (sF (by omega) (s_ge rfl rfl)) rfl (sg1 rfl rfl (s_pickT rfl rfl) rfl (st (s_pickF rfl rfl) rfl (st (s_move rfl) rfl (sg1 rfl rfl (s_fieldAddr rfl) rfl (sg1 rfl rfl (s_loadB 1 rfl rfl rfl) rfl ?_)))))
    refine sg1 rfl rfl (s_callk (hMd ) rfl ⟨(natS_digs hdl), VT.le_refl _, trivial⟩) rfl ?_
    refine sg1 rfl rfl (s_loadB 3 rfl rfl rfl) rfl ?_
    refine sg1 rfl rfl (s_callk (hc1 ) rfl ⟨VT.le_refl _, VT.le_refl _, trivial⟩) rfl ?_
    refine sg1 rfl rfl (sF (by assumption) (s_gt rfl rfl)) rfl (st (s_pickF rfl rfl) rfl (Run.nil (Run.nil (pj_then (J_cond0 rfl (J_skip (pj_then (J_seq (J_reg ?_)))))))))
    refine st (s_move rfl) rfl (st (s_move rfl) rfl ?_)
    refine st (s_callk (hv ) rfl ⟨VT.le_refl _, VT.le_refl _, trivial⟩) rfl ?_
    refine st (s_assign rfl) rfl (Run.nil (pj_then (J_seq (J_reg (st (s_move rfl) rfl (st (s_move rfl) rfl (stB rfl rfl rfl (BuildK.cons rfl rfl rfl (BuildK.cons rfl rfl rfl ?_)))))))))
    refine BuildK.nil ?_
    refine a_allocS (T := 28) rfl rfl rfl (fun b15 => ?_)
    refine a_storeW 0 rfl rfl rfl rfl (Run.nil (pj_then (J_seq (J_reg ?_))))
    refine st (s_callk (h1 ) rfl ⟨VT.le_refl _, trivial⟩) rfl ?_
    refine a_alloc (T := 32) rfl (ltN rfl) (fun b16 => ?_)
    refine a_storeB 0 rfl rfl rfl rfl rfl (leN rfl) rfl (Run.nil (pj_then (J_seq (J_seq (J_reg (st (s_assign rfl) rfl (Run.nil (pj_then (J_block ?_)))))))))
    refine J_conv (ConvM.nilSl0 (T := 48) (L := .one) (φ := fun _ => anyT) _) ?_
    refine J_sub (Γ' := [(4, _), (5, _), (6, _), (14, _), (15, _), (16, _), (17, _)]) (SubG.cons rfl (VT.le_refl _) (SubG.cons rfl (VT.le_refl _) (SubG.cons rfl (VT.le_refl _) (SubG.cons rfl (VT.le_refl _) (SubG.cons rfl (VT.le_refl _) (SubG.cons rfl (VT.le_refl _) (SubG.cons rfl (VT.le_refl _) (SubG.nil)))))))) (SubM.refl _) ?_
    refine J_loopA (σ := Nat × Option Nat × Nat) (Γk := [(4, _), (5, _), (6, _), (14, _), (15, _), (16, _)]) (SubG.cons rfl (VT.le_refl _) (SubG.cons rfl (VT.le_refl _) (SubG.cons rfl (VT.le_refl _) (SubG.cons rfl (VT.le_refl _) (SubG.cons rfl (VT.le_refl _) (SubG.cons rfl (VT.le_refl _) (SubG.nil))))))) (fun s => [(17, one (.int .i64 (s.1 : Nat)))]) (fun s M0 => (((M0.set 2 (boxO b15 28 3 [(0, .one, one (.int .i64 (i : Nat))), (1, .one, one (.int .i64 (i : Nat))), (2, .one, one (slV s.2.1 s.1 s.2.2))])).set 1 (boxO b16 32 2 [(0, .agg 2, bigT (prZ s.1 v))])).set 0 (sliO s.2.1 48 .one s.2.2 s.1 (fun q => rowF i (diaF v q))))) (fun s => s.1 ≤ i) (fun s => i - s.1) ((0, none, 0)) (Nat.zero_le _) (by repeat (first | exact SubG.refl _ | exact SubG.nil | refine SubG.cons rfl (VT.le_refl _) ?_ | (refine SubG.cons rfl (one_le ?_) ?_; (congr 1; first | omega | (simp; omega) | simp)))) (.keep (sliO_eq (fun q hq => absurd hq (Nat.not_lt_zero _))) (.keep (Own.le_refl _) (.keep (box3_nil) (.keep (Own.le_refl _) (.keep (Own.le_refl _) (.keep (Own.le_refl _) (.keep (Own.le_refl _) (.keep (Own.le_refl _) (.keep (Own.le_refl _) (.nil)))))))))) (fun s hs => ?_)
    refine J_norm (Γ' := [(17, _), (4, _), (5, _), (6, _), (14, _), (15, _), (16, _)]) (M' := [_, _, _, _, _, _, _, _, _]) rfl rfl ?_
    obtain ⟨j, sv, cap⟩ := s
    dsimp only at hs ⊢
    by_cases hj : j < i
    · have hvj := av j
      have hpa := prZ_abs av j
      have hpl : (prZ j v).natAbs ≤ 9 ^ 4 := Nat.le_trans hpa (Nat.pow_le_pow_right (n := 9) (i := j) (j := 4) (by decide) (by omega))
      have hmv := rMulI_ok (prZ j v) (v j) (small_le (n := 9 ^ 4) hpl (by decide +kernel)) (small_le (n := 9) hvj (by decide +kernel))
      have hpz : prZ (j + 1) v = prZ j v * v j := rfl
      rw [← hpz] at hmv
      have hjs := s6Vec0_ok i (by omega)
      refine J_seq (J_seq (J_reg (st (s_move rfl) rfl (st (s_move rfl) rfl (st (sT (by omega) (s_lt rfl rfl)) rfl (Run.nil (pj_then (J_cond1 rfl (J_skip ?_)))))))))
      refine pj_then (J_seq (J_block (J_seq (J_reg (st (s_move rfl) rfl ?_)))))
      refine a_callM (hjs ) rfl ⟨VT.le_refl _, VT.le_refl _, trivial⟩ rfl rfl (fun s107 => ?_)
      refine st (s_assign rfl) rfl (Run.nil (pj_then (J_seq (J_reg (st (s_move rfl) rfl (st (s_move rfl) rfl (st (s_move rfl) rfl (st (s_move rfl) rfl (st (s_indexIN rfl rfl (by omega)) rfl ?_)))))))))
      refine st (s_load rfl) rfl ?_
      obtain ⟨⟨sv', cap'⟩, hsv'⟩ := s107
      obtain ⟨bo, e⟩ := sv_some hsv' (by omega)
      dsimp only at e ⊢
      subst e
      refine st (s_indexON rfl rfl (by omega)) rfl ?_
      (refine a_storeE 0 rfl rfl rfl ?_ rfl ?_; omega)
      refine Run.nil (pj_then (J_seq (J_reg (st (s_fieldAddr rfl) rfl (st (s_loadB 3 rfl rfl rfl) rfl (st (s_move rfl) rfl (stS1 rfl rfl rfl rfl ?_)))))))
      (refine a_append 1 rfl rfl rfl (leN rfl) ?_ ?_ rfl (ltN rfl) (fun sv119 cap119 => ?_); omega; omega)
      refine st (s_fieldAddr rfl) rfl (a_storeB 3 rfl rfl rfl rfl rfl (leN rfl) rfl (Run.nil (pj_then (J_regd 6 mixed (by kernel_rfl) (by decide) (st (s_loadB 2 rfl rfl rfl) rfl (st (s_move rfl) rfl (st (s_move rfl) rfl (st (s_indexIN rfl rfl (by omega)) rfl (st (s_load rfl) rfl ?_)))))))))
      refine st (s_callk (hmv ) rfl ⟨VT.le_refl _, VT.le_refl _, trivial⟩) rfl ?_
      refine Run.nil (a_storeB 2 rfl rfl rfl rfl rfl (leN rfl) rfl (Run.nil (pn_block (pj_then (J_reg (st (s_move rfl) rfl (st (s_addN _ 1 rfl rfl (by omega)) rfl (st (s_assign rfl) rfl (Run.nil ?_)))))))))
      refine PJ_sub (SubG.refl _) (.keep dia_row (SubM.refl _)) ?_
      refine PJ_open [_] (List.Perm.refl _) (.keep (rows_snoc_open (G := diaF v) List.mem_cons_self (fun q => rfl)) (EntM.refl _)) (EntG.refl _) ?_
      refine pj_roundM ((j + 1, sv119, cap119)) (by omega) (by omega) (by repeat (first | exact SubG.refl _ | exact SubG.nil | refine SubG.cons rfl (VT.le_refl _) ?_ | (refine SubG.cons rfl (one_le ?_) ?_; (congr 1; first | omega | (simp; omega) | simp)))) (.keep (Own.le_refl _) (.keep (Own.le_refl _) (.keep (Own.le_refl _) (.keep (Own.le_refl _) (.keep (Own.le_refl _) (.keep (Own.le_refl _) (.keep (Own.le_refl _) (.keep (Own.le_refl _) (.keep (Own.le_refl _) (.nil))))))))))
    · have hji : j = i := by omega
      subst hji
      refine J_open [_] (List.Perm.refl _) (.keep (EntO.refl _) (.keep (box3_open List.mem_cons_self) (EntM.refl _))) (EntG.refl _) ?_
      refine J_sub (SubG.refl _) (.keep big_box (SubM.refl _)) ?_
      have hpa := prZ_abs av j
      have hpl : (prZ j v).natAbs ≤ 9 ^ 4 := Nat.le_trans hpa (Nat.pow_le_pow_right (n := 9) (i := j) (j := 4) (by decide) (by omega))
      have hpd : (digs (prZ j v).natAbs).length ≤ 1099511627776 := small_le (n := 9 ^ 4) hpl (by decide +kernel)
      have hMp := rMade_ok false (prZ j v).natAbs
      rw [if_neg (by decide)] at hMp
      have hSa := rSame_ok ((prZ j v).natAbs : Int) ((prZ j v).natAbs : Int)
      rw [decide_eq_true rfl] at hSa
      refine J_seq (J_seq (J_reg (st (s_move rfl) rfl (st (s_move rfl) rfl (st (sF (by omega) (s_lt rfl rfl)) rfl (Run.nil (pj_then (J_cond0 rfl (J_exit ?_)))))))))
      refine px_then (px_then (px_block (pj_then (J_seq (J_reg (st (s_loadW 1 rfl rfl) rfl ?_))))))
      refine st (s_callk (hD ) rfl ⟨VT.le_refl _, trivial⟩) rfl ?_
      refine st (s_move rfl) rfl (st (s_extract rfl rfl) rfl (st (s_extract rfl rfl) rfl ?_))
      refine a_alloc (T := 32) rfl (ltN rfl) (fun b19 => ?_)
      refine a_storeB 0 rfl rfl rfl rfl rfl (leN rfl) rfl (st (s_assign rfl) rfl (Run.nil (pj_then (J_seq (J_regd 12 mixed (by kernel_rfl) (by decide) (st (s_move rfl) rfl (st (s_move rfl) rfl (sg1 rfl rfl (s_move rfl) rfl (sg1 rfl rfl (sT (by omega) (s_eq rfl rfl)) rfl ?_)))))))))
      refine st (s_pickT rfl rfl) rfl (st (s_move rfl) rfl (sg1 rfl rfl (s_loadB 0 rfl rfl rfl) rfl (sg1 rfl rfl (s_fieldAddr rfl) rfl (sg1 rfl rfl (s_loadB 1 rfl rfl rfl) rfl ?_))))
      refine sg1 rfl rfl (s_callk (hMp ) rfl ⟨(natS_digs hpd), VT.le_refl _, trivial⟩) rfl ?_
      refine sg1 rfl rfl (s_callk (hSa ) rfl ⟨VT.le_refl _, VT.le_refl _, trivial⟩) rfl ?_
      refine st (s_pickT rfl rfl) rfl (Run.nil (st (s_assign rfl) rfl (Run.nil (pj_then (J_ret ?_)))))
      refine retc1 Try.results4 (.tmp rfl (VT.le_refl _))
end Tor
end
section
namespace Tor
theorem two_top {a b x y : Int} {T R : List Int} (hp : (a :: b :: T).Perm (x :: y :: R)) (hs : (a :: b :: T).Pairwise (fun p q => q ≤ p)) (hb : 0 ≤ b) (hx : 0 ≤ x) (hy : 0 ≤ y) : x * y ≤ a * b := by
  obtain ⟨h1, h2⟩ := List.pairwise_cons.1 hs
  obtain ⟨h3, _⟩ := List.pairwise_cons.1 h2
  have hba : b ≤ a := h1 b List.mem_cons_self
  have hlb : ∀ z ∈ b :: T, z ≤ b := fun z hz => by
    rcases List.mem_cons.1 hz with rfl | hz
    · exact Int.le_refl _
    · exact h3 z hz
  have hla : ∀ z ∈ a :: b :: T, z ≤ a := fun z hz => by
    rcases List.mem_cons.1 hz with rfl | hz
    · exact Int.le_refl _
    · exact h1 z hz
  have hxm : x ∈ a :: b :: T := hp.mem_iff.2 List.mem_cons_self
  have hym : y ∈ a :: b :: T := hp.mem_iff.2 (List.mem_cons_of_mem _ List.mem_cons_self)
  rcases List.mem_cons.1 hxm with rfl | hx2
  · have := (List.perm_cons x).1 hp
    have hy2 := hlb y (this.mem_iff.2 List.mem_cons_self)
    exact Int.mul_le_mul_of_nonneg_left hy2 hx
  · have hxb := hlb x hx2
    have hya := hla y hym
    rw [Int.mul_comm a b]
    exact Int.mul_le_mul hxb hya hy hb
theorem sort_two {n i j : Nat} {g : Nat → Int} (hg : ∀ i, 0 ≤ g i) (hi : i < n) (hj : j < n) (hij : i ≠ j) : g i * g j ≤ sortN n g 0 * sortN n g 1 := by
  have h0 : (lst n g).Perm (restL n g (fun _ => false)) := by
    unfold restL lst
    rw [List.filter_eq_self.2 (fun a _ => (rfl : (!(fun _ => false : Nat → Bool) a) = true))]
  have h1 := h0.trans (rest_pick (b := i) hi rfl)
  have h2 := h1.trans (List.Perm.cons _ (rest_pick (b := j) hj (by rw [if_neg (Ne.symm hij)])))
  have h3 := (sortN_perm g (Nat.le_refl n)).trans h2
  have hs := sort_pw n g
  have hlen := lst_len n (sortN n g)
  have hmem : ∀ x ∈ lst n (sortN n g), 0 ≤ x := fun x hx => by
    have := (sortN_perm g (Nat.le_refl n)).mem_iff.1 hx
    unfold lst at this
    obtain ⟨k, _, rfl⟩ := List.mem_map.1 this
    exact hg k
  have e0 : (lst n (sortN n g))[0]? = some (sortN n g 0) := by rw [List.getElem?_eq_getElem (by omega), lst_get]
  have e1 : (lst n (sortN n g))[1]? = some (sortN n g 1) := by rw [List.getElem?_eq_getElem (by omega), lst_get]
  match hL : lst n (sortN n g), hlen with
  | [], h => exact absurd h (by simp; omega)
  | [a], h => exact absurd h (by simp; omega)
  | a :: b :: T, _ =>
    rw [hL] at e0 e1 h3 hs hmem
    have e0 : a = sortN n g 0 := by simpa using e0
    have e1 : b = sortN n g 1 := by simpa using e1
    rw [← e0, ← e1]
    exact two_top h3 hs (hmem b (by simp)) (hg i) (hg j)
theorem sum_ge1 {c k : Nat} {f : Nat → Int} (hf : ∀ k, 0 ≤ f k) : k < c → f k ≤ sumF c f := by
  induction c with
  | zero => intro h; exact absurd h (Nat.not_lt_zero _)
  | succ c ih =>
    intro h
    have hs : 0 ≤ sumF c f := by
      clear ih h
      induction c with
      | zero => exact Int.le_refl _
      | succ c ih => rw [sumF]; have := hf c; omega
    rw [sumF]
    have := hf c
    rcases Nat.lt_or_ge k c with h1 | h1
    · have := ih h1; omega
    · rw [show k = c by omega]; omega
theorem sum_ge2 {c k l : Nat} {f : Nat → Int} (hf : ∀ k, 0 ≤ f k) (hl : l < k) : k < c → f k + f l ≤ sumF c f := by
  induction c with
  | zero => intro h; exact absurd h (Nat.not_lt_zero _)
  | succ c ih =>
    intro h
    rw [sumF]
    have := hf c
    rcases Nat.lt_or_ge k c with h1 | h1
    · have := ih h1; omega
    · have := sum_ge1 (f := f) hf (show l < c by omega); rw [show k = c by omega]; omega
theorem min_one {r c i k : Nat} {F : Nat → Nat → Int} (hi : i < r) (hk : k < c) : (F i k).natAbs ≤ upN (prN 1 (srtN r c F)) := by
  refine le_upN (sq_abs ?_)
  have h1 : F i k * F i k ≤ sumF c (fun k => F i k * F i k) := sum_ge1 (f := fun k => F i k * F i k) (fun k => sqZ_nonneg _) hk
  rw [← lenN_eq] at h1
  have h2 := sort_top (n := r) (g := fun i => (lenN c (F i) : Int)) hi
  rw [← srtN_cast (show 0 < r by omega)] at h2
  show _ ≤ ((1 * srtN r c F 0 : Nat) : Int)
  rw [Nat.one_mul]
  exact Int.le_trans h1 h2
theorem min_two {r c i j k l : Nat} {F : Nat → Nat → Int} (hi : i < r) (hj : j < i) (hk : k < c) (hl : l < k) : (F i k * F j l - F i l * F j k).natAbs ≤ upN (prN 2 (srtN r c F)) := by
  refine le_upN (sq_abs ?_)
  have h1 : F i k * F i k + F i l * F i l ≤ sumF c (fun k => F i k * F i k) := sum_ge2 (f := fun k => F i k * F i k) (fun k => sqZ_nonneg _) hl hk
  have h2 : F j k * F j k + F j l * F j l ≤ sumF c (fun k => F j k * F j k) := sum_ge2 (f := fun k => F j k * F j k) (fun k => sqZ_nonneg _) hl hk
  rw [← lenN_eq] at h1 h2
  have h3 := sort_two (n := r) (g := fun i => (lenN c (F i) : Int)) (fun i => Int.natCast_nonneg _) hi (show j < r by omega) (by omega)
  rw [← srtN_cast (show 0 < r by omega), ← srtN_cast (show 1 < r by omega)] at h3
  have e : ((prN 2 (srtN r c F) : Nat) : Int) = (srtN r c F 0 : Int) * (srtN r c F 1 : Int) := by
    show ((1 * srtN r c F 0 * srtN r c F 1 : Nat) : Int) = _
    rw [Nat.one_mul, Int.natCast_mul]
  rw [e]
  refine Int.le_trans ?_ h3
  have n1 := sqZ_nonneg (F i k)
  have n2 := sqZ_nonneg (F i l)
  have n3 := sqZ_nonneg (F j k)
  have n4 := sqZ_nonneg (F j l)
  have h4 := Int.mul_le_mul h1 h2 (by omega) (by omega)
  refine Int.le_trans ?_ h4
  have h5 := sqZ_nonneg (F i k * F j k + F i l * F j l)
  have e2 : (F i k * F i k + F i l * F i l) * (F j k * F j k + F j l * F j l) = (F i k * F j l - F i l * F j k) * (F i k * F j l - F i l * F j k) + (F i k * F j k + F i l * F j l) * (F i k * F j k + F i l * F j l) := by grind
  rw [e2]; omega
def minZ (r c : Nat) (F : Nat → Nat → Int) (k : Int) : Int := if k ≤ 0 then 1 else if (r : Int) < k then 0 else (upN (prN k.toNat (srtN r c F)) : Int)
end Tor
end
section
namespace Tor
open Go Go.RowKit Go.Proofs
theorem minorA_ok (r c : Nat) (F : Nat → Nat → Int) (k : Int) (B : Nat) (hr : r ≤ 12) (hc : c ≤ 1048576) (hF : ∀ i j, mod4 (F i j)) (hB : 1 ≤ B) (hn : B ^ r < 2 ^ 800) (hl : ∀ i, i < r → lenN c (F i) ≤ B) :
    Ok Try.prog 14 [matF r c F, one (.int .i64 k)] (bigT (minZ r c F k)) := by
  unfold minZ
  by_cases h1 : k ≤ 0
  · rw [if_pos h1]; exact MinorL_ok r c F k h1
  · rw [if_neg h1]
    by_cases h2 : (r : Int) < k
    · rw [if_pos h2]; exact MinorG_ok r c F k h2 (by omega)
    · rw [if_neg h2]
      have := Minor_ok r c F k.toNat B hr hc (by omega) (by omega) hF hB hn hl
      rwa [Int.toNat_of_nonneg (by omega)] at this
theorem s9minorA_ok (r c : Nat) (F : Nat → Nat → Int) (k : Int) (B : Nat) (hr : r ≤ 12) (hc : c ≤ 1048576) (hF : ∀ i j, mod4 (F i j)) (hB : 1 ≤ B) (hn : B ^ r < 2 ^ 800) (hl : ∀ i, i < r → lenN c (F i) ≤ B) :
    Ok Try.prog 15 [matF r c F, one (.int .i64 k)] (bigT (minZ r c F k)) := by
  unfold minZ
  by_cases h1 : k ≤ 0
  · rw [if_pos h1]; exact s9MinorL_ok r c F k h1
  · rw [if_neg h1]
    by_cases h2 : (r : Int) < k
    · rw [if_pos h2]; exact s9MinorG_ok r c F k h2 (by omega)
    · rw [if_neg h2]
      have := s9Minor_ok r c F k.toNat B (by omega) hc (by omega) (by omega) hF hB hn hl
      rwa [Int.toNat_of_nonneg (by omega)] at this
theorem upN_4 {a : Nat} (h : a ≤ 324 ^ 4) : upN a ≤ 324 ^ 4 := by
  refine Nat.le_trans (upN_le h) ?_
  rw [upN_unique (a := 324 ^ 4) (s := 324 ^ 2) (by decide) (fun t ht => Nat.lt_of_lt_of_le (Nat.mul_lt_mul_of_lt_of_le ht (Nat.le_of_lt ht) (by decide)) (by decide))]
  decide
theorem minZ_small {r c : Nat} {F : Nat → Nat → Int} {k : Int} (hr : r ≤ 4) (hl : ∀ i, i < r → lenN c (F i) ≤ 324) : small (minZ r c F k) := by
  unfold minZ
  split
  · exact small_one
  · split
    · exact small_le (n := 0) (Nat.le_refl _) (by decide +kernel)
    · refine small_le (n := 324 ^ 4) ?_ (by decide +kernel)
      exact upN_4 (Nat.le_trans (prN_le (fun i hi => srtN_le hl hi) k.toNat (by omega)) (Nat.pow_le_pow_right (n := 324) (i := k.toNat) (j := 4) (by decide) (by omega)))
theorem sm9 {x : Int} (h : x.natAbs ≤ 9) : small x := small_le h (by decide +kernel)
theorem mul9 {x y : Int} (hx : x.natAbs ≤ 9) (hy : y.natAbs ≤ 9) : (x * y).natAbs ≤ 81 := by rw [Int.natAbs_mul]; exact Nat.mul_le_mul hx hy
attribute [local irreducible] Tor.J Tor.PJ Tor.StepO Tor.one Tor.slT Tor.ptrT Tor.aggT Tor.tupT Tor.exT Tor.andT Tor.eP Tor.boxO Tor.sliO Tor.slV Tor.VT.le Tor.Ret Tor.anyT
set_option maxRecDepth 20000 in
set_option maxHeartbeats 8000000 in
theorem minorsLaw_ok (r0 c0 : Nat) (l : List Int) (hr0 : r0 ≤ 255) (hc0 : c0 ≤ 255) : Ok Try.prog 5 [rawInT r0 c0 l] (one (.bool true)) := by
  have hs := sanity_ok
  have hma := s6Made_ok r0 c0 l 4 hr0 hc0 (by decide)
  have hr : r0 % (4 + 1) ≤ 4 := by omega
  have hc : c0 % (4 + 1) ≤ 4 := by omega
  have aF := sizF_abs (c0 % (4 + 1)) l
  generalize sizF (c0 % (4 + 1)) l = F at *
  generalize r0 % (4 + 1) = r at *
  generalize c0 % (4 + 1) = c at *
  have mF : ∀ i j, mod4 (F i j) := fun i j => Nat.le_trans (aF i j) (by decide +kernel)
  have hl : ∀ i, i < r → lenN c (F i) ≤ 324 := fun i _ => len4 hc aF i
  have hM := fun k => minorA_ok r c F k 324 (by omega) (by omega) mF (by decide) (pow4 hr) hl
  have hMs : ∀ k, small (minZ r c F k) := fun k => minZ_small hr hl
  have hM1 := hM 1
  have hM2 := hM 2
  have hMr := hM r
  have sF : ∀ i j, (digs (F i j).natAbs).length ≤ 1099511627776 := fun i j => small_le (n := 9) (aF i j) (by decide +kernel)
  have hle1 : ∀ i k, i < r → k < c → ¬ minZ r c F 1 < ((F i k).natAbs : Int) := fun i k hi hk => by
    have := min_one (F := F) hi hk
    unfold minZ
    rw [if_neg (by decide), if_neg (by omega)]
    show ¬ ((upN (prN 1 (srtN r c F)) : Nat) : Int) < _
    omega
  have hle2 : ∀ i j k l, i < r → j < i → k < c → l < k → ¬ minZ r c F 2 < ((F i k * F j l - F i l * F j k).natAbs : Int) := fun i j k l hi hj hk hl => by
    have := min_two (F := F) hi hj hk hl
    unfold minZ
    rw [if_neg (by decide), if_neg (by omega)]
    show ¬ ((upN (prN 2 (srtN r c F)) : Nat) : Int) < _
    omega
  unfold rawInT at hma ⊢
  refine Ok.enter Try.func5 rfl Try.ntmps5 rfl (fun w O => ?_)
  clear hM
  have hMs1 := hMs 1
  have hMs2 := hMs 2
  have hMsr := hMs r
  clear hMs
  refine J_seq (J_reg ?_)
  refine a_boxS rfl rfl (ltN rfl) (fun b1 => ?_)
  refine st (s_assign rfl) rfl (Run.nil (pj_then (J_seq (J_reg (st (s_callk (hs ) rfl trivial) rfl (st (s_assign rfl) rfl (Run.nil (pj_then (J_seq ?_)))))))))
  refine J_reg (st (s_loadW 0 rfl rfl) rfl ?_)
  refine st (s_callk (hma ) rfl ⟨VT.le_refl _, VT.le_refl _, trivial⟩) rfl ?_
  refine a_allocS (T := 28) rfl rfl rfl (fun b4 => ?_)
  refine a_storeW 0 rfl rfl rfl rfl (Run.nil (pj_then (J_seq (J_reg (st (s_loadW 0 rfl rfl) rfl ?_)))))
  refine st (s_callk (hM1 ) rfl ⟨VT.le_refl _, VT.le_refl _, trivial⟩) rfl ?_
  refine a_alloc (T := 32) rfl (ltN rfl) (fun b5 => ?_)
  refine a_storeB 0 rfl rfl rfl rfl rfl (leN rfl) rfl (Run.nil (pj_then (J_seq (J_reg (st (s_loadW 1 rfl rfl) rfl ?_)))))
  refine st (s_callk (hM2 ) rfl ⟨VT.le_refl _, VT.le_refl _, trivial⟩) rfl ?_
  refine a_alloc (T := 32) rfl (ltN rfl) (fun b6 => ?_)
  refine a_storeB 0 rfl rfl rfl rfl rfl (leN rfl) rfl (Run.nil (pj_then (J_seq (J_seq (J_reg (st (s_assign rfl) rfl (Run.nil (pj_then (J_block ?_)))))))))
  generalize minZ r c F 1 = z1 at *
  generalize minZ r c F 2 = z2 at *
  generalize hzr : minZ r c F (r : Int) = zr at *
  refine J_sub (Γ' := [(2, _), (3, _), (4, _), (5, _), (6, _), (7, _)]) (SubG.cons rfl (VT.le_refl _) (SubG.cons rfl (VT.le_refl _) (SubG.cons rfl (VT.le_refl _) (SubG.cons rfl (VT.le_refl _) (SubG.cons rfl (VT.le_refl _) (SubG.cons rfl (VT.le_refl _) (SubG.nil))))))) (SubM.refl _) ?_
  refine J_loopA (σ := Nat) (Γk := [(3, _), (4, _), (5, _), (6, _)]) (SubG.cons rfl (VT.le_refl _) (SubG.cons rfl (VT.le_refl _) (SubG.cons rfl (VT.le_refl _) (SubG.cons rfl (VT.le_refl _) (SubG.nil))))) (fun i => [(7, one (.int .i64 (i : Nat)))]) (fun i M0 => M0) (fun i => i ≤ r) (fun i => r - i) (0) (Nat.zero_le _) (by repeat (first | exact SubG.refl _ | exact SubG.nil | refine SubG.cons rfl (VT.le_refl _) ?_ | (refine SubG.cons rfl (one_le ?_) ?_; (congr 1; first | omega | (simp; omega) | simp)))) (.keep (Own.le_refl _) (.keep (Own.le_refl _) (.keep (Own.le_refl _) (.keep (Own.le_refl _) (.nil))))) (fun i hi => ?_)
  refine J_norm (Γ' := [(7, _), (3, _), (4, _), (5, _), (6, _)]) (M' := [_, _, _, _]) rfl rfl ?_
  by_cases hir : i < r
  · refine J_seq (J_seq (J_reg (st (s_move rfl) rfl (st (s_fieldAddr rfl) rfl (st (s_loadB 2 rfl rfl rfl) rfl (st (sT (by omega) (s_lt rfl rfl)) rfl (Run.nil (pj_then (J_cond1 rfl ?_)))))))))
    refine J_skip (pj_then (J_seq (J_block (J_seq (J_reg (st (s_assign rfl) rfl (Run.nil (pj_then (J_block ?_)))))))))
    refine J_sub (Γ' := [(3, _), (4, _), (5, _), (6, _), (7, _), (8, _)]) (SubG.cons rfl (VT.le_refl _) (SubG.cons rfl (VT.le_refl _) (SubG.cons rfl (VT.le_refl _) (SubG.cons rfl (VT.le_refl _) (SubG.cons rfl (VT.le_refl _) (SubG.cons rfl (VT.le_refl _) (SubG.nil))))))) (SubM.refl _) ?_
    refine J_loopA (σ := Nat) (Γk := [(3, _), (4, _), (5, _), (6, _), (7, _)]) (SubG.cons rfl (VT.le_refl _) (SubG.cons rfl (VT.le_refl _) (SubG.cons rfl (VT.le_refl _) (SubG.cons rfl (VT.le_refl _) (SubG.cons rfl (VT.le_refl _) (SubG.nil)))))) (fun k => [(8, one (.int .i64 (k : Nat)))]) (fun k M0 => M0) (fun k => k ≤ c) (fun k => c - k) (0) (Nat.zero_le _) (by repeat (first | exact SubG.refl _ | exact SubG.nil | refine SubG.cons rfl (VT.le_refl _) ?_ | (refine SubG.cons rfl (one_le ?_) ?_; (congr 1; first | omega | (simp; omega) | simp)))) (.keep (Own.le_refl _) (.keep (Own.le_refl _) (.keep (Own.le_refl _) (.keep (Own.le_refl _) (.nil))))) (fun k hk => ?_)
    refine J_norm (Γ' := [(8, _), (3, _), (4, _), (5, _), (6, _), (7, _)]) (M' := [_, _, _, _]) rfl rfl ?_
    by_cases hkc : k < c
    · have hd := sF i k
      have hMd := rMade_ok false (F i k).natAbs
      rw [if_neg (by decide)] at hMd
      have hcm := rCmpI_ok ((F i k).natAbs : Int) z1 (small_le (n := 9) (aF i k) (by decide +kernel)) hMs1
      have hng : ¬ 0 < cmpI ((F i k).natAbs : Int) z1 := fun h => hle1 i k hir hkc (gtc.1 h)
      generalize cmpI ((F i k).natAbs : Int) z1 = k1 at *
      refine J_seq (J_seq (J_reg (st (s_move rfl) rfl (st (s_fieldAddr rfl) rfl (st (s_loadB 2 rfl rfl rfl) rfl (st (sT (by omega) (s_lt rfl rfl)) rfl (Run.nil (pj_then (J_cond1 rfl ?_)))))))))
      refine J_skip (pj_then (J_seq (J_block (J_seq (J_seq (J_regd 13 mixed (by kernel_rfl) (by decide) (st (s_fieldAddr rfl) rfl (st (s_loadB 2 rfl rfl rfl) rfl (st (s_move rfl) rfl ?_)))))))))
      refine st (s_indexIN rfl rfl (by omega)) rfl (st (s_load rfl) rfl (st (s_move rfl) rfl (st (s_indexIN rfl rfl (by omega)) rfl (st (s_fieldI rfl rfl) rfl (st (s_load rfl) rfl ?_)))))
      refine st (s_callk (hMd ) rfl ⟨(natS_digs hd), VT.le_refl _, trivial⟩) rfl ?_
      refine st (s_loadB 1 rfl rfl rfl) rfl ?_
      refine st (s_callk (hcm ) rfl ⟨VT.le_refl _, VT.le_refl _, trivial⟩) rfl ?_
      refine st (s_gt rfl rfl) rfl (Run.nil (Run.nil (pj_then (J_condF rfl (by assumption) (J_skip (pj_then (J_seq (J_reg (st (s_assign rfl) rfl ?_)))))))))
      refine Run.nil (pj_then (J_block (J_sub (Γ' := [(3, _), (4, _), (5, _), (6, _), (7, _), (8, _), (9, _)]) (SubG.cons rfl (VT.le_refl _) (SubG.cons rfl (VT.le_refl _) (SubG.cons rfl (VT.le_refl _) (SubG.cons rfl (VT.le_refl _) (SubG.cons rfl (VT.le_refl _) (SubG.cons rfl (VT.le_refl _) (SubG.cons rfl (VT.le_refl _) (SubG.nil)))))))) (SubM.refl _) ?_)))
      refine J_loopA (σ := Nat) (Γk := [(3, _), (4, _), (5, _), (6, _), (7, _), (8, _)]) (SubG.cons rfl (VT.le_refl _) (SubG.cons rfl (VT.le_refl _) (SubG.cons rfl (VT.le_refl _) (SubG.cons rfl (VT.le_refl _) (SubG.cons rfl (VT.le_refl _) (SubG.cons rfl (VT.le_refl _) (SubG.nil))))))) (fun j => [(9, one (.int .i64 (j : Nat)))]) (fun j M0 => M0) (fun j => j ≤ i) (fun j => i - j) (0) (Nat.zero_le _) (by repeat (first | exact SubG.refl _ | exact SubG.nil | refine SubG.cons rfl (VT.le_refl _) ?_ | (refine SubG.cons rfl (one_le ?_) ?_; (congr 1; first | omega | (simp; omega) | simp)))) (.keep (Own.le_refl _) (.keep (Own.le_refl _) (.keep (Own.le_refl _) (.keep (Own.le_refl _) (.nil))))) (fun j hj => ?_)
      refine J_norm (Γ' := [(9, _), (3, _), (4, _), (5, _), (6, _), (7, _), (8, _)]) (M' := [_, _, _, _]) rfl rfl ?_
      by_cases hji : j < i
      · refine J_seq (J_seq (J_reg (st (s_move rfl) rfl (st (s_move rfl) rfl (st (sT (by omega) (s_lt rfl rfl)) rfl (Run.nil (pj_then (J_cond1 rfl (J_skip ?_)))))))))
        refine pj_then (J_seq (J_block (J_seq (J_reg (st (s_assign rfl) rfl (Run.nil (pj_then (J_block (J_sub (Γ' := [(3, _), (4, _), (5, _), (6, _), (7, _), (8, _), (9, _), (10, _)]) (SubG.cons rfl (VT.le_refl _) (SubG.cons rfl (VT.le_refl _) (SubG.cons rfl (VT.le_refl _) (SubG.cons rfl (VT.le_refl _) (SubG.cons rfl (VT.le_refl _) (SubG.cons rfl (VT.le_refl _) (SubG.cons rfl (VT.le_refl _) (SubG.cons rfl (VT.le_refl _) (SubG.nil))))))))) (SubM.refl _) ?_)))))))))
        refine J_loopA (σ := Nat) (Γk := [(3, _), (4, _), (5, _), (6, _), (7, _), (8, _), (9, _)]) (SubG.cons rfl (VT.le_refl _) (SubG.cons rfl (VT.le_refl _) (SubG.cons rfl (VT.le_refl _) (SubG.cons rfl (VT.le_refl _) (SubG.cons rfl (VT.le_refl _) (SubG.cons rfl (VT.le_refl _) (SubG.cons rfl (VT.le_refl _) (SubG.nil)))))))) (fun h => [(10, one (.int .i64 (h : Nat)))]) (fun h M0 => M0) (fun h => h ≤ k) (fun h => k - h) (0) (Nat.zero_le _) (by repeat (first | exact SubG.refl _ | exact SubG.nil | refine SubG.cons rfl (VT.le_refl _) ?_ | (refine SubG.cons rfl (one_le ?_) ?_; (congr 1; first | omega | (simp; omega) | simp)))) (.keep (Own.le_refl _) (.keep (Own.le_refl _) (.keep (Own.le_refl _) (.keep (Own.le_refl _) (.nil))))) (fun h hh => ?_)
        refine J_norm (Γ' := [(10, _), (3, _), (4, _), (5, _), (6, _), (7, _), (8, _), (9, _)]) (M' := [_, _, _, _]) rfl rfl ?_
        by_cases hhk : h < k
        · have m1 := rMulI_ok (F i k) (F j h) (sm9 (aF i k)) (sm9 (aF j h))
          have m2 := rMulI_ok (F i h) (F j k) (sm9 (aF i h)) (sm9 (aF j k))
          have a1 := mul9 (aF i k) (aF j h)
          have a2 := mul9 (aF i h) (aF j k)
          have hsb := rSubI_ok (F i k * F j h) (F i h * F j k) (small_le a1 (by decide +kernel)) (small_le a2 (by decide +kernel))
          have hng := hle2 i j k h hir hji hkc hhk
          have a3 : (F i k * F j h - F i h * F j k).natAbs ≤ 162 := by omega
          generalize F i k * F j h = q1 at *
          generalize F i h * F j k = q2 at *
          generalize q1 - q2 = q3 at *
          have hd' : (digs q3.natAbs).length ≤ 1099511627776 := small_le (n := 162) a3 (by decide +kernel)
          have hM' := rMade_ok false q3.natAbs
          rw [if_neg (by decide)] at hM'
          have hcm' := rCmpI_ok (q3.natAbs : Int) z2 (small_le (n := 162) a3 (by decide +kernel)) hMs2
          have hng' : ¬ 0 < cmpI (q3.natAbs : Int) z2 := fun h => hng (gtc.1 h)
          generalize cmpI (q3.natAbs : Int) z2 = k2 at *
          refine J_seq (J_seq (J_reg (st (s_move rfl) rfl (st (s_move rfl) rfl (st (sT (by omega) (s_lt rfl rfl)) rfl (Run.nil (pj_then (J_cond1 rfl (J_skip ?_)))))))))
          refine pj_then (J_seq (J_block (J_seq ?_)))
          refine J_regU2 mixed (by kernel_rfl) (by kernel_rfl) ?_
          refine ux (fun B => s_fieldAddr rfl) rfl rfl ?_
          refine ux (fun B => s_loadB 2 rfl rfl rfl) rfl rfl ?_
          refine ux (fun B => s_move rfl) rfl rfl ?_
          refine ux (fun B => s_indexIN rfl rfl (by omega)) rfl rfl ?_
          refine ux (fun B => s_load rfl) rfl rfl ?_
          refine ux (fun B => s_move rfl) rfl rfl ?_
          refine ux (fun B => s_indexIN rfl rfl (by omega)) rfl rfl ?_
          refine ux (fun B => s_load rfl) rfl rfl ?_
          refine ux (fun B => s_fieldAddr rfl) rfl rfl ?_
          refine ux (fun B => s_loadB 2 rfl rfl rfl) rfl rfl ?_
          refine ux (fun B => s_move rfl) rfl rfl ?_
          refine ux (fun B => s_indexIN rfl rfl (by omega)) rfl rfl ?_
          refine ux (fun B => s_load rfl) rfl rfl ?_
          refine ux (fun B => s_move rfl) rfl rfl ?_
          refine ux (fun B => s_indexIN rfl rfl (by omega)) rfl rfl ?_
          refine ux (fun B => s_load rfl) rfl rfl ?_
          refine uxk (m1 ) rfl ⟨VT.le_refl _, VT.le_refl _, trivial⟩ rfl ?_
          refine ux (fun B => s_fieldAddr rfl) rfl rfl ?_
          refine ux (fun B => s_loadB 2 rfl rfl rfl) rfl rfl ?_
          refine ux (fun B => s_move rfl) rfl rfl ?_
          refine ux (fun B => s_indexIN rfl rfl (by omega)) rfl rfl ?_
          refine ux (fun B => s_load rfl) rfl rfl ?_
          refine ux (fun B => s_move rfl) rfl rfl ?_
          refine ux (fun B => s_indexIN rfl rfl (by omega)) rfl rfl ?_
          refine ux (fun B => s_load rfl) rfl rfl ?_
          refine ux (fun B => s_fieldAddr rfl) rfl rfl ?_
          refine ux (fun B => s_loadB 2 rfl rfl rfl) rfl rfl ?_
          refine ux (fun B => s_move rfl) rfl rfl ?_
          refine ux (fun B => s_indexIN rfl rfl (by omega)) rfl rfl ?_
          refine ux (fun B => s_load rfl) rfl rfl ?_
          refine ux (fun B => s_move rfl) rfl rfl ?_
          refine ux (fun B => s_indexIN rfl rfl (by omega)) rfl rfl ?_
          refine ux (fun B => s_load rfl) rfl rfl ?_
          refine uxk (m2 ) rfl ⟨VT.le_refl _, VT.le_refl _, trivial⟩ rfl ?_
          refine uxk (hsb ) rfl ⟨VT.le_refl _, VT.le_refl _, trivial⟩ rfl ?_
          refine ua rfl (us rfl ?_)
          refine RunU.nil (fun γ => ?_)
          refine PJ_normM (M' := [_, _, _, _, _]) rfl (pj_then (J_seq (J_regd 6 mixed (by kernel_rfl) (by decide) (st (s_fieldAddr rfl) rfl (st (s_loadBP 0 0 1 rfl rfl rfl rfl rfl) rfl ?_)))))
          refine st (s_callk (hM' ) rfl ⟨(natS_digs hd'), VT.le_refl _, trivial⟩) rfl ?_
          refine st (s_loadB 1 rfl rfl rfl) rfl ?_
          refine st (s_callk (hcm' ) rfl ⟨VT.le_refl _, VT.le_refl _, trivial⟩) rfl ?_
          refine st (s_gt rfl rfl) rfl (Run.nil (Run.nil (pj_then (J_condF rfl (by assumption) (J_skip (pn_block (pj_then (J_reg (st (s_move rfl) rfl ?_)))))))))
          refine st (s_addN _ 1 rfl rfl (by omega)) rfl (st (s_assign rfl) rfl (Run.nil ?_))
          refine pj_roundM (h + 1) (by omega) (by omega) (by repeat (first | exact SubG.refl _ | exact SubG.nil | refine SubG.cons rfl (VT.le_refl _) ?_ | (refine SubG.cons rfl (one_le ?_) ?_; (congr 1; first | omega | (simp; omega) | simp)))) (.drop (.keep (Own.le_refl _) (.keep (Own.le_refl _) (.keep (Own.le_refl _) (.keep (Own.le_refl _) (.nil))))))
        · refine J_seq (J_seq (J_reg (st (s_move rfl) rfl (st (s_move rfl) rfl (st (s_lt rfl rfl) rfl (Run.nil (pj_then (J_condF rfl (by omega) (J_exit ?_)))))))))
          refine px_then (px_then (px_block (pn_block (pj_then (J_reg (st (s_move rfl) rfl (st (s_addN _ 1 rfl rfl (by omega)) rfl (st (s_assign rfl) rfl (Run.nil ?_)))))))))
          refine pj_roundM (j + 1) (by omega) (by omega) (by repeat (first | exact SubG.refl _ | exact SubG.nil | refine SubG.cons rfl (VT.le_refl _) ?_ | (refine SubG.cons rfl (one_le ?_) ?_; (congr 1; first | omega | (simp; omega) | simp)))) (.keep (Own.le_refl _) (.keep (Own.le_refl _) (.keep (Own.le_refl _) (.keep (Own.le_refl _) (.nil)))))
      · refine J_seq (J_seq (J_reg (st (s_move rfl) rfl (st (s_move rfl) rfl (st (s_lt rfl rfl) rfl (Run.nil (pj_then (J_condF rfl (by omega) (J_exit ?_)))))))))
        refine px_then (px_then (px_block (pn_block (pj_then (J_reg (st (s_move rfl) rfl (st (s_addN _ 1 rfl rfl (by omega)) rfl (st (s_assign rfl) rfl (Run.nil ?_)))))))))
        refine pj_roundM (k + 1) (by omega) (by omega) (by repeat (first | exact SubG.refl _ | exact SubG.nil | refine SubG.cons rfl (VT.le_refl _) ?_ | (refine SubG.cons rfl (one_le ?_) ?_; (congr 1; first | omega | (simp; omega) | simp)))) (.keep (Own.le_refl _) (.keep (Own.le_refl _) (.keep (Own.le_refl _) (.keep (Own.le_refl _) (.nil)))))
    · refine J_seq (J_seq (J_reg (st (s_move rfl) rfl (st (s_fieldAddr rfl) rfl (st (s_loadB 2 rfl rfl rfl) rfl (st (s_lt rfl rfl) rfl (Run.nil (pj_then (J_condF rfl (by omega) ?_)))))))))
      refine J_exit (px_then (px_then (px_block (pn_block (pj_then (J_reg (st (s_move rfl) rfl (st (s_addN _ 1 rfl rfl (by omega)) rfl (st (s_assign rfl) rfl ?_)))))))))
      refine Run.nil ?_
      refine pj_roundM (i + 1) (by omega) (by omega) (by repeat (first | exact SubG.refl _ | exact SubG.nil | refine SubG.cons rfl (VT.le_refl _) ?_ | (refine SubG.cons rfl (one_le ?_) ?_; (congr 1; first | omega | (simp; omega) | simp)))) (.keep (Own.le_refl _) (.keep (Own.le_refl _) (.keep (Own.le_refl _) (.keep (Own.le_refl _) (.nil)))))
  · by_cases hrc : r = c
    · have hH := Hadamard_ok r F 324 (by omega) mF (by decide) (pow4 hr) (by rw [hrc]; rw [hrc] at hl; exact hl)
      have hSa := rSame_ok (upN (prN r (srtN r r F)) : Int) zr
      have hz : (upN (prN r (srtN r r F)) : Int) = zr := by
        rw [← hzr]
        unfold minZ
        by_cases h0 : r = 0
        · subst h0
          rw [if_pos (by decide)]
          show ((upN 1 : Nat) : Int) = 1
          rw [upN_unique (a := 1) (s := 1) (by decide) (fun t ht => by rw [show t = 0 by omega]; decide)]
          rfl
        · rw [if_neg (by omega), if_neg (by omega), ← hrc]; rfl
      rw [decide_eq_true hz] at hSa
      subst hrc
      refine J_seq (J_seq (J_reg (st (s_move rfl) rfl (st (s_fieldAddr rfl) rfl (st (s_loadB 2 rfl rfl rfl) rfl (st (s_lt rfl rfl) rfl (Run.nil (pj_then (J_condF rfl (by omega) ?_)))))))))
      refine J_exit (px_then (px_then (px_block (pj_then (J_seq (J_reg (st (s_loadW 2 rfl rfl) rfl ?_)))))))
      refine st (s_callk (hH ) rfl ⟨VT.le_refl _, trivial⟩) rfl ?_
      refine st (s_move rfl) rfl (st (s_extract rfl rfl) rfl (st (s_extract rfl rfl) rfl ?_))
      refine a_alloc (T := 32) rfl (ltN rfl) (fun b12 => ?_)
      refine a_storeB 0 rfl rfl rfl rfl rfl (leN rfl) rfl (st (s_assign rfl) rfl (Run.nil (pj_then (J_seq (J_regd 13 mixed (by kernel_rfl) (by decide) (st (s_move rfl) rfl (st (s_move rfl) rfl (sg1 rfl rfl (s_move rfl) rfl (sg1 rfl rfl (s_ne rfl rfl) rfl ?_)))))))))
      refine sg1 rfl rfl (s_move rfl) rfl (sg1 rfl rfl (s_loadB 0 rfl rfl rfl) rfl (sg1 rfl rfl (s_loadW 3 rfl rfl) rfl (sg1 rfl rfl (s_fieldAddr rfl) rfl (sg1 rfl rfl (s_loadB 3 rfl rfl rfl) rfl ?_))))
      refine sg1 rfl rfl (s_callk (hMr ) rfl ⟨VT.le_refl _, VT.le_refl _, trivial⟩) rfl ?_
      refine sg1 rfl rfl (s_callk (hSa ) rfl ⟨VT.le_refl _, VT.le_refl _, trivial⟩) rfl ?_
      refine sg1 rfl rfl (s_pickF rfl rfl) rfl (st (s_pickT rfl rfl) rfl (Run.nil (st (s_assign rfl) rfl (Run.nil (pj_then (J_ret ?_))))))
      refine retc1 Try.results5 (.tmp rfl (VT.le_refl _))
    · have hH := HadamardS_ok r c F hrc
      refine J_seq (J_seq (J_reg (st (s_move rfl) rfl (st (s_fieldAddr rfl) rfl (st (s_loadB 2 rfl rfl rfl) rfl (st (s_lt rfl rfl) rfl (Run.nil (pj_then (J_condF rfl (by omega) ?_)))))))))
      refine J_exit (px_then (px_then (px_block (pj_then (J_seq (J_reg (st (s_loadW 2 rfl rfl) rfl ?_)))))))
      refine st (s_callk (hH ) rfl ⟨VT.le_refl _, trivial⟩) rfl ?_
      refine st (s_move rfl) rfl (st (s_extract rfl rfl) rfl (st (s_extract rfl rfl) rfl ?_))
      refine a_alloc (T := 32) rfl (ltN rfl) (fun b12 => ?_)
      refine a_storeB 0 rfl rfl rfl rfl rfl (leN rfl) rfl (st (s_assign rfl) rfl (Run.nil (pj_then (J_seq (J_regd 13 mixed (by kernel_rfl) (by decide) (st (s_move rfl) rfl (st (s_move rfl) rfl (sg1 rfl rfl (s_move rfl) rfl (sg1 rfl rfl (sT (by omega) (s_ne rfl rfl)) rfl ?_)))))))))
      refine sg1 rfl rfl (s_move rfl) rfl (sn0 rfl rfl rfl rfl rfl (sn0 rfl rfl rfl rfl rfl (sn0 rfl rfl rfl rfl rfl (sn0 rfl rfl rfl rfl rfl (sn0 rfl rfl rfl rfl rfl (sn0 rfl rfl rfl rfl rfl (sg1 rfl rfl (s_pickT rfl rfl) rfl (st (s_pickT rfl rfl) rfl (Run.nil ?_)))))))))
      refine st (s_assign rfl) rfl (Run.nil (pj_then (J_ret ?_)))
      refine retc1 Try.results5 (.tmp rfl (VT.le_refl _))
end Tor
end
section
set_option linter.unusedSectionVars false
namespace Tor
open Go Go.RowKit
section
variable {P : Program} {E : Env} {Γ : Ctx} {M : Mem}
class TriOf (P : Program) (T : TypeId) (k : outParam IntKind) : Prop where
  ex : ∃ f0 f1 f2 : Field, P.underlying T = some (.struct #[f0, f1, f2]) ∧ (f0.name ≠ "_" ∧ f1.name ≠ "_" ∧ f2.name ≠ "_") ∧ (f0.offset = 0 ∧ f1.offset = 1 ∧ f2.offset = 2) ∧ (IntOf P f0.type k ∧ IntOf P f1.type k ∧ IntOf P f2.type k) ∧ (LayOf P f0.type .one ∧ LayOf P f1.type .one ∧ LayOf P f2.type .one)
  held : P.stoodInHeld T = false
  guard : P.eqGuardType P.depth T = false
theorem TriOf.by_info {T t0 t1 t2 : TypeId} {k : IntKind} [i0 : IntOf P t0 k] [i1 : IntOf P t1 k] [i2 : IntOf P t2 k] [l0 : LayOf P t0 .one] [l1 : LayOf P t1 .one] [l2 : LayOf P t2 .one] (h : quadInfo P T = some [(true, 0, t0), (true, 1, t1), (true, 2, t2)]) (h1 : P.stoodInHeld T = false) (h2 : P.eqGuardType P.depth T = false) : TriOf P T k where
  ex := by
    unfold quadInfo at h
    split at h
    · rename_i fs hu
      obtain ⟨l⟩ := fs
      simp only [Option.some.injEq] at h
      match l, h with
      | [f0, f1, f2], h =>
        simp only [List.map_cons, List.map_nil, List.cons.injEq, Prod.mk.injEq, bne_iff_ne, ne_eq, and_true] at h
        obtain ⟨⟨a1, a2, a3⟩, ⟨b1, b2, b3⟩, c1, c2, c3⟩ := h
        subst a3 b3 c3
        exact ⟨f0, f1, f2, hu, ⟨a1, b1, c1⟩, ⟨a2, b2, c2⟩, ⟨i0, i1, i2⟩, l0, l1, l2⟩
      | [], h => simp at h
      | [_], h => simp at h
      | [_, _], h => simp at h
      | _ :: _ :: _ :: _ :: _, h => simp at h
    · cases h
  held := h1
  guard := h2
theorem equal_tri {T : TypeId} {k : IntKind} [hQ : TriOf P T k] (a0 a1 a2 b0 b1 b2 : Int) (w : World) :
    (Op.equal T (.agg #[.int k a0, .int k a1, .int k a2]) (.agg #[.int k b0, .int k b1, .int k b2])).run P w = .ok (a0 == b0 && (a1 == b1 && a2 == b2)) w := by
  obtain ⟨f0, f1, f2, hU, ⟨n0, n1, n2⟩, ⟨o0, o1, o2⟩, ⟨i0, i1, i2⟩, l0, l1, l2⟩ := hQ.ex
  have hp : (program : Sem Program).run P w = .ok P w := rfl
  have hh := hQ.held
  show (Op.equalIn (9998 + 1 + 1) T _ _).run P w = _
  unfold Op.equalIn
  rw [Sem.run_bind, run_underlying' hU]
  have p0 : ∀ (x y z : Value), (part f0.type #[x, y, z] 0).run P w = .ok x w := fun x y z => part_one (P := P) rfl w
  have p1 : ∀ (x y z : Value), (part f1.type #[x, y, z] 1).run P w = .ok y w := fun x y z => part_one (P := P) rfl w
  have p2 : ∀ (x y z : Value), (part f2.type #[x, y, z] 2).run P w = .ok z w := fun x y z => part_one (P := P) rfl w
  have e0 : ∀ (a b : Int), (Op.equalIn (9998 + 1) f0.type (.int k a) (.int k b)).run P w = .ok (a == b) w := fun a b => equalIn_int (P := P) 9998 a b w
  have e1 : ∀ (a b : Int), (Op.equalIn (9998 + 1) f1.type (.int k a) (.int k b)).run P w = .ok (a == b) w := fun a b => equalIn_int (P := P) 9998 a b w
  have e2 : ∀ (a b : Int), (Op.equalIn (9998 + 1) f2.type (.int k a) (.int k b)).run P w = .ok (a == b) w := fun a b => equalIn_int (P := P) 9998 a b w
  simp only [Result.andThen_ok, Sem.run_bind, hp, hh]
  simp [n0, n1, n2, o0, o1, o2, Sem.run_bind, p0, p1, p2, e0, e1, e2, Result.andThen_ok]
  by_cases h0 : a0 = b0 <;> by_cases h1 : a1 = b1 <;> by_cases h2 : a2 = b2 <;> simp [h0, h1, h2]
theorem agg3_open {k : IntKind} {a0 a1 a2 : Int} {v : Value} {h : Hp} (H : (aggT 3 [(0, .one, one (.int k a0)), (1, .one, one (.int k a1)), (2, .one, one (.int k a2))]).p v h) : v = .agg #[.int k a0, .int k a1, .int k a2] := by
  obtain ⟨c, rfl, hs, _, hc⟩ := H
  obtain ⟨x0, h0, e0⟩ := hc (0, .one, one (.int k a0)) (by simp)
  obtain ⟨x1, h1, e1⟩ := hc (1, .one, one (.int k a1)) (by simp)
  obtain ⟨x2, h2, e2⟩ := hc (2, .one, one (.int k a2)) (by simp)
  have e0 : x0 = .int k a0 := e0
  have e1 : x1 = .int k a1 := e1
  have e2 : x2 = .int k a2 := e2
  subst e0 e1 e2
  have h0 : c[0]? = some _ := h0
  have h1 : c[1]? = some _ := h1
  have h2 : c[2]? = some _ := h2
  congr 1
  apply Array.ext_getElem?
  intro j
  rcases j with _ | _ | _ | j
  · rw [h0]; rfl
  · rw [h1]; rfl
  · rw [h2]; rfl
  · rw [Array.getElem?_eq_none (by omega), Array.getElem?_eq_none (by simp)]
theorem s_eqT {dd : Option Tmp} {ty : TypeId} {pos : String} {af : Array Edge} {gd : Option (Nat × Bool)} {T T' : TypeId} {k : IntKind} [hQ : TriOf P T k] {x y : Operand} {a0 a1 a2 b0 b1 b2 : Int}
    (hx : evalT Γ x = some (aggT 3 [(0, .one, one (.int k a0)), (1, .one, one (.int k a1)), (2, .one, one (.int k a2))])) (hy : evalT Γ y = some (aggT 3 [(0, .one, one (.int k b0)), (1, .one, one (.int k b1)), (2, .one, one (.int k b2))])) :
    StepO P E Γ M ⟨dd, .binOp .eql T x y T', ty, pos, af, gd⟩ (one (.bool (decide (a0 = b0 ∧ a1 = b1 ∧ a2 = b2)))) :=
  StepO.ofRun fun ac w hb hf => by
    have hx' := agg3_open (hf x _ (by simp [Op.operands]) hx)
    have hy' := agg3_open (hf y _ (by simp [Op.operands]) hy)
    refine ⟨.bool (a0 == b0 && (a1 == b1 && a2 == b2)), ?_, ?_⟩
    · have h1 := equal_tri (P := P) (T := T) a0 a1 a2 b0 b1 b2 w
      have hp : (program : Sem Program).run P w = .ok P w := rfl
      have hg := hQ.guard
      simp only [execOp, hx', hy', eqGuard, binOp, Sem.run_bind, Sem.run_pure, Result.andThen_ok, hp, hg, h1, Bool.not_false, if_true]
      simp [Sem.run_bind, Result.andThen_ok, hp, hg, h1]
    · show Value.bool _ = Value.bool _
      congr 1
      by_cases h0 : a0 = b0 <;> by_cases h1 : a1 = b1 <;> by_cases h2 : a2 = b2 <;> simp [h0, h1, h2]
end
end Tor
end
section
namespace Tor
open Go Go.RowKit Go.Proofs
theorem len5 {c : Nat} {F : Nat → Nat → Int} (hc : c ≤ 5) (h : ∀ i j, (F i j).natAbs ≤ 9) (i : Nat) : lenN c (F i) ≤ 405 :=
  Nat.le_trans (lenN_abs (h i)) (Nat.mul_le_mul_right 81 hc)
theorem pow5 {n : Nat} (h : n ≤ 5) : 405 ^ n < 2 ^ 800 := Nat.lt_of_le_of_lt (Nat.pow_le_pow_right (n := 405) (i := n) (j := 5) (by decide) h) (by decide +kernel)
instance : TriOf Try.prog 37 .i64 := TriOf.by_info (t0 := 3) (t1 := 3) (t2 := 2) (by kernel_rfl) (by kernel_rfl) (by kernel_rfl)
theorem bits9 : ∀ n, n ≤ 9 → bitsN n ≤ 2048 := by decide +kernel
attribute [local irreducible] Tor.J Tor.PJ Tor.StepO Tor.one Tor.slT Tor.ptrT Tor.aggT Tor.tupT Tor.exT Tor.andT Tor.eP Tor.boxO Tor.sliO Tor.slV Tor.VT.le Tor.Ret Tor.anyT
attribute [local irreducible] bigT
set_option maxRecDepth 20000 in
set_option maxHeartbeats 8000000 in
theorem matchLaw_ok (r0 c0 : Nat) (l : List Int) (k : Int) (hr0 : r0 ≤ 255) (hc0 : c0 ≤ 255) : Ok Try.prog 3 [rawInT r0 c0 l, one (.int .i64 k)] (one (.bool true)) := by
  have hs := sanity_ok
  have hma := s6Made_ok r0 c0 l 5 hr0 hc0 (by decide)
  have hr : r0 % (5 + 1) ≤ 5 := by omega
  have hc : c0 % (5 + 1) ≤ 5 := by omega
  have aF := sizF_abs (c0 % (5 + 1)) l
  generalize sizF (c0 % (5 + 1)) l = F at *
  generalize r0 % (5 + 1) = r at *
  generalize c0 % (5 + 1) = c at *
  have mF : ∀ i j, mod4 (F i j) := fun i j => Nat.le_trans (aF i j) (by decide +kernel)
  have hl : ∀ i, i < r → lenN c (F i) ≤ 405 := fun i _ => len5 hc aF i
  have hM1 := minorA_ok r c F k 405 (by omega) (by omega) mF (by decide) (pow5 hr) hl
  have hN1 := s9minorA_ok r c F k 405 (by omega) (by omega) mF (by decide) (pow5 hr) hl
  have hM2 := minorA_ok r c F (k.tmod 7) 405 (by omega) (by omega) mF (by decide) (pow5 hr) hl
  have hN2 := s9minorA_ok r c F (k.tmod 7) 405 (by omega) (by omega) mF (by decide) (pow5 hr) hl
  have hS1 := rSame_ok (minZ r c F k) (minZ r c F k)
  have hS2 := rSame_ok (minZ r c F (k.tmod 7)) (minZ r c F (k.tmod 7))
  rw [decide_eq_true rfl] at hS1 hS2
  have hC1 := Cost_ok r c F (by omega) (by omega) (fun i j => sm9 (aF i j)) (fun i j => bits9 _ (aF i j))
  have hC2 := s9Cost_ok r c F (by omega) (by omega) (fun i j => sm9 (aF i j)) (fun i j => bits9 _ (aF i j))
  unfold costT at hC1 hC2
  generalize minZ r c F k = z1 at *
  generalize minZ r c F (k.tmod 7) = z2 at *
  generalize stepsN r c (cstM c F r).2 = c3 at *
  generalize cstM c F r = c1 at *
  unfold rawInT at hma ⊢
  refine Ok.enter Try.func3 rfl Try.ntmps3 rfl (fun w O => ?_)
  by_cases hrc : r = c
  · have hH := Hadamard_ok r F 405 (by omega) mF (by decide) (pow5 hr) (by rw [hrc]; rw [hrc] at hl; exact hl)
    have hR := s9Hadamard_ok r F 405 (by omega) mF (by decide) (pow5 hr) (by rw [hrc]; rw [hrc] at hl; exact hl)
    rw [srt_prod] at hH
    have hSa := rSame_ok (upN (prN r (fun i => lenN r (F i))) : Int) (upN (prN r (fun i => lenN r (F i))) : Int)
    rw [decide_eq_true rfl] at hSa
    generalize (upN (prN r (fun i => lenN r (F i))) : Int) = z at *
    subst hrc
    refine J_seq (J_reg ?_)
    refine a_boxS rfl rfl (ltN rfl) (fun b2 => ?_)
    refine st (s_assign rfl) rfl (Run.nil (pj_then (J_seq (J_reg (st (s_callk (hs ) rfl trivial) rfl (st (s_assign rfl) rfl (Run.nil (pj_then (J_seq ?_)))))))))
    refine J_reg (st (s_loadW 0 rfl rfl) rfl ?_)
    refine st (s_callk (hma ) rfl ⟨VT.le_refl _, VT.le_refl _, trivial⟩) rfl ?_
    refine a_allocS (T := 28) rfl rfl rfl (fun b6 => ?_)
    refine a_storeW 0 rfl rfl rfl rfl (Run.nil (pj_then (J_seq (J_reg (st (s_loadW 0 rfl rfl) rfl ?_)))))
    refine st (s_callk (hH ) rfl ⟨VT.le_refl _, trivial⟩) rfl ?_
    refine st (s_move rfl) rfl (st (s_extract rfl rfl) rfl (st (s_extract rfl rfl) rfl ?_))
    refine a_alloc (T := 32) rfl (ltN rfl) (fun b7 => ?_)
    refine a_storeB 0 rfl rfl rfl rfl rfl (leN rfl) rfl (st (s_assign rfl) rfl (Run.nil (pj_then (J_seq (J_reg (st (s_loadW 1 rfl rfl) rfl ?_))))))
    refine st (s_callk (hR ) rfl ⟨VT.le_refl _, trivial⟩) rfl ?_
    refine st (s_move rfl) rfl (st (s_extract rfl rfl) rfl (st (s_extract rfl rfl) rfl ?_))
    refine a_alloc (T := 32) rfl (ltN rfl) (fun b9 => ?_)
    refine a_storeB 0 rfl rfl rfl rfl rfl (leN rfl) rfl (st (s_assign rfl) rfl (Run.nil (pj_then (J_seq (J_reg (st (s_loadW 2 rfl rfl) rfl ?_))))))
    refine st (s_callk (hC1 ) rfl ⟨VT.le_refl _, trivial⟩) rfl ?_
    refine a_allocS (T := 37) rfl rfl rfl (fun b11 => ?_)
    refine a_storeW 0 rfl rfl rfl rfl (Run.nil (pj_then (J_seq (J_regd 37 mixed (by kernel_rfl) (by decide) (st (s_move rfl) rfl (st (s_move rfl) rfl (sg1 rfl rfl (s_loadB 2 rfl rfl rfl) rfl (sg1 rfl rfl (s_loadB 1 rfl rfl rfl) rfl ?_))))))))
    refine sg1 rfl rfl (s_callk (hSa ) rfl ⟨VT.le_refl _, VT.le_refl _, trivial⟩) rfl ?_
    refine st (s_pickT rfl rfl) rfl (st (s_move rfl) rfl (sg1 rfl rfl (s_move rfl) rfl (sg1 rfl rfl (s_move rfl) rfl (sg1 rfl rfl (sT (by omega) (s_eq rfl rfl)) rfl (st (s_pickT rfl rfl) rfl (st (s_move rfl) rfl (sg1 rfl rfl (s_loadW 3 rfl rfl) rfl (sg1 rfl rfl (s_move rfl) rfl ?_))))))))
    refine sg1 rfl rfl (s_callk (hM1 ) rfl ⟨VT.le_refl _, VT.le_refl _, trivial⟩) rfl ?_
    refine sg1 rfl rfl (s_loadW 3 rfl rfl) rfl (sg1 rfl rfl (s_move rfl) rfl ?_)
    refine sg1 rfl rfl (s_callk (hN1 ) rfl ⟨VT.le_refl _, VT.le_refl _, trivial⟩) rfl ?_
    refine sg1 rfl rfl (s_callk (hS1 ) rfl ⟨VT.le_refl _, VT.le_refl _, trivial⟩) rfl ?_
    refine st (s_pickT rfl rfl) rfl (st (s_move rfl) rfl (sg1 rfl rfl (s_loadW 3 rfl rfl) rfl (sg1 rfl rfl (s_move rfl) rfl (sg1 rfl rfl (s_rem rfl rfl (by decide) rfl) rfl ?_))))
    refine sg1 rfl rfl (s_callk (hM2 ) rfl ⟨VT.le_refl _, VT.le_refl _, trivial⟩) rfl ?_
    refine sg1 rfl rfl (s_loadW 3 rfl rfl) rfl (sg1 rfl rfl (s_move rfl) rfl (sg1 rfl rfl (s_rem rfl rfl (by decide) rfl) rfl ?_))
    refine sg1 rfl rfl (s_callk (hN2 ) rfl ⟨VT.le_refl _, VT.le_refl _, trivial⟩) rfl ?_
    refine sg1 rfl rfl (s_callk (hS2 ) rfl ⟨VT.le_refl _, VT.le_refl _, trivial⟩) rfl ?_
    refine st (s_pickT rfl rfl) rfl (st (s_move rfl) rfl (sg1 rfl rfl (s_loadW 0 rfl rfl) rfl (sg1 rfl rfl (s_loadW 3 rfl rfl) rfl ?_)))
    refine sg1 rfl rfl (s_callk (hC2 ) rfl ⟨VT.le_refl _, trivial⟩) rfl ?_
    refine sg1 rfl rfl (sT (by omega) (s_eqT rfl rfl)) rfl (st (s_pickT rfl rfl) rfl (Run.nil (st (s_assign rfl) rfl (Run.nil (pj_then (J_ret ?_))))))
    refine retc1 Try.results3 (.tmp rfl (one_le (by simp)))
  · have hH := HadamardS_ok r c F hrc
    have hR := s9HadamardS_ok r c F hrc
    have hSa := rSame_ok 0 0
    rw [decide_eq_true rfl] at hSa
    refine J_seq (J_reg ?_)
    refine a_boxS rfl rfl (ltN rfl) (fun b2 => ?_)
    refine st (s_assign rfl) rfl (Run.nil (pj_then (J_seq (J_reg (st (s_callk (hs ) rfl trivial) rfl (st (s_assign rfl) rfl (Run.nil (pj_then (J_seq ?_)))))))))
    refine J_reg (st (s_loadW 0 rfl rfl) rfl ?_)
    refine st (s_callk (hma ) rfl ⟨VT.le_refl _, VT.le_refl _, trivial⟩) rfl ?_
    refine a_allocS (T := 28) rfl rfl rfl (fun b6 => ?_)
    refine a_storeW 0 rfl rfl rfl rfl (Run.nil (pj_then (J_seq (J_reg (st (s_loadW 0 rfl rfl) rfl ?_)))))
    refine st (s_callk (hH ) rfl ⟨VT.le_refl _, trivial⟩) rfl ?_
    refine st (s_move rfl) rfl (st (s_extract rfl rfl) rfl (st (s_extract rfl rfl) rfl ?_))
    refine a_alloc (T := 32) rfl (ltN rfl) (fun b7 => ?_)
    refine a_storeB 0 rfl rfl rfl rfl rfl (leN rfl) rfl (st (s_assign rfl) rfl (Run.nil (pj_then (J_seq (J_reg (st (s_loadW 1 rfl rfl) rfl ?_))))))
    refine st (s_callk (hR ) rfl ⟨VT.le_refl _, trivial⟩) rfl ?_
    refine st (s_move rfl) rfl (st (s_extract rfl rfl) rfl (st (s_extract rfl rfl) rfl ?_))
    refine a_alloc (T := 32) rfl (ltN rfl) (fun b9 => ?_)
    refine a_storeB 0 rfl rfl rfl rfl rfl (leN rfl) rfl (st (s_assign rfl) rfl (Run.nil (pj_then (J_seq (J_reg (st (s_loadW 2 rfl rfl) rfl ?_))))))
    refine st (s_callk (hC1 ) rfl ⟨VT.le_refl _, trivial⟩) rfl ?_
    refine a_allocS (T := 37) rfl rfl rfl (fun b11 => ?_)
    refine a_storeW 0 rfl rfl rfl rfl (Run.nil (pj_then (J_seq (J_regd 37 mixed (by kernel_rfl) (by decide) (st (s_move rfl) rfl (st (s_move rfl) rfl (sg1 rfl rfl (s_loadB 2 rfl rfl rfl) rfl (sg1 rfl rfl (s_loadB 1 rfl rfl rfl) rfl ?_))))))))
    refine sg1 rfl rfl (s_callk (hSa ) rfl ⟨VT.le_refl _, VT.le_refl _, trivial⟩) rfl ?_
    refine st (s_pickT rfl rfl) rfl (st (s_move rfl) rfl (sg1 rfl rfl (s_move rfl) rfl (sg1 rfl rfl (s_move rfl) rfl (sg1 rfl rfl (sT (by omega) (s_eq rfl rfl)) rfl (st (s_pickT rfl rfl) rfl (st (s_move rfl) rfl (sg1 rfl rfl (s_loadW 3 rfl rfl) rfl (sg1 rfl rfl (s_move rfl) rfl ?_))))))))
    refine sg1 rfl rfl (s_callk (hM1 ) rfl ⟨VT.le_refl _, VT.le_refl _, trivial⟩) rfl ?_
    refine sg1 rfl rfl (s_loadW 3 rfl rfl) rfl (sg1 rfl rfl (s_move rfl) rfl ?_)
    refine sg1 rfl rfl (s_callk (hN1 ) rfl ⟨VT.le_refl _, VT.le_refl _, trivial⟩) rfl ?_
    refine sg1 rfl rfl (s_callk (hS1 ) rfl ⟨VT.le_refl _, VT.le_refl _, trivial⟩) rfl ?_
    refine st (s_pickT rfl rfl) rfl (st (s_move rfl) rfl (sg1 rfl rfl (s_loadW 3 rfl rfl) rfl (sg1 rfl rfl (s_move rfl) rfl (sg1 rfl rfl (s_rem rfl rfl (by decide) rfl) rfl ?_))))
    refine sg1 rfl rfl (s_callk (hM2 ) rfl ⟨VT.le_refl _, VT.le_refl _, trivial⟩) rfl ?_
    refine sg1 rfl rfl (s_loadW 3 rfl rfl) rfl (sg1 rfl rfl (s_move rfl) rfl (sg1 rfl rfl (s_rem rfl rfl (by decide) rfl) rfl ?_))
    refine sg1 rfl rfl (s_callk (hN2 ) rfl ⟨VT.le_refl _, VT.le_refl _, trivial⟩) rfl ?_
    refine sg1 rfl rfl (s_callk (hS2 ) rfl ⟨VT.le_refl _, VT.le_refl _, trivial⟩) rfl ?_
    refine st (s_pickT rfl rfl) rfl (st (s_move rfl) rfl (sg1 rfl rfl (s_loadW 0 rfl rfl) rfl (sg1 rfl rfl (s_loadW 3 rfl rfl) rfl ?_)))
    refine sg1 rfl rfl (s_callk (hC2 ) rfl ⟨VT.le_refl _, trivial⟩) rfl ?_
    refine sg1 rfl rfl (sT (by omega) (s_eqT rfl rfl)) rfl (st (s_pickT rfl rfl) rfl (Run.nil (st (s_assign rfl) rfl (Run.nil (pj_then (J_ret ?_))))))
    refine retc1 Try.results3 (.tmp rfl (one_le (by simp)))
end Tor
end
section
namespace Tor
open Go Go.RowKit Go.Proofs
theorem minorsLawY_ok (r c : Nat) (l : List Int) (y0 : (r : Int) ≤ IntKind.max .u8 ∧ (c : Int) ≤ IntKind.max .u8 ∧ (∀ x ∈ l, IntKind.min .i8 ≤ x ∧ x ≤ IntKind.max .i8) ∧ True) : Ok Try.prog 5 [rawInT r c l] (one (.bool true)) :=
  minorsLaw_ok r c l (by have h : (r : Int) ≤ 255 := y0.1; omega) (by have h : (c : Int) ≤ 255 := y0.2.1; omega)
theorem matchLawY_ok {p1 : Prop} (r c : Nat) (l : List Int) (k : Int) (y0 : (r : Int) ≤ IntKind.max .u8 ∧ (c : Int) ≤ IntKind.max .u8 ∧ (∀ x ∈ l, IntKind.min .i8 ≤ x ∧ x ≤ IntKind.max .i8) ∧ True) (y1 : p1) : Ok Try.prog 3 [rawInT r c l, one (.int .i64 k)] (one (.bool true)) :=
  matchLaw_ok r c l k (by have h : (r : Int) ≤ 255 := y0.1; omega) (by have h : (c : Int) ≤ 255 := y0.2.1; omega)
end Tor
end
section
set_option maxRecDepth 100000
namespace Tor
open Go Go.RowKit Go.ChangeShapes Go.WideShapes Go.ChangeAt Go.Joins Go.Proofs
theorem rd_raw {H : Type} {enc : TypeId × Value → H} {W : World} {base : Nat} {v : Value} {d : DataW H} {ps : List MemPlace} (hval : Value.okWide Try.prog W .any base 24 v) (hT : DataW.Trod enc Try.prog W 0 (fun _ => true) true 24 v d ps) (hw : ∀ x ∈ DataW.weights Try.prog 24 d, x ≤ reachBytes) :
    ∃ (r : Nat) (c : Nat) (l : List Int), (rawInT r c l).p v (view W) ∧ (r : Int) ≤ IntKind.max .u8 ∧ (c : Int) ≤ IntKind.max .u8 ∧ (∀ x ∈ l, IntKind.min .i8 ≤ x ∧ x ≤ IntKind.max .i8) ∧ True := by
  obtain ⟨cs, rfl, h⟩ := arg_agg 8 (ts := [5, 5, 22]) (by kernel_rfl) (.inl ⟨_, Try.underlying24⟩) hval hT hw
  obtain ⟨c0, r0, rfl, h0, g0⟩ := h
  obtain ⟨c1, r1, rfl, h1, g1⟩ := g0
  obtain ⟨c2, r2, rfl, h2, g2⟩ := g1
  cases g2
  obtain ⟨r, rfl, b0⟩ := leaf_nat Try.underlying5 rfl h0
  obtain ⟨c, rfl, b1⟩ := leaf_nat Try.underlying5 rfl h1
  obtain ⟨l, k2, b2⟩ := leaf_nums Try.underlying22 Try.underlying77 (by kernel_rfl) (of_decide_eq_true (by kernel_rfl)) h2
  exact ⟨r, c, l, agg_p (φs := [one (.int .u8 r), one (.int .u8 c), numT .i8 l]) ⟨rfl, rfl, ⟨rfl, rfl, ⟨k2, slT_one k2, trivial⟩⟩⟩, b0, b1, b2, trivial⟩
theorem rd_d8 {H : Type} {enc : TypeId × Value → H} {W : World} {base : Nat} {v : Value} {d : DataW H} {ps : List MemPlace} (hval : Value.okWide Try.prog W .any base 22 v) (hT : DataW.Trod enc Try.prog W 0 (fun _ => true) true 22 v d ps) (hw : ∀ x ∈ DataW.weights Try.prog 22 d, x ≤ reachBytes) :
    ∃ (d : List Int), (numT .i8 d).p v (view W) ∧ (∀ x ∈ d, IntKind.min .i8 ≤ x ∧ x ≤ IntKind.max .i8) ∧ True := by
  have h := arg_leaf (.inr (.inr ⟨_, Try.underlying22⟩)) hval hT hw
  obtain ⟨d, k0, b0⟩ := leaf_nums Try.underlying22 Try.underlying77 (by kernel_rfl) (of_decide_eq_true (by kernel_rfl)) h
  exact ⟨d, k0, b0, trivial⟩
theorem rd_k64 {H : Type} {enc : TypeId × Value → H} {W : World} {base : Nat} {v : Value} {d : DataW H} {ps : List MemPlace} (hval : Value.okWide Try.prog W .any base 3 v) (hT : DataW.Trod enc Try.prog W 0 (fun _ => true) true 3 v d ps) (hw : ∀ x ∈ DataW.weights Try.prog 3 d, x ≤ reachBytes) :
    ∃ (k : Int), (one (.int .i64 k)).p v (view W) ∧ (IntKind.min .i64 ≤ k ∧ k ≤ IntKind.max .i64) ∧ True := by
  have h := arg_leaf (.inl ⟨_, Try.underlying3⟩) hval hT hw
  obtain ⟨k, rfl, b0⟩ := leaf_int Try.underlying3 h
  exact ⟨k, rfl, b0, trivial⟩
end Tor
namespace Go.Proofs.Ytelkiipjepcjmaa
open Go.ChangeShapes Go.WideShapes Go.ChangeAt Go.RowKit Go.Joins Tor
theorem boundHadamard_own : ownKnob Try.prog.godebug = none := by kernel_rfl
theorem boundHadamard_laid : laidOutB Try.prog = true := by kernel_rfl
set_option maxRecDepth 100000 in
theorem boundHadamard_lifted (os : Os) (started : os.Started) (H : Type) (enc : TypeId × Value → H) :
    ReturnsInHanded {} Try.checked os 4 .any (Rows.boundHadamardSpec.pre6 enc Try.prog Try.f4 Rows.boundHadamardRow.domain false) (Rows.boundHadamardSpec.post enc Try.prog Try.f4 false true false false) := by
  refine returnsInHanded_of_change_sized (C := Try.checked) boundHadamard_own started (by kernel_rfl) Try.func4
    (ChangeSpec.witness6 (enc := enc) (C := Try.checked) false ⟨#[], #[.agg #[.int .u8 0, .int .u8 0, .slice none 0 0], .slice none 0 0], []⟩ 8 (by kernel_rfl) (by kernel_rfl) (by kernel_rfl) (by kernel_rfl)) ?_
  intro W base args ds gs before hval0 hW hcnd hsz0 _
  have hval : ∀ (j : Nat) t v, Try.f4.params[j]? = some t → args[j]? = some v → Value.okWide Try.prog W .any base t v := hval0
  have hsz : (DataW.weightsEach Try.prog (Try.f4.params.toList ++ Rows.boundHadamardSpec.plain.varTypes Try.prog) (ds ++ gs)).all (· ≤ reachBytes) = true := hsz0
  have hW' := hW
  obtain ⟨p, q, hA0, hV, rfl, hfz, hnd⟩ := hW
  have hA : DataW.TrodAll enc Try.prog W 0 (fun _ => true) true Try.f4.params.toList args.toList ds p := hA0
  rw [Try.params4] at hA hval hsz
  obtain ⟨v0, v1, d0, d1, p0, p1, rfl, rfl, rfl, h0, h1⟩ := trodAll_two hA
  obtain ⟨rfl, rfl⟩ := trodVars_none hV
  obtain ⟨r_0, c_0, l_0, x0, y0⟩ := rd_raw (hval 0 24 _ rfl rfl) h0 (arg_weights hsz 0 rfl rfl)
  obtain ⟨d_1, x1, y1⟩ := rd_d8 (hval 1 22 _ rfl rfl) h1 (arg_weights hsz 1 rfl rfl)
  refine (Ok.outside (W := W) (args := #[v0, v1]) (hadamardLaw_ok r_0 c_0 l_0 d_1) (And.intro x0 (And.intro x1 (trivial)))).mono fun e W' ⟨v, he, hv, hw⟩ => ?_
  subst he
  have hv : v = .bool true := hv
  subst hv
  refine ⟨_, rfl, _, [], _, [], _, [], hW', trodAll_mk1 (shut_bool Try.underlying4 true), trodAll_mk2
    (Below.trod boundHadamard_laid (by kernel_rfl) (of_decide_eq_true (by kernel_rfl)) h0 hw (fun x hx => by simpa using hW'.lt x (by simp only [List.mem_append] at hx ⊢; simp [hx])))
    (Below.trod boundHadamard_laid (by kernel_rfl) (of_decide_eq_true (by kernel_rfl)) h1 hw (fun x hx => by simpa using hW'.lt x (by simp only [List.mem_append] at hx ⊢; simp [hx]))), rfl, hw.frame _, fun h => by cases h⟩
theorem boundHadamard_holds : Rows.BoundHadamardSaid :=
  OpenClaim.holds_of_wide 4 Try.f4 rfl rfl rfl rfl rfl rfl rfl ⟨rfl, rfl, rfl, rfl, rfl⟩ rfl rfl rfl rfl rfl (by kernel_rfl) Try.func4 (by kernel_rfl)
    (of_decide_eq_true (by kernel_rfl)) (by unfold Func.isWrapper; first | (rw [if_pos (by decide +kernel)]; kernel_rfl) | (rw [if_neg (by decide +kernel)]; exact ⟨rfl, rfl⟩))
    (fun os started H enc _ => boundHadamard_lifted os started H enc)
end Go.Proofs.Ytelkiipjepcjmaa
namespace Tor
end Tor
namespace Go.Proofs.Ytelkiipjepcjmaa
open Go.ChangeShapes Go.WideShapes Go.ChangeAt Go.RowKit Go.Joins Tor
theorem boundMinors_own : ownKnob Try.prog.godebug = none := by kernel_rfl
theorem boundMinors_laid : laidOutB Try.prog = true := by kernel_rfl
set_option maxRecDepth 100000 in
theorem boundMinors_lifted (os : Os) (started : os.Started) (H : Type) (enc : TypeId × Value → H) :
    ReturnsInHanded {} Try.checked os 5 .any (Rows.boundMinorsSpec.pre6 enc Try.prog Try.f5 Rows.boundMinorsRow.domain false) (Rows.boundMinorsSpec.post enc Try.prog Try.f5 false true false false) := by
  refine returnsInHanded_of_change_sized (C := Try.checked) boundMinors_own started (by kernel_rfl) Try.func5
    (ChangeSpec.witness6 (enc := enc) (C := Try.checked) false ⟨#[], #[.agg #[.int .u8 0, .int .u8 0, .slice none 0 0]], []⟩ 8 (by kernel_rfl) (by kernel_rfl) (by kernel_rfl) (by kernel_rfl)) ?_
  intro W base args ds gs before hval0 hW hcnd hsz0 _
  have hval : ∀ (j : Nat) t v, Try.f5.params[j]? = some t → args[j]? = some v → Value.okWide Try.prog W .any base t v := hval0
  have hsz : (DataW.weightsEach Try.prog (Try.f5.params.toList ++ Rows.boundMinorsSpec.plain.varTypes Try.prog) (ds ++ gs)).all (· ≤ reachBytes) = true := hsz0
  have hW' := hW
  obtain ⟨p, q, hA0, hV, rfl, hfz, hnd⟩ := hW
  have hA : DataW.TrodAll enc Try.prog W 0 (fun _ => true) true Try.f5.params.toList args.toList ds p := hA0
  rw [Try.params5] at hA hval hsz
  obtain ⟨v0, d0, rfl, rfl, h0⟩ := trodAll_one hA
  obtain ⟨rfl, rfl⟩ := trodVars_none hV
  obtain ⟨r_0, c_0, l_0, x0, y0⟩ := rd_raw (hval 0 24 _ rfl rfl) h0 (arg_weights hsz 0 rfl rfl)
  refine (Ok.outside (W := W) (args := #[v0]) (minorsLawY_ok r_0 c_0 l_0 y0) (And.intro x0 (trivial))).mono fun e W' ⟨v, he, hv, hw⟩ => ?_
  subst he
  have hv : v = .bool true := hv
  subst hv
  refine ⟨_, rfl, _, [], _, [], _, [], hW', trodAll_mk1 (shut_bool Try.underlying4 true), trodAll_mk1
    (Below.trod boundMinors_laid (by kernel_rfl) (of_decide_eq_true (by kernel_rfl)) h0 hw (fun x hx => by simpa using hW'.lt x (by simp only [List.mem_append] at hx ⊢; simp [hx]))), rfl, hw.frame _, fun h => by cases h⟩
theorem boundMinors_holds : Rows.BoundMinorsSaid :=
  OpenClaim.holds_of_wide 5 Try.f5 rfl rfl rfl rfl rfl rfl rfl ⟨rfl, rfl, rfl, rfl, rfl⟩ rfl rfl rfl rfl rfl (by kernel_rfl) Try.func5 (by kernel_rfl)
    (of_decide_eq_true (by kernel_rfl)) (by unfold Func.isWrapper; first | (rw [if_pos (by decide +kernel)]; kernel_rfl) | (rw [if_neg (by decide +kernel)]; exact ⟨rfl, rfl⟩))
    (fun os started H enc _ => boundMinors_lifted os started H enc)
end Go.Proofs.Ytelkiipjepcjmaa
namespace Tor
end Tor
namespace Go.Proofs.Ytelkiipjepcjmaa
open Go.ChangeShapes Go.WideShapes Go.ChangeAt Go.RowKit Go.Joins Tor
theorem boundMatchesReference_own : ownKnob Try.prog.godebug = none := by kernel_rfl
theorem boundMatchesReference_laid : laidOutB Try.prog = true := by kernel_rfl
set_option maxRecDepth 100000 in
theorem boundMatchesReference_lifted (os : Os) (started : os.Started) (H : Type) (enc : TypeId × Value → H) :
    ReturnsInHanded {} Try.checked os 3 .any (Rows.boundMatchesReferenceSpec.pre6 enc Try.prog Try.f3 Rows.boundMatchesReferenceRow.domain false) (Rows.boundMatchesReferenceSpec.post enc Try.prog Try.f3 false true false false) := by
  refine returnsInHanded_of_change_sized (C := Try.checked) boundMatchesReference_own started (by kernel_rfl) Try.func3
    (ChangeSpec.witness6 (enc := enc) (C := Try.checked) false ⟨#[], #[.agg #[.int .u8 0, .int .u8 0, .slice none 0 0], .int .i64 0], []⟩ 8 (by kernel_rfl) (by kernel_rfl) (by kernel_rfl) (by kernel_rfl)) ?_
  intro W base args ds gs before hval0 hW hcnd hsz0 _
  have hval : ∀ (j : Nat) t v, Try.f3.params[j]? = some t → args[j]? = some v → Value.okWide Try.prog W .any base t v := hval0
  have hsz : (DataW.weightsEach Try.prog (Try.f3.params.toList ++ Rows.boundMatchesReferenceSpec.plain.varTypes Try.prog) (ds ++ gs)).all (· ≤ reachBytes) = true := hsz0
  have hW' := hW
  obtain ⟨p, q, hA0, hV, rfl, hfz, hnd⟩ := hW
  have hA : DataW.TrodAll enc Try.prog W 0 (fun _ => true) true Try.f3.params.toList args.toList ds p := hA0
  rw [Try.params3] at hA hval hsz
  obtain ⟨v0, v1, d0, d1, p0, p1, rfl, rfl, rfl, h0, h1⟩ := trodAll_two hA
  obtain ⟨rfl, rfl⟩ := trodVars_none hV
  obtain ⟨r_0, c_0, l_0, x0, y0⟩ := rd_raw (hval 0 24 _ rfl rfl) h0 (arg_weights hsz 0 rfl rfl)
  obtain ⟨k_1, x1, y1⟩ := rd_k64 (hval 1 3 _ rfl rfl) h1 (arg_weights hsz 1 rfl rfl)
  refine (Ok.outside (W := W) (args := #[v0, v1]) (matchLawY_ok r_0 c_0 l_0 k_1 y0 y1) (And.intro x0 (And.intro x1 (trivial)))).mono fun e W' ⟨v, he, hv, hw⟩ => ?_
  subst he
  have hv : v = .bool true := hv
  subst hv
  refine ⟨_, rfl, _, [], _, [], _, [], hW', trodAll_mk1 (shut_bool Try.underlying4 true), trodAll_mk2
    (Below.trod boundMatchesReference_laid (by kernel_rfl) (of_decide_eq_true (by kernel_rfl)) h0 hw (fun x hx => by simpa using hW'.lt x (by simp only [List.mem_append] at hx ⊢; simp [hx])))
    (Below.trod boundMatchesReference_laid (by kernel_rfl) (of_decide_eq_true (by kernel_rfl)) h1 hw (fun x hx => by simpa using hW'.lt x (by simp only [List.mem_append] at hx ⊢; simp [hx]))), rfl, hw.frame _, fun h => by cases h⟩
theorem boundMatchesReference_holds : Rows.BoundMatchesReferenceSaid :=
  OpenClaim.holds_of_wide 3 Try.f3 rfl rfl rfl rfl rfl rfl rfl ⟨rfl, rfl, rfl, rfl, rfl⟩ rfl rfl rfl rfl rfl (by kernel_rfl) Try.func3 (by kernel_rfl)
    (of_decide_eq_true (by kernel_rfl)) (by unfold Func.isWrapper; first | (rw [if_pos (by decide +kernel)]; kernel_rfl) | (rw [if_neg (by decide +kernel)]; exact ⟨rfl, rfl⟩))
    (fun os started H enc _ => boundMatchesReference_lifted os started H enc)
end Go.Proofs.Ytelkiipjepcjmaa
namespace Tor
end Tor
end
