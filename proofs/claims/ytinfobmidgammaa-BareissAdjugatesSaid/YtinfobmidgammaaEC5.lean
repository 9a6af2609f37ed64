/-
  Theorems that the proofs of laws of this seat rest on.
  No condition.
-/
import Derived.Test.YtinfobmidgammaaEC4
import Init
section
set_option linter.unusedVariables false
set_option linter.unusedSimpArgs false
namespace Tor
open Go Go.RowKit Go.Proofs
def fill3 (F : Nat → Nat → Int) (i j : Nat) (x : Int) : Nat → Nat → Int := fun q k => if q < i ∨ (q = i ∧ k < j) then F q k else if q = i ∧ k = j then x else 0
theorem fill3_zero (F : Nat → Nat → Int) (i j : Nat) : fill3 F i j 0 = fill2 F i j := by
  funext q k; unfold fill3 fill2; split
  · rfl
  · split <;> rfl
theorem fill3_full (F : Nat → Nat → Int) (i j : Nat) : fill3 F i j (F i j) = fill2 F i (j + 1) := by
  funext q k; unfold fill3 fill2
  by_cases h : q < i ∨ q = i ∧ k < j
  · rw [if_pos h, if_pos (by omega)]
  · rw [if_neg h]
    by_cases h2 : q = i ∧ k = j
    · obtain ⟨rfl, rfl⟩ := h2; rw [if_pos ⟨rfl, rfl⟩, if_pos (by omega)]
    · rw [if_neg h2, if_neg (by omega)]
theorem fill3_at (F : Nat → Nat → Int) (i j : Nat) (x : Int) : fill3 F i j x i j = x := by
  unfold fill3; rw [if_neg (by omega), if_pos ⟨rfl, rfl⟩]
theorem upd_fill3 {T : TypeId} {c : Nat} {bs : List Nat} {F : Nat → Nat → Int} {i j : Nat} (x y : Int) :
    Own.le (rowsO T (.agg 2) c bs (upd2 (fun q k => bigT (fill3 F i j x q k)) i j (bigT y))) (rowsO T (.agg 2) c bs (fun q k => bigT (fill3 F i j y q k))) := by
  refine rowsO_eq fun q k hq hk => ?_
  unfold upd2 fill3
  by_cases h : q = i ∧ k = j
  · obtain ⟨rfl, rfl⟩ := h
    rw [if_pos ⟨rfl, rfl⟩, if_neg (by omega), if_pos ⟨rfl, rfl⟩]
  · simp only [if_neg h]
attribute [local irreducible] Tor.J Tor.PJ Tor.StepO Tor.one Tor.slT Tor.ptrT Tor.aggT Tor.tupT Tor.exT Tor.andT Tor.gT Tor.eP Tor.boxO Tor.sliO Tor.slV Tor.VT.le Tor.Ret Tor.anyT
attribute [local irreducible] bigT Tor.rowsO
set_option maxHeartbeats 8000000 in
theorem rMulM_ok (ra ca : Nat) (F : Nat → Nat → Int) (rb cb : Nat) (G : Nat → Nat → Int) (hr0 : ra ≤ 1048576) (hc0 : ca ≤ 1048576) (hd0 : cb ≤ 1048576) (hF : ∀ i j, mod4 (F i j)) (hG : ∀ i j, mod4 (G i j)) :
    Ok Try.prog 38 [matF ra ca F, matF rb cb G] (resMT (decide (ca = rb)) 50 ra cb (mulF ca F G)) := by
  unfold resMT matF
  refine Ok.enter Try.func38 rfl Try.ntmps38 rfl (fun w O => ?_)
  refine J_seq ?_
  refine J_reg ?_
  refine a_boxS rfl rfl (ltN rfl) (fun b => ?_)
  refine a_boxS rfl rfl (ltN rfl) (fun b => ?_)
  refine a_allocS (T := 29) rfl rfl rfl (fun b => ?_)
  refine st (s_assign rfl) rfl ?_
  refine Run.nil ?_
  refine pj_then ?_
  refine J_seq ?_
  refine J_seq ?_
  refine J_reg ?_
  refine st (s_fieldAddr rfl) rfl ?_
  refine st (s_loadB 2 rfl rfl rfl) rfl ?_
  refine st (s_fieldAddr rfl) rfl ?_
  refine st (s_loadB 1 rfl rfl rfl) rfl ?_
  refine st (s_ne rfl rfl) rfl ?_
  refine Run.nil ?_
  refine pj_then ?_
  refine J_cond rfl (fun hc => ?_) (fun hc => ?_) <;> simp only [decide_eq_true_eq, decide_eq_false_iff_not, ne_eq, Decidable.not_not] at hc
  · have hne : ¬ ca = rb := by omega
    refine J_seq ?_
    refine J_reg ?_
    refine stB rfl rfl rfl ?_
    refine BuildK.nil ?_
    refine a_storeW 0 rfl rfl rfl rfl ?_
    refine st (s_assign rfl) rfl ?_
    refine Run.nil ?_
    refine pj_then ?_
    refine J_ret ?_
    refine pr_then ?_
    refine retc2 Try.results38 (.cellW 0 rfl rfl ?_) (.tmp rfl (one_le ?_))
    · rw [decide_eq_false hne]; exact zero_mat _
    · rw [decide_eq_false hne]; rfl
  · have e2 : ca = rb := by omega
    subst e2
    refine J_skip ?_
    refine pj_then ?_
    refine J_seq ?_
    refine J_reg ?_
    refine st (s_fieldAddr rfl) rfl ?_
    refine st (s_loadB 2 rfl rfl rfl) rfl ?_
    refine st (s_fieldAddr rfl) rfl ?_
    refine st (s_loadB 1 rfl rfl rfl) rfl ?_
    refine a_callM (rNew_ok ra cb hr0 hd0) rfl ⟨VT.le_refl _, VT.le_refl _, trivial⟩ rfl rfl (fun s => ?_)
    obtain ⟨⟨bs, sv1, cap1⟩, hlen, hsv⟩ := s
    simp only at hlen hsv
    unfold newT
    refine a_allocS (T := 29) rfl rfl rfl (fun b => ?_)
    refine a_storeW 0 rfl rfl rfl rfl ?_
    refine Run.nil ?_
    refine pj_then ?_
    refine J_seq ?_
    refine J_seq ?_
    refine J_reg ?_
    refine st (s_assign rfl) rfl ?_
    refine Run.nil ?_
    refine pj_then ?_
    refine J_block ?_
    rename_i b2 b3 b4
    refine J_loop (σ := Nat) (fun i => [(2, one (.pointer (some ⟨b2, 0, none⟩))), (3, one (.pointer (some ⟨b3, 0, none⟩))), (4, one (.pointer (some ⟨b4, 0, none⟩))), (6, one (.pointer (some ⟨b, 0, none⟩))), (7, one (.int .i64 (i : Nat)))])
      (fun i => [boxO b 29 3 [(0, .one, one (.int .i64 ra)), (1, .one, one (.int .i64 cb)), (2, .one, one (slV sv1 ra cap1))], outO sv1 cap1 ra cb bs, ownR cb bs (fill2 (mulF ca F G) i 0), boxO b4 29 3 (zeroC #[Value.int IntKind.i64 0, Value.int IntKind.i64 0, Value.slice none 0 0] [(0, Lay.one), (1, Lay.one), (2, Lay.one)]), boxO b3 29 3 [(0, .one, one (.int .i64 ca)), (1, .one, one (.int .i64 cb)), (2, .one, slT .one ca (fun i => rowF cb (G i)))], boxO b2 29 3 [(0, .one, one (.int .i64 ra)), (1, .one, one (.int .i64 ca)), (2, .one, slT .one ra (fun i => rowF ca (F i)))]])
      (fun i => i ≤ ra) (fun i => ra - i) 0 (Nat.zero_le _) (by repeat (first | exact SubG.nil | refine SubG.cons rfl (VT.le_refl _) ?_ | (refine SubG.cons rfl (one_le ?_) ?_; (congr 1; first | omega | (simp; omega) | simp)))) (.keep (Own.le_refl _) (.keep (Own.le_refl _) (.keep (ownR_le fun i j hi hj => by simp [fill2]) (SubM.refl _)))) (fun i hi => ?_)
    refine J_seq ?_
    refine J_seq ?_
    refine J_reg ?_
    refine st (s_move rfl) rfl ?_
    refine st (s_fieldAddr rfl) rfl ?_
    refine st (s_loadB 5 rfl rfl rfl) rfl ?_
    refine st (s_lt rfl rfl) rfl ?_
    refine Run.nil ?_
    refine pj_then ?_
    refine J_cond rfl (fun hc => ?_) (fun hc => ?_) <;> simp only [decide_eq_true_eq, decide_eq_false_iff_not, Int.ofNat_lt] at hc
    · obtain ⟨bo, rfl⟩ := sv_some hsv (by omega)
      refine J_skip ?_
      refine pj_then ?_
      refine J_seq ?_
      refine J_block ?_
      refine J_seq ?_
      refine J_reg ?_
      refine st (s_assign rfl) rfl ?_
      refine Run.nil ?_
      refine pj_then ?_
      refine J_block ?_
      refine J_loop (σ := Nat) (fun j => [(2, one (.pointer (some ⟨b2, 0, none⟩))), (3, one (.pointer (some ⟨b3, 0, none⟩))), (4, one (.pointer (some ⟨b4, 0, none⟩))), (6, one (.pointer (some ⟨b, 0, none⟩))), (7, one (.int .i64 (i : Nat))), (8, one (.int .i64 (j : Nat)))])
        (fun j => [boxO b 29 3 [(0, .one, one (.int .i64 ra)), (1, .one, one (.int .i64 cb)), (2, .one, one (slV (some bo) ra cap1))], outO (some bo) cap1 ra cb bs, ownR cb bs (fill2 (mulF ca F G) i j), boxO b4 29 3 (zeroC #[Value.int IntKind.i64 0, Value.int IntKind.i64 0, Value.slice none 0 0] [(0, Lay.one), (1, Lay.one), (2, Lay.one)]), boxO b3 29 3 [(0, .one, one (.int .i64 ca)), (1, .one, one (.int .i64 cb)), (2, .one, slT .one ca (fun i => rowF cb (G i)))], boxO b2 29 3 [(0, .one, one (.int .i64 ra)), (1, .one, one (.int .i64 ca)), (2, .one, slT .one ra (fun i => rowF ca (F i)))]])
        (fun j => j ≤ cb) (fun j => cb - j) 0 (Nat.zero_le _) (by repeat (first | exact SubG.nil | refine SubG.cons rfl (VT.le_refl _) ?_ | (refine SubG.cons rfl (one_le ?_) ?_; (congr 1; first | omega | (simp; omega) | simp)))) (SubM.refl _) (fun j hj => ?_)
      refine J_seq ?_
      refine J_seq ?_
      refine J_reg ?_
      refine st (s_move rfl) rfl ?_
      refine st (s_fieldAddr rfl) rfl ?_
      refine st (s_loadB 4 rfl rfl rfl) rfl ?_
      refine st (s_lt rfl rfl) rfl ?_
      refine Run.nil ?_
      refine pj_then ?_
      refine J_cond rfl (fun hc2 => ?_) (fun hc2 => ?_) <;> simp only [decide_eq_true_eq, decide_eq_false_iff_not, Int.ofNat_lt] at hc2
      · refine J_skip ?_
        refine pj_then ?_
        refine J_seq ?_
        refine J_block ?_
        refine J_seq ?_
        refine J_reg ?_
        refine st (s_assign rfl) rfl ?_
        refine Run.nil ?_
        refine pj_then ?_
        refine J_block ?_
        refine J_loop (σ := Nat) (fun k => [(2, one (.pointer (some ⟨b2, 0, none⟩))), (3, one (.pointer (some ⟨b3, 0, none⟩))), (4, one (.pointer (some ⟨b4, 0, none⟩))), (6, one (.pointer (some ⟨b, 0, none⟩))), (7, one (.int .i64 (i : Nat))), (8, one (.int .i64 (j : Nat))), (9, one (.int .i64 (k : Nat)))])
          (fun k => [boxO b 29 3 [(0, .one, one (.int .i64 ra)), (1, .one, one (.int .i64 cb)), (2, .one, one (slV (some bo) ra cap1))], outO (some bo) cap1 ra cb bs, ownR cb bs (fill3 (mulF ca F G) i j (sumF k (fun k => F i k * G k j))), boxO b4 29 3 (zeroC #[Value.int IntKind.i64 0, Value.int IntKind.i64 0, Value.slice none 0 0] [(0, Lay.one), (1, Lay.one), (2, Lay.one)]), boxO b3 29 3 [(0, .one, one (.int .i64 ca)), (1, .one, one (.int .i64 cb)), (2, .one, slT .one ca (fun i => rowF cb (G i)))], boxO b2 29 3 [(0, .one, one (.int .i64 ra)), (1, .one, one (.int .i64 ca)), (2, .one, slT .one ra (fun i => rowF ca (F i)))]])
          (fun k => k ≤ ca) (fun k => ca - k) 0 (Nat.zero_le _) (by repeat (first | exact SubG.nil | refine SubG.cons rfl (VT.le_refl _) ?_ | (refine SubG.cons rfl (one_le ?_) ?_; (congr 1; first | omega | (simp; omega) | simp)))) (.keep (Own.le_refl _) (.keep (Own.le_refl _) (.keep (by rw [show sumF 0 (fun k => F i k * G k j) = 0 from rfl, fill3_zero]; exact Own.le_refl _) (SubM.refl _)))) (fun k hk => ?_)
        refine J_seq ?_
        refine J_seq ?_
        refine J_reg ?_
        refine st (s_move rfl) rfl ?_
        refine st (s_fieldAddr rfl) rfl ?_
        refine st (s_loadB 5 rfl rfl rfl) rfl ?_
        refine st (s_lt rfl rfl) rfl ?_
        refine Run.nil ?_
        refine pj_then ?_
        refine J_cond rfl (fun hc3 => ?_) (fun hc3 => ?_) <;> simp only [decide_eq_true_eq, decide_eq_false_iff_not, Int.ofNat_lt] at hc3
        · refine J_skip ?_
          refine pj_then ?_
          refine J_seq ?_
          refine J_block ?_
          refine J_regd 33 mixed (by kernel_rfl) (by decide) ?_
          unfold rowF
          refine st (s_fieldAddr rfl) rfl ?_
          refine st (s_loadB 0 rfl rfl rfl) rfl ?_
          refine st (s_move rfl) rfl ?_
          (refine st (s_indexON rfl rfl ?_) rfl ?_; omega)
          (refine st (s_loadE 1 rfl rfl ?_) rfl ?_; omega)
          refine st (s_move rfl) rfl ?_
          refine st (s_fieldAddr rfl) rfl ?_
          refine st (s_loadB 0 rfl rfl rfl) rfl ?_
          refine st (s_move rfl) rfl ?_
          (refine st (s_indexON rfl rfl ?_) rfl ?_; omega)
          (refine st (s_loadE 1 rfl rfl ?_) rfl ?_; omega)
          refine st (s_move rfl) rfl ?_
          (refine st (s_indexON rfl rfl ?_) rfl ?_; omega)
          (refine st (s_loadR 2 rfl rfl (getq ?_) ?_) rfl ?_; omega; omega)
          refine st (s_fieldAddr rfl) rfl ?_
          refine st (s_loadB 5 rfl rfl rfl) rfl ?_
          refine st (s_move rfl) rfl ?_
          (refine st (s_indexIN rfl rfl ?_) rfl ?_; omega)
          refine st (s_load rfl) rfl ?_
          refine st (s_move rfl) rfl ?_
          (refine st (s_indexIN rfl rfl ?_) rfl ?_; omega)
          refine st (s_load rfl) rfl ?_
          refine st (s_fieldAddr rfl) rfl ?_
          refine st (s_loadB 4 rfl rfl rfl) rfl ?_
          refine st (s_move rfl) rfl ?_
          (refine st (s_indexIN rfl rfl ?_) rfl ?_; omega)
          refine st (s_load rfl) rfl ?_
          refine st (s_move rfl) rfl ?_
          (refine st (s_indexIN rfl rfl ?_) rfl ?_; omega)
          refine st (s_load rfl) rfl ?_
          refine st (s_callk (rMulI_ok (F i k) (G k j) (mod4_small (hF i k)) (mod4_small (hG k j))) rfl ⟨VT.le_refl _, VT.le_refl _, trivial⟩) rfl ?_
          rw [fill3_at]
          refine st (s_callk (rAddI_ok (sumF k (fun k => F i k * G k j)) (F i k * G k j) (sum_small (by omega) (fun k => mod4_mul (hF i k) (hG k j))) (small_le (mod4_mul (hF i k) (hG k j)) (by decide +kernel))) rfl ⟨VT.le_refl _, VT.le_refl _, trivial⟩) rfl ?_
          (refine st (s_indexON rfl rfl ?_) rfl ?_; omega)
          refine Run.nil ?_
          (refine a_storeR 2 rfl rfl rfl (getq ?_) ?_ rfl ?_; omega; omega)
          refine Run.nil ?_
          refine pn_block ?_
          refine pj_then ?_
          refine J_reg ?_
          refine st (s_move rfl) rfl ?_
          (refine st (s_add rfl rfl (wrap_i64 ?_ ?_)) rfl ?_; omega; omega)
          refine st (s_assign rfl) rfl ?_
          refine Run.nil ?_
          exact pj_round (s := k) (k + 1) (show _ from by omega) (by show ca - (k + 1) < ca - k; omega) (by repeat (first | exact SubG.nil | refine SubG.cons rfl (VT.le_refl _) ?_ | (refine SubG.cons rfl (one_le ?_) ?_; (congr 1; first | omega | (simp; omega) | simp)))) (.keep (Own.le_refl _) (.keep (Own.le_refl _) (.keep (upd_fill3 _ _) (SubM.refl _))))
        · have hkm : k = ca := by omega
          subst hkm
          refine J_exit ?_
          refine px_then ?_
          refine px_then ?_
          refine px_block ?_
          refine pn_block ?_
          refine pj_then ?_
          refine J_reg ?_
          refine st (s_move rfl) rfl ?_
          (refine st (s_add rfl rfl (wrap_i64 ?_ ?_)) rfl ?_; omega; omega)
          refine st (s_assign rfl) rfl ?_
          refine Run.nil ?_
          exact pj_round (s := j) (j + 1) (show _ from by omega) (by show cb - (j + 1) < cb - j; omega) (by repeat (first | exact SubG.nil | refine SubG.cons rfl (VT.le_refl _) ?_ | (refine SubG.cons rfl (one_le ?_) ?_; (congr 1; first | omega | (simp; omega) | simp)))) (.keep (Own.le_refl _) (.keep (Own.le_refl _) (.keep (by rw [← fill3_full]; exact Own.le_refl _) (SubM.refl _))))
      · have hjm : j = cb := by omega
        subst hjm
        refine J_exit ?_
        refine px_then ?_
        refine px_then ?_
        refine px_block ?_
        refine pn_block ?_
        refine pj_then ?_
        refine J_reg ?_
        refine st (s_move rfl) rfl ?_
        (refine st (s_add rfl rfl (wrap_i64 ?_ ?_)) rfl ?_; omega; omega)
        refine st (s_assign rfl) rfl ?_
        refine Run.nil ?_
        exact pj_round (s := i) (i + 1) (show _ from by omega) (by show ra - (i + 1) < ra - i; omega) (by repeat (first | exact SubG.nil | refine SubG.cons rfl (VT.le_refl _) ?_ | (refine SubG.cons rfl (one_le ?_) ?_; (congr 1; first | omega | (simp; omega) | simp)))) (.keep (Own.le_refl _) (.keep (Own.le_refl _) (.keep next_fill2 (SubM.refl _))))
    · have hin : i = ra := by omega
      subst hin
      refine J_exit ?_
      refine px_then ?_
      refine px_then ?_
      refine px_block ?_
      refine pj_then ?_
      refine J_seq ?_
      refine J_reg ?_
      refine st (s_loadW 0 rfl rfl) rfl ?_
      refine a_storeW 3 rfl rfl rfl rfl ?_
      refine st (s_assign rfl) rfl ?_
      refine Run.nil ?_
      refine pj_then ?_
      refine J_ret ?_
      have hperm : ∀ (x y z u t s : Own), [x, y, z, u, t, s].Perm ([y, z] ++ [x, u, t, s]) := fun x y z u t s => (List.Perm.swap y x _).trans (List.Perm.cons y (List.Perm.swap z x _))
      refine PJ_open [outO sv1 cap1 i cb bs, ownR cb bs (fill2 (mulF ca F G) i 0)] (hperm _ _ _ _ _ _) (.keep (EntO.refl _) (.keep (EntO.box (newT_open hlen ⟨by simp, by simp, by simp⟩)) (.keep (EntO.refl _) (.keep (EntO.refl _) .nil)))) (EntG.refl _) ?_
      refine retc2 Try.results38 (.cellW 1 rfl rfl ?_) (.tmp rfl (one_le ?_))
      · simp only [decide_true, if_true]; exact matF_le fun a b ha hb => by simp [fill2, ha]
      · simp
end Tor
end

section
set_option linter.unusedVariables false
set_option linter.unusedSimpArgs false
namespace Tor
open Go Go.RowKit Go.Proofs
def fillT (F : Nat → Nat → Int) (i j : Nat) : Nat → Nat → Int := fun q k => if k < i ∨ (k = i ∧ q < j) then F k q else 0
theorem upd_fillT {T : TypeId} {c : Nat} {bs : List Nat} {F : Nat → Nat → Int} {i j : Nat} :
    Own.le (rowsO T (.agg 2) c bs (upd2 (fun q k => bigT (fillT F i j q k)) j i (bigT (F i j)))) (rowsO T (.agg 2) c bs (fun q k => bigT (fillT F i (j + 1) q k))) := by
  refine rowsO_eq fun q k hq hk => ?_
  unfold upd2 fillT
  by_cases h : q = j ∧ k = i
  · obtain ⟨rfl, rfl⟩ := h; simp
  · rw [if_neg h]
    have e : (k < i ∨ k = i ∧ q < j + 1) ↔ (k < i ∨ k = i ∧ q < j) := by omega
    simp only [e]
attribute [local irreducible] Tor.J Tor.PJ Tor.StepO Tor.one Tor.slT Tor.ptrT Tor.aggT Tor.tupT Tor.exT Tor.andT Tor.gT Tor.eP Tor.boxO Tor.sliO Tor.slV Tor.VT.le Tor.Ret Tor.anyT
attribute [local irreducible] bigT Tor.rowsO
end Tor
end

section
set_option linter.unusedVariables false
set_option linter.unusedSimpArgs false
namespace Tor
open Go Go.RowKit Go.Proofs
attribute [local irreducible] Tor.J Tor.PJ Tor.StepO Tor.one Tor.slT Tor.ptrT Tor.aggT Tor.tupT Tor.exT Tor.andT Tor.gT Tor.eP Tor.boxO Tor.sliO Tor.slV Tor.VT.le Tor.Ret Tor.anyT
attribute [local irreducible] bigT
set_option maxHeartbeats 2000000 in
theorem rProduct_ok (ra ca : Nat) (F : Nat → Nat → Int) (cb : Nat) (G : Nat → Nat → Int) (hr0 : ra ≤ 1048576) (hc0 : ca ≤ 1048576) (hd0 : cb ≤ 1048576) (hF : ∀ i j, mod4 (F i j)) (hG : ∀ i j, mod4 (G i j)) :
    Ok Try.prog 9 [matF ra ca F, matF ca cb G] (matF ra cb (mulF ca F G)) := by
  unfold matF
  refine Ok.enter Try.func9 rfl Try.ntmps9 rfl (fun w O => ?_)
  refine J_seq ?_
  refine J_reg ?_
  refine a_boxS rfl rfl (ltN rfl) (fun b => ?_)
  refine a_boxS rfl rfl (ltN rfl) (fun b => ?_)
  refine a_allocS (T := 29) rfl rfl rfl (fun b => ?_)
  refine Run.nil ?_
  refine pj_then ?_
  refine J_seq ?_
  refine J_reg ?_
  refine st (s_loadW 2 rfl rfl) rfl ?_
  refine st (s_loadW 1 rfl rfl) rfl ?_
  have h := (rMulM_ok ra ca F ca cb G hr0 hc0 hd0 hF hG)
  rw [decide_eq_true (show ca = ca from rfl)] at h
  refine st (s_callk h rfl ⟨VT.le_refl _, VT.le_refl _, trivial⟩) rfl ?_
  unfold resMT
  simp only [if_true]
  refine st (s_move rfl) rfl ?_
  refine st (s_extract rfl rfl) rfl ?_
  refine st (s_extract rfl rfl) rfl ?_
  refine a_allocS (T := 29) rfl rfl rfl (fun b => ?_)
  refine a_storeW 0 rfl rfl rfl rfl ?_
  refine st (s_assign rfl) rfl ?_
  refine Run.nil ?_
  refine pj_then ?_
  refine J_seq ?_
  refine J_reg ?_
  refine st (s_loadW 0 rfl rfl) rfl ?_
  refine a_storeW 1 rfl rfl rfl rfl ?_
  refine Run.nil ?_
  refine pj_then ?_
  refine J_ret ?_
  exact retc1 Try.results9 (.cellW 1 rfl rfl (VT.le_refl _))
end Tor
end

section
set_option linter.unusedVariables false
set_option linter.unusedSimpArgs false
namespace Tor
open Go Go.RowKit Go.Proofs
attribute [local irreducible] Tor.J Tor.PJ Tor.StepO Tor.one Tor.slT Tor.ptrT Tor.aggT Tor.tupT Tor.exT Tor.andT Tor.gT Tor.eP Tor.boxO Tor.sliO Tor.slV Tor.VT.le Tor.Ret Tor.anyT
attribute [local irreducible] bigT Tor.rowsO
set_option maxHeartbeats 8000000 in
theorem Transpose_ok (r c : Nat) (F : Nat → Nat → Int) (hr0 : r ≤ 1048576) (hc0 : c ≤ 1048576) (hF : ∀ i j, small (F i j)) : Ok Try.prog 40 [matF r c F] (matF c r (fun i j => F j i)) := by
  unfold matF
  refine Ok.enter Try.func40 rfl Try.ntmps40 rfl (fun w O => ?_)
  refine J_seq ?_
  refine J_reg ?_
  refine a_boxS rfl rfl (ltN rfl) (fun b => ?_)
  refine a_allocS (T := 29) rfl rfl rfl (fun b => ?_)
  refine Run.nil ?_
  refine pj_then ?_
  refine J_seq ?_
  refine J_seq ?_
  refine J_reg ?_
  refine st (s_loadW 1 rfl rfl) rfl ?_
  refine st (s_callk (matValidF_ok r c F) rfl ⟨VT.le_refl _, trivial⟩) rfl ?_
  refine st (s_not rfl) rfl ?_
  refine Run.nil ?_
  refine pj_then ?_
  refine J_cond rfl (fun h => ?_) (fun h => ?_)
  · cases h
  · refine J_skip ?_
    refine pj_then ?_
    refine J_seq ?_
    refine J_reg ?_
    refine st (s_fieldAddr rfl) rfl ?_
    refine st (s_loadB 1 rfl rfl rfl) rfl ?_
    refine st (s_fieldAddr rfl) rfl ?_
    refine st (s_loadB 1 rfl rfl rfl) rfl ?_
    refine a_callM (New_ok c r hc0 hr0) rfl ⟨VT.le_refl _, VT.le_refl _, trivial⟩ rfl rfl (fun s => ?_)
    obtain ⟨⟨bs, sv1, cap1⟩, hlen, hsv⟩ := s
    simp only at hlen hsv
    unfold newT
    refine a_allocS (T := 29) rfl rfl rfl (fun b => ?_)
    refine a_storeW 0 rfl rfl rfl rfl ?_
    refine Run.nil ?_
    refine pj_then ?_
    refine J_seq ?_
    refine J_seq ?_
    refine J_reg ?_
    refine st (s_fieldAddr rfl) rfl ?_
    refine st (s_loadB 4 rfl rfl rfl) rfl ?_
    refine st (s_len rfl) rfl ?_
    refine st (s_move rfl) rfl ?_
    refine Run.nil ?_
    refine pj_then ?_
    refine J_block ?_
    rename_i b1 b2
    revert b
    intro b3
    refine J_loop (σ := Nat) (fun i => [(2, one (.pointer (some ⟨b2, 0, none⟩))), (3, one (.pointer (some ⟨b3, 0, none⟩))), (18, slT .one r (fun i => rowF c (F i))), (19, one (.int .i64 r)), (20, one (.int .i64 (i : Nat)))])
      (fun i => [boxO b3 29 3 [(0, .one, one (.int .i64 c)), (1, .one, one (.int .i64 r)), (2, .one, one (slV sv1 c cap1))], outO sv1 cap1 c r bs, ownR r bs (fillT F i 0), boxO b2 29 3 (zeroC #[Value.int IntKind.i64 0, Value.int IntKind.i64 0, Value.slice none 0 0] [(0, Lay.one), (1, Lay.one), (2, Lay.one)])])
      (fun i => i ≤ r) (fun i => r - i) 0 (Nat.zero_le _) (by repeat (first | exact SubG.nil | refine SubG.cons rfl (VT.le_refl _) ?_ | (refine SubG.cons rfl (one_le ?_) ?_; (congr 1; first | omega | (simp; omega) | simp)))) (.keep (Own.le_refl _) (.keep (Own.le_refl _) (.keep (ownR_le fun i j hi hj => by simp [fillT]) (.keep (Own.le_refl _) (.drop .nil))))) (fun i hi => ?_)
    refine J_seq ?_
    refine J_reg ?_
    refine st (s_lt rfl rfl) rfl ?_
    refine Run.nil ?_
    refine pj_then ?_
    refine J_seq ?_
    refine J_cond rfl (fun hc => ?_) (fun hc => ?_) <;> simp only [decide_eq_true_eq, decide_eq_false_iff_not, Int.ofNat_lt] at hc
    · unfold rowF
      refine J_skip ?_
      refine pj_then ?_
      refine J_seq ?_
      refine J_block ?_
      refine J_seq ?_
      refine J_reg ?_
      refine st (s_move rfl) rfl ?_
      (refine st (s_indexIN rfl rfl ?_) rfl ?_; omega)
      refine st (s_load rfl) rfl ?_
      refine st (s_assign rfl) rfl ?_
      refine st (s_assign rfl) rfl ?_
      refine Run.nil ?_
      refine pj_then ?_
      refine J_seq ?_
      refine J_reg ?_
      refine st (s_move rfl) rfl ?_
      refine st (s_len rfl) rfl ?_
      refine st (s_move rfl) rfl ?_
      refine Run.nil ?_
      refine pj_then ?_
      refine J_block ?_
      refine J_loop (σ := Nat) (fun j => [(2, one (.pointer (some ⟨b2, 0, none⟩))), (3, one (.pointer (some ⟨b3, 0, none⟩))), (18, slT .one r (fun i => slT (.agg 2) c (fun j => bigT (F i j)))), (19, one (.int .i64 r)), (20, one (.int .i64 (i : Nat))), (4, one (.int .i64 (i : Nat))), (25, slT (.agg 2) c (fun j => bigT (F i j))), (26, one (.int .i64 c)), (27, one (.int .i64 (j : Nat)))])
        (fun j => [boxO b3 29 3 [(0, .one, one (.int .i64 c)), (1, .one, one (.int .i64 r)), (2, .one, one (slV sv1 c cap1))], outO sv1 cap1 c r bs, ownR r bs (fillT F i j), boxO b2 29 3 (zeroC #[Value.int IntKind.i64 0, Value.int IntKind.i64 0, Value.slice none 0 0] [(0, Lay.one), (1, Lay.one), (2, Lay.one)])])
        (fun j => j ≤ c) (fun j => c - j) 0 (Nat.zero_le _) (by repeat (first | exact SubG.nil | refine SubG.cons rfl (VT.le_refl _) ?_ | (refine SubG.cons rfl (one_le ?_) ?_; (congr 1; first | omega | (simp; omega) | simp)))) (SubM.refl _) (fun j hj => ?_)
      refine J_seq ?_
      refine J_reg ?_
      refine st (s_lt rfl rfl) rfl ?_
      refine Run.nil ?_
      refine pj_then ?_
      refine J_seq ?_
      refine J_cond rfl (fun hc2 => ?_) (fun hc2 => ?_) <;> simp only [decide_eq_true_eq, decide_eq_false_iff_not, Int.ofNat_lt] at hc2
      · obtain ⟨bo, rfl⟩ := sv_some hsv (by omega)
        refine J_skip ?_
        refine pj_then ?_
        refine J_seq ?_
        refine J_block ?_
        refine J_seq ?_
        refine J_reg ?_
        refine st (s_move rfl) rfl ?_
        (refine st (s_indexIN rfl rfl ?_) rfl ?_; omega)
        refine st (s_load rfl) rfl ?_
        refine a_alloc (T := 34) rfl (ltN rfl) (fun b => ?_)
        refine st (s_assign rfl) rfl ?_
        refine a_storeB 0 rfl rfl rfl rfl rfl (leN rfl) rfl ?_
        refine Run.nil ?_
        refine pj_then ?_
        refine J_regd 9 mixed (by kernel_rfl) (by decide) ?_
        refine st (s_fieldAddr rfl) rfl ?_
        refine st (s_loadB 1 rfl rfl rfl) rfl ?_
        refine st (s_move rfl) rfl ?_
        (refine st (s_indexON rfl rfl ?_) rfl ?_; omega)
        (refine st (s_loadE 2 rfl rfl ?_) rfl ?_; omega)
        refine st (s_move rfl) rfl ?_
        refine st (s_loadB 0 rfl rfl rfl) rfl ?_
        refine st (s_callk (own_ok (F i j) (hF i j)) rfl ⟨VT.le_refl _, trivial⟩) rfl ?_
        (refine st (s_indexON rfl rfl ?_) rfl ?_; omega)
        refine Run.nil ?_
        (refine a_storeR 3 rfl rfl rfl (getq ?_) ?_ rfl ?_; omega; omega)
        refine Run.nil ?_
        refine pn_block ?_
        refine pj_then ?_
        refine J_reg ?_
        (refine st (s_add rfl rfl (wrap_i64 ?_ ?_)) rfl ?_; omega; omega)
        refine st (s_move rfl) rfl ?_
        refine Run.nil ?_
        exact pj_round (s := j) (j + 1) (show _ from by omega) (by show c - (j + 1) < c - j; omega) (by repeat (first | exact SubG.nil | refine SubG.cons rfl (VT.le_refl _) ?_ | (refine SubG.cons rfl (one_le ?_) ?_; (congr 1; first | omega | (simp; omega) | simp)))) (.drop (.keep (Own.le_refl _) (.keep (Own.le_refl _) (.keep upd_fillT (SubM.refl _)))))
      · have hjm : j = c := by omega
        subst hjm
        refine J_exit ?_
        refine px_then ?_
        refine px_then ?_
        refine px_block ?_
        refine pn_block ?_
        refine pj_then ?_
        refine J_reg ?_
        (refine st (s_add rfl rfl (wrap_i64 ?_ ?_)) rfl ?_; omega; omega)
        refine st (s_move rfl) rfl ?_
        refine Run.nil ?_
        refine pj_round (s := i) (i + 1) (show _ from by omega) (by show r - (i + 1) < r - i; omega) (by repeat (first | exact SubG.nil | refine SubG.cons rfl (VT.le_refl _) ?_ | (refine SubG.cons rfl (one_le ?_) ?_; (congr 1; first | omega | (simp; omega) | simp)))) (.keep (Own.le_refl _) (.keep (Own.le_refl _) (.keep (ownR_le fun q k hq hk => ?_) (SubM.refl _))))
        unfold fillT
        have hq' : q < j := by omega
        have e : (k < i ∨ k = i ∧ q < j) ↔ (k < i + 1 ∨ k = i + 1 ∧ q < 0) := by omega
        simp only [e]
    · have hin : i = r := by omega
      subst hin
      refine J_exit ?_
      refine px_then ?_
      refine px_then ?_
      refine px_block ?_
      refine pj_then ?_
      refine J_seq ?_
      refine J_reg ?_
      refine st (s_loadW 0 rfl rfl) rfl ?_
      refine a_storeW 3 rfl rfl rfl rfl ?_
      refine Run.nil ?_
      refine pj_then ?_
      refine J_ret ?_
      have hperm : ∀ (x y z u : Own), [x, y, z, u].Perm ([y, z] ++ [x, u]) := fun x y z u => (List.Perm.swap y x _).trans (List.Perm.cons y (List.Perm.swap z x _))
      refine PJ_open [outO sv1 cap1 c i bs, ownR i bs (fillT F i 0)] (hperm _ _ _ _) (.keep (EntO.refl _) (.keep (EntO.box (newT_open hlen ⟨by simp, by simp, by simp⟩)) .nil)) (EntG.refl _) ?_
      refine retc1 Try.results40 (.cellW 1 rfl rfl ?_)
      exact matF_le fun a b ha hb => by simp [fillT, hb]
end Tor
end

section
set_option linter.unusedVariables false
set_option linter.unusedSimpArgs false
namespace Tor
open Go Go.RowKit Go.Proofs
attribute [local irreducible] Tor.J Tor.PJ Tor.StepO Tor.one Tor.slT Tor.ptrT Tor.aggT Tor.tupT Tor.exT Tor.andT Tor.gT Tor.eP Tor.boxO Tor.sliO Tor.slV Tor.VT.le Tor.Ret Tor.anyT
attribute [local irreducible] bigT
set_option maxHeartbeats 2000000 in
theorem rRow_ok (n : Nat) (f : Nat → Int) : Ok Try.prog 77 [rowF n f] (matF 1 n (fun _ => f)) := by
  unfold rowF
  refine Ok.enter Try.func77 rfl Try.ntmps77 rfl (fun w O => ?_)
  refine J_seq ?_
  refine J_reg ?_
  refine a_allocS (T := 29) rfl rfl rfl (fun b => ?_)
  refine Run.nil ?_
  refine pj_then ?_
  refine J_seq ?_
  refine J_reg ?_
  refine st (s_move rfl) rfl ?_
  refine st (s_len rfl) rfl ?_
  refine st (s_move rfl) rfl ?_
  refine stS1 rfl rfl rfl rfl ?_
  refine stB rfl rfl rfl ?_
  refine BuildK.cons rfl rfl rfl ?_
  refine BuildK.cons rfl rfl rfl ?_
  refine BuildK.cons rfl rfl rfl ?_
  refine BuildK.nil ?_
  refine a_storeW 0 rfl rfl rfl rfl ?_
  refine Run.nil ?_
  refine pj_then ?_
  refine J_ret ?_
  refine retc1 Try.results77 (.cellW 0 rfl rfl ?_)
  unfold matF rowF
  refine aggT_le (fun q hq => ?_)
  rcases List.mem_cons.1 hq with rfl | hq
  · exact ⟨_, List.mem_cons_self, one_le rfl⟩
  rcases List.mem_cons.1 hq with rfl | hq
  · exact ⟨_, List.mem_cons_of_mem _ List.mem_cons_self, VT.le_refl _⟩
  rcases List.mem_cons.1 hq with rfl | hq
  · exact ⟨_, List.mem_cons_of_mem _ (List.mem_cons_of_mem _ List.mem_cons_self), VT.le_refl _⟩
  · cases hq
end Tor
end

section
set_option linter.unusedVariables false
set_option linter.unusedSimpArgs false
namespace Tor
open Go Go.RowKit Go.Proofs
theorem rValidF_ok (r c : Nat) (F : Nat → Nat → Int) (hr : r ≤ 1048576) (hF : ∀ i j, small (F i j)) : Ok Try.prog 47 [matF r c F] (one (.bool true)) := by
  have h := rValidMat_ok r c (rawTab r c F) (by simp [rawTab]; omega) (fun v hv p hp => by
    simp only [rawTab, tab, List.map_map, List.mem_map, List.mem_range] at hv
    obtain ⟨i, _, rfl⟩ := hv
    simp only [Function.comp, List.map_map, List.mem_map, List.mem_range] at hp
    obtain ⟨j, _, rfl⟩ := hp
    have := hF i j
    unfold small at this
    simp only [Function.comp, rawOf]; omega)
  rw [validM_tab] at h
  exact h.le ⟨matF_raw r c F, trivial⟩ (VT.le_refl _)
attribute [local irreducible] Tor.J Tor.PJ Tor.StepO Tor.one Tor.slT Tor.ptrT Tor.aggT Tor.tupT Tor.exT Tor.andT Tor.gT Tor.eP Tor.boxO Tor.sliO Tor.slV Tor.VT.le Tor.Ret Tor.anyT
attribute [local irreducible] bigT
set_option maxHeartbeats 2000000 in
theorem rSized_ok (r c : Nat) (F : Nat → Nat → Int) (hr : r ≤ 1048576) (hF : ∀ i j, small (F i j)) : Ok Try.prog 19 [matF r c F, one (.int .i64 r), one (.int .i64 c)] (one (.bool true)) := by
  have hv := rValidF_ok r c F hr hF
  unfold matF at hv ⊢
  refine Ok.enter Try.func19 rfl Try.ntmps19 rfl (fun w O => ?_)
  refine J_seq ?_
  refine J_reg ?_
  refine a_boxS rfl rfl (ltN rfl) (fun b => ?_)
  refine st (s_assign rfl) rfl ?_
  refine Run.nil ?_
  refine pj_then ?_
  refine J_seq ?_
  refine J_reg ?_
  refine st (s_fieldAddr rfl) rfl ?_
  refine st (s_loadB 0 rfl rfl rfl) rfl ?_
  refine st (s_move rfl) rfl ?_
  refine st (s_eq rfl rfl) rfl ?_
  refine st (s_move rfl) rfl ?_
  rw [decide_eq_true (show (r : Int) = r from rfl)]
  refine sg1 rfl rfl (s_fieldAddr rfl) rfl ?_
  refine sg1 rfl rfl (s_loadB 0 rfl rfl rfl) rfl ?_
  refine sg1 rfl rfl (s_move rfl) rfl ?_
  refine sg1 rfl rfl (s_eq rfl rfl) rfl ?_
  rw [decide_eq_true (show (c : Int) = c from rfl)]
  refine st (s_pickT rfl rfl) rfl ?_
  refine st (s_move rfl) rfl ?_
  refine sg1 rfl rfl (s_loadW 0 rfl rfl) rfl ?_
  refine sg1 rfl rfl (s_callk hv rfl ⟨VT.le_refl _, trivial⟩) rfl ?_
  refine st (s_pickT rfl rfl) rfl ?_
  refine st (s_assign rfl) rfl ?_
  refine Run.nil ?_
  refine pj_then ?_
  refine J_ret ?_
  exact retc1 Try.results19 (.tmp rfl (VT.le_refl _))
set_option maxHeartbeats 2000000 in
theorem rVector_ok (l : List Int) (n : Nat) (hn : n ≤ 16) : Ok Try.prog 23 [numT .i8 l, one (.int .i64 n)] (rowF n (dig l)) := by
  refine Ok.enter Try.func23 rfl Try.ntmps23 rfl (fun w O => ?_)
  refine J_seq ?_
  refine J_reg ?_
  refine st (s_assign rfl) rfl ?_
  refine Run.nil ?_
  refine pj_then ?_
  refine J_seq ?_
  refine J_reg ?_
  refine st (s_move rfl) rfl ?_
  refine st (s_move rfl) rfl ?_
  refine st (s_callk (rFilled_ok 1 n l (by decide) hn) rfl ⟨one_le rfl, VT.le_refl _, VT.le_refl _, trivial⟩) rfl ?_
  unfold matF
  refine st (s_field rfl rfl) rfl ?_
  (refine st (s_indexI rfl rfl ?_ ?_) rfl ?_; omega; omega)
  refine st (s_load rfl) rfl ?_
  refine st (s_assign rfl) rfl ?_
  refine Run.nil ?_
  refine pj_then ?_
  refine J_ret ?_
  refine retc1 Try.results23 (.tmp rfl ?_)
  unfold rowF
  refine slT_le' rfl fun j hj => ?_
  simp
end Tor
end

section
set_option linter.unusedVariables false
set_option linter.unusedSimpArgs false
namespace Tor.Lin
def sm : Nat → (Nat → Rat) → Rat
  | 0, _ => 0
  | n + 1, f => sm n f + f n
theorem sm_congr {n : Nat} {f g : Nat → Rat} (h : ∀ i, i < n → f i = g i) : sm n f = sm n g := by
  induction n with
  | zero => rfl
  | succ n ih => rw [sm, sm, ih (fun i hi => h i (by omega)), h n (by omega)]
theorem sm_lin (a b : Rat) (n : Nat) (f g : Nat → Rat) : sm n (fun i => a * f i + b * g i) = a * sm n f + b * sm n g := by
  induction n with
  | zero => simp only [sm]; grind
  | succ n ih => rw [sm, sm, sm, ih]; grind
theorem sm_zero (n : Nat) : sm n (fun _ => (0 : Rat)) = 0 := by
  induction n with
  | zero => rfl
  | succ n ih => rw [sm, ih]; grind
theorem sm_one {n p : Nat} {f : Nat → Rat} (hp : p < n) (h : ∀ i, i < n → i ≠ p → f i = 0) : sm n f = f p := by
  induction n with
  | zero => omega
  | succ n ih =>
    rw [sm]
    by_cases c : p = n
    · subst c
      rw [sm_congr (g := fun _ => 0) (fun i hi => h i (by omega) (by omega)), sm_zero]; grind
    · rw [ih (by omega) (fun i hi => h i (by omega)), h n (by omega) (by omega)]; grind
theorem sm_two {n p q : Nat} {f : Nat → Rat} (hp : p < q) (hq : q < n) (h : ∀ i, i < n → i ≠ p → i ≠ q → f i = 0) : sm n f = f p + f q := by
  induction n with
  | zero => omega
  | succ n ih =>
    rw [sm]
    by_cases c : q = n
    · subst c
      rw [sm_one hp (fun i hi hn => h i (by omega) hn (by omega))]
    · rw [ih (by omega) (fun i hi => h i (by omega)), h n (by omega) (by omega) (by omega)]; grind
def skip (j k : Nat) : Nat := if k < j then k else k + 1
def sgn (j : Nat) : Rat := if j % 2 = 0 then 1 else -1
theorem sgn_succ (j : Nat) : sgn  (j + 1) = -sgn j := by
  unfold sgn
  by_cases h : j % 2 = 0
  · rw [if_pos h, if_neg (by omega)]
  · rw [if_neg h, if_pos (by omega)]; grind
def det : Nat → (Nat → Nat → Rat) → Rat
  | 0, _ => 1
  | n + 1, F => sm (n + 1) (fun j => sgn j * F 0 j * det n (fun i k => F (i + 1) (skip j k)))
theorem det_congr : ∀ {n : Nat} {F G : Nat → Nat → Rat}, (∀ i j, i < n → j < n → F i j = G i j) → det n F = det n G
  | 0, _, _, _ => rfl
  | n + 1, F, G, h => by
    rw [det, det]
    refine sm_congr (fun j hj => ?_)
    rw [h 0 j (by omega) hj, det_congr (G := fun i k => G (i + 1) (skip j k)) (fun i k hi hk => h _ _ (by omega) (by unfold skip; split <;> omega))]
theorem skip_un {j p : Nat} (h : j ≠ p) : skip j (if p < j then p else p - 1) = p := by
  unfold skip
  by_cases c : p < j
  · rw [if_pos c, if_pos c]
  · rw [if_neg c, if_neg (by omega)]; omega
theorem skip_un1 {j p : Nat} (h : j ≠ p) (h' : j ≠ p + 1) : skip j ((if p < j then p else p - 1) + 1) = p + 1 := by
  unfold skip
  by_cases c : p < j
  · rw [if_pos c, if_pos (by omega)]
  · rw [if_neg c, if_neg (by omega)]; omega
theorem det_col (a b : Rat) : ∀ {n p : Nat} {F G H : Nat → Nat → Rat}, p < n → (∀ i, i < n → F i p = a * G i p + b * H i p) → (∀ i j, i < n → j < n → j ≠ p → G i j = F i j) → (∀ i j, i < n → j < n → j ≠ p → H i j = F i j) →
    det n F = a * det n G + b * det n H
  | 0, _, _, _, _, h, _, _, _ => absurd h (Nat.not_lt_zero _)
  | n + 1, p, F, G, H, hp, hF, hG, hH => by
    rw [det, det, det, ← sm_lin]
    refine sm_congr (fun j hj => ?_)
    by_cases c : j = p
    · subst c
      rw [det_congr (F := fun i k => G (i + 1) (skip j k)) (G := fun i k => F (i + 1) (skip j k)) (fun i k hi hk => hG _ _ (by omega) (by unfold skip; split <;> omega) (by unfold skip; split <;> omega)),
        det_congr (F := fun i k => H (i + 1) (skip j k)) (G := fun i k => F (i + 1) (skip j k)) (fun i k hi hk => hH _ _ (by omega) (by unfold skip; split <;> omega) (by unfold skip; split <;> omega)), hF 0 (by omega)]
      grind
    · have e := skip_un c
      rw [det_col a b (p := if p < j then p else p - 1) (F := fun i k => F (i + 1) (skip j k)) (G := fun i k => G (i + 1) (skip j k)) (H := fun i k => H (i + 1) (skip j k)) (by split <;> omega)
        (fun i hi => by rw [e]; exact hF _ (by omega))
        (fun i k hi hk hne => hG _ _ (by omega) (by unfold skip; split <;> omega) (by revert hne; unfold skip; split <;> split <;> omega))
        (fun i k hi hk hne => hH _ _ (by omega) (by unfold skip; split <;> omega) (by revert hne; unfold skip; split <;> split <;> omega)),
        hG 0 j (by omega) hj c, hH 0 j (by omega) hj c]
      grind
theorem det_adj : ∀ {n p : Nat} {F : Nat → Nat → Rat}, p + 1 < n → (∀ i, i < n → F i p = F i (p + 1)) → det n F = 0
  | 0, _, _, h, _ => absurd h (Nat.not_lt_zero _)
  | n + 1, p, F, hp, h => by
    rw [det, sm_two (p := p) (q := p + 1) (by omega) hp (fun j hj h1 h2 => ?_)]
    · rw [det_congr (F := fun i k => F (i + 1) (skip (p + 1) k)) (G := fun i k => F (i + 1) (skip p k)) (fun i k hi hk => by
        by_cases c : k = p
        · subst c
          have e1 : skip (k + 1) k = k := by unfold skip; rw [if_pos (by omega)]
          have e2 : skip k k = k + 1 := by unfold skip; rw [if_neg (by omega)]
          rw [e1, e2]; exact h _ (by omega)
        · have e : skip (p + 1) k = skip p k := by unfold skip; split <;> split <;> omega
          rw [e]), ← h 0 (by omega), sgn_succ]
      grind
    · rw [det_adj (p := if p < j then p else p - 1) (F := fun i k => F (i + 1) (skip j k)) (by split <;> omega) (fun i hi => by
        have e1 := skip_un h1
        have e2 := skip_un1 h1 h2
        rw [e1, e2]; exact h _ (by omega))]
      grind
def idm (i j : Nat) : Rat := if i = j then 1 else 0
theorem det_id : ∀ n : Nat, det n (idm ) = 1
  | 0 => rfl
  | n + 1 => by
    rw [det, sm_one (p := 0) (by omega) (fun i hi h => by
      have : idm  0 i = 0 := by unfold idm; rw [if_neg (by omega)]
      rw [this]; grind)]
    have e : det n (fun i k => idm  (i + 1) (skip 0 k)) = 1 := by
      rw [← det_id n]
      refine det_congr (fun i j _ _ => ?_)
      unfold idm skip
      rw [if_neg (Nat.not_lt_zero j)]
      by_cases c : i = j
      · rw [if_pos c, if_pos (by omega)]
      · rw [if_neg c, if_neg (by omega)]
    rw [e]
    unfold sgn idm
    rw [if_pos rfl, if_pos rfl]; grind
structure Alt (n : Nat) (f : (Nat → Nat → Rat) → Rat) : Prop where
  congr : ∀ F G, (∀ i j, i < n → j < n → F i j = G i j) → f F = f G
  lin : ∀ (a b : Rat) p F G H, p < n → (∀ i, i < n → F i p = a * G i p + b * H i p) → (∀ i j, i < n → j < n → j ≠ p → G i j = F i j) → (∀ i j, i < n → j < n → j ≠ p → H i j = F i j) → f F = a * f G + b * f H
  adj : ∀ p F, p + 1 < n → (∀ i, i < n → F i p = F i (p + 1)) → f F = 0
theorem det_alt (n : Nat) : Alt n (det  n) :=
  ⟨fun _ _ h => det_congr h, fun a b _ _ _ _ hp h1 h2 h3 => det_col a b hp h1 h2 h3, fun _ _ hp h => det_adj hp h⟩
def two (F : Nat → Nat → Rat) (p : Nat) (u v : Nat → Rat) : Nat → Nat → Rat := fun i j => if j = p then u i else if j = p + 1 then v i else F i j
def swp (F : Nat → Nat → Rat) (p : Nat) : Nat → Nat → Rat := two F p (fun i => F i (p + 1)) (fun i => F i p)
theorem Alt.swap {n : Nat} {f : (Nat → Nat → Rat) → Rat} (h : Alt n f) {p : Nat} (hp : p + 1 < n) (F : Nat → Nat → Rat) : f (swp F p) = - f F := by
  have l1 : ∀ u u' v : Nat → Rat, f (two F p (fun i => u i + u' i) v) = f (two F p u v) + f (two F p u' v) := fun u u' v => by
    rw [h.lin 1 1 p (two F p (fun i => u i + u' i) v) (two F p u v) (two F p u' v) (by omega) (fun i _ => by simp only [two, if_pos]; grind)
      (fun i j _ _ hj => by simp only [two, if_neg hj]) (fun i j _ _ hj => by simp only [two, if_neg hj])]
    grind
  have l2 : ∀ u v v' : Nat → Rat, f (two F p u (fun i => v i + v' i)) = f (two F p u v) + f (two F p u v') := fun u v v' => by
    have hne : p + 1 ≠ p := by omega
    rw [h.lin 1 1 (p + 1) (two F p u (fun i => v i + v' i)) (two F p u v) (two F p u v') (by omega) (fun i _ => by simp only [two, if_neg hne, if_pos]; grind)
      (fun i j _ _ hj => by simp only [two, if_neg hj]) (fun i j _ _ hj => by simp only [two, if_neg hj])]
    grind
  have z : ∀ u : Nat → Rat, f (two F p u u) = 0 := fun u => h.adj p _ hp (fun i _ => by
    have hne : p + 1 ≠ p := by omega
    simp only [two, if_neg hne, if_pos])
  have e : f F = f (two F p (fun i => F i p) (fun i => F i (p + 1))) := h.congr _ _ (fun i j _ _ => by
    unfold two
    by_cases c : j = p
    · rw [if_pos c, c]
    · rw [if_neg c]
      by_cases c' : j = p + 1
      · rw [if_pos c', c']
      · rw [if_neg c'])
  have k := z (fun i => F i p + F i (p + 1))
  rw [l1, l2, l2, z, z, ← e] at k
  unfold swp
  grind
theorem Alt.eqcol {n : Nat} {f : (Nat → Nat → Rat) → Rat} (h : Alt n f) : ∀ (q p : Nat) (F : Nat → Nat → Rat), p < q → q < n → (∀ i, i < n → F i p = F i q) → f F = 0
  | 0, _, _, hp, _, _ => absurd hp (Nat.not_lt_zero _)
  | q + 1, p, F, hp, hq, he => by
    by_cases c : p = q
    · subst c; exact h.adj p F hq he
    · have k := h.swap (p := q) hq F
      rw [h.eqcol q p (swp F q) (by omega) (by omega) (fun i hi => by
        unfold swp two
        rw [if_neg (show p ≠ q by omega), if_neg (show p ≠ q + 1 by omega), if_pos rfl]
        exact he i hi)] at k
      grind
def colSet (F : Nat → Nat → Rat) (p : Nat) (v : Nat → Rat) : Nat → Nat → Rat := fun i j => if j = p then v i else F i j
theorem Alt.sum {n : Nat} {f : (Nat → Nat → Rat) → Rat} (h : Alt n f) {p : Nat} (hp : p < n) (F : Nat → Nat → Rat) (c : Nat → Rat) (v : Nat → Nat → Rat) :
    ∀ M : Nat, f (colSet F p (fun i => sm M (fun m => c m * v m i))) = sm M (fun m => c m * f (colSet F p (v m)))
  | 0 => by
    rw [h.lin 0 0 p _ F F hp (fun i _ => by simp only [colSet, if_pos, sm]; grind) (fun i j _ _ hj => by simp only [colSet, if_neg hj]) (fun i j _ _ hj => by simp only [colSet, if_neg hj])]
    simp only [sm]; grind
  | M + 1 => by
    rw [sm, ← h.sum hp F c v M, h.lin 1 (c M) p _ (colSet F p (fun i => sm M (fun m => c m * v m i))) (colSet F p (v M)) hp (fun i _ => by simp only [colSet, if_pos, sm]; grind)
      (fun i j _ _ hj => by simp only [colSet, if_neg hj]) (fun i j _ _ hj => by simp only [colSet, if_neg hj])]
    grind
def em (σ : Nat → Nat) (i j : Nat) : Rat := if i = σ j then 1 else 0
def wsum (n : Nat) (σ : Nat → Nat) : Nat → Nat
  | 0 => 0
  | k + 1 => wsum n σ k + (n - k) * σ k
theorem wsum_congr {n : Nat} {σ τ : Nat → Nat} : ∀ k, (∀ j, j < k → σ j = τ j) → wsum n σ k = wsum n τ k
  | 0, _ => rfl
  | k + 1, h => by rw [wsum, wsum, wsum_congr k (fun j hj => h j (by omega)), h k (by omega)]
def sw (σ : Nat → Nat) (p : Nat) : Nat → Nat := fun j => if j = p then σ (p + 1) else if j = p + 1 then σ p else σ j
theorem wsum_sw {n : Nat} {σ : Nat → Nat} {p : Nat} (hp : p + 1 < n) (hl : σ (p + 1) < σ p) : ∀ k, p + 1 < k → k ≤ n → wsum n (sw σ p) k < wsum n σ k
  | 0, h, _ => absurd h (Nat.not_lt_zero _)
  | k + 1, h, hk => by
    by_cases c : k = p + 1
    · subst c
      rw [wsum, wsum, wsum, wsum, wsum_congr (σ := sw σ p) (τ := σ) p (fun j hj => by unfold sw; rw [if_neg (by omega), if_neg (by omega)])]
      have e1 : sw σ p p = σ (p + 1) := by unfold sw; rw [if_pos rfl]
      have e2 : sw σ p (p + 1) = σ p := by unfold sw; rw [if_neg (by omega), if_pos rfl]
      rw [e1, e2]
      have e : n - p = (n - (p + 1)) + 1 := by omega
      rw [e, Nat.succ_mul, Nat.succ_mul]
      omega
    · have ih := wsum_sw hp hl k (by omega) (by omega)
      rw [wsum, wsum]
      have e : sw σ p k = σ k := by unfold sw; rw [if_neg (by omega), if_neg (by omega)]
      rw [e]; omega
theorem em_sw (σ : Nat → Nat) (p : Nat) : swp (em  σ) p = em (sw σ p) := by
  funext i j
  unfold swp two em sw
  by_cases c : j = p
  · rw [if_pos c, if_pos c]
  · rw [if_neg c, if_neg c]
    by_cases c' : j = p + 1
    · rw [if_pos c', if_pos c']
    · rw [if_neg c', if_neg c']
theorem inc_id {n : Nat} {σ : Nat → Nat} (hn : ∀ j, j < n → σ j < n) (h : ∀ p, p + 1 < n → σ p < σ (p + 1)) : ∀ j, j < n → σ j = j := by
  have lo : ∀ j, j < n → j ≤ σ j := fun j => by
    induction j with
    | zero => intro _; omega
    | succ j ih => intro hj; have := ih (by omega); have := h j hj; omega
  have hi : ∀ k j, j + k + 1 = n → σ j ≤ j := fun k => by
    induction k with
    | zero => intro j hj; have := hn j (by omega); omega
    | succ k ih => intro j hj; have := ih (j + 1) (by omega); have := h j (by omega); omega
  intro j hj
  have := lo j hj
  have := hi (n - j - 1) j (by omega)
  omega
theorem Alt.em {n : Nat} {f : (Nat → Nat → Rat) → Rat} (h : Alt n f) : ∀ (N : Nat) (σ : Nat → Nat), wsum n σ n < N → (∀ j, j < n → σ j < n) → f (em σ) = det n (em σ) * f idm
  | 0, _, hN, _ => absurd hN (Nat.not_lt_zero _)
  | N + 1, σ, hN, hσ => by
    by_cases c : ∃ p, p + 1 < n ∧ σ (p + 1) ≤ σ p
    · obtain ⟨p, hp, hle⟩ := c
      by_cases ce : σ (p + 1) = σ p
      · have e : ∀ i, i < n → Tor.Lin.em  σ i p = Tor.Lin.em σ i (p + 1) := fun i _ => by unfold Tor.Lin.em; rw [ce]
        rw [h.adj p _ hp e, (det_alt n).adj p _ hp e]; grind
      · have ih := h.em N (sw σ p) (by have := wsum_sw hp (show σ (p + 1) < σ p by omega) n (by omega) (Nat.le_refl _); omega) (fun j hj => by
          unfold sw; split
          · exact hσ _ hp
          · split
            · exact hσ _ (by omega)
            · exact hσ _ hj)
        rw [← em_sw, h.swap hp, (det_alt n).swap hp] at ih
        grind
    · have hid := inc_id hσ (fun p hp => Nat.lt_of_not_le fun k => c ⟨p, hp, k⟩)
      have e : ∀ i j, i < n → j < n → Tor.Lin.em  σ i j = idm i j := fun i j _ hj => by unfold Tor.Lin.em idm; rw [hid j hj]
      rw [h.congr _ _ e, (det_alt n).congr _ _ e, det_id]; grind
theorem Alt.part {n : Nat} {f : (Nat → Nat → Rat) → Rat} (h : Alt n f) : ∀ (k : Nat) (F : Nat → Nat → Rat) (σ : Nat → Nat), k ≤ n → (∀ j, j < n → σ j < n) → (∀ i j, i < n → j < n → k ≤ j → F i j = Tor.Lin.em σ i j) → f F = det n F * f idm
  | 0, F, σ, _, hσ, hF => by
    rw [h.congr _ _ (fun i j hi hj => hF i j hi hj (Nat.zero_le _)), (det_alt n).congr _ _ (fun i j hi hj => hF i j hi hj (Nat.zero_le _))]
    exact h.em _ σ (Nat.lt_succ_self _) hσ
  | k + 1, F, σ, hk, hσ, hF => by
    have e : ∀ i j, i < n → j < n → F i j = colSet F k (fun i => sm n (fun m => F m k * (fun m i => idm  i m) m i)) i j := fun i j hi hj => by
      unfold colSet
      by_cases c : j = k
      · subst c
        rw [if_pos rfl]
        show F i j = sm n (fun m => F m j * idm i m)
        rw [sm_one hi (fun m hm hne => by unfold idm; rw [if_neg (fun q => hne q.symm)]; grind)]
        unfold idm; rw [if_pos rfl]; grind
      · rw [if_neg c]
    rw [h.congr _ _ e, (det_alt n).congr _ _ e, h.sum (by omega), (det_alt n).sum (by omega)]
    have hm : ∀ m, m < n → f (colSet F k (fun i => idm  i m)) = det n (colSet F k (fun i => idm  i m)) * f idm := fun m hm =>
      h.part k _ (fun j => if j = k then m else σ j) (by omega) (fun j hj => by split; exact hm; exact hσ j hj) (fun i j hi hj hkj => by
        unfold colSet Tor.Lin.em idm
        dsimp only
        by_cases c : j = k
        · simp only [if_pos c]
        · simp only [if_neg c]; exact hF i j hi hj (by omega))
    rw [sm_congr (fun m hm' => by rw [hm m hm'])]
    generalize f idm = z
    clear hm
    generalize (fun m => det n (colSet F k ((fun m i => idm  i m) m))) = g at *
    have : ∀ N : Nat, sm N (fun m => F m k * (det n (colSet F k (fun i => idm  i m)) * z)) = sm N (fun m => F m k * det n (colSet F k (fun i => idm  i m))) * z := fun N => by
      induction N with
      | zero => simp only [sm]; grind
      | succ N ih => rw [sm, sm, ih]; grind
    exact this n
theorem Alt.uniq {n : Nat} {f : (Nat → Nat → Rat) → Rat} (h : Alt n f) (F : Nat → Nat → Rat) : f F = det n F * f idm :=
  h.part n F id (Nat.le_refl _) (fun j hj => hj) (fun i j _ hj hk => by omega)
def mulm (n : Nat) (A B : Nat → Nat → Rat) (i j : Nat) : Rat := sm n (fun k => A i k * B k j)
theorem mul_alt (n : Nat) (A : Nat → Nat → Rat) : Alt n (fun B => det n (mulm n A B)) where
  congr F G h := det_congr (fun i j _ hj => sm_congr (fun k hk => by rw [h k j hk hj]))
  lin a b p F G H hp h1 h2 h3 := det_col a b hp (fun i hi => by
      unfold mulm
      rw [← sm_lin]
      exact sm_congr (fun k hk => by rw [h1 k hk]; grind))
    (fun i j _ hj hne => sm_congr (fun k hk => by rw [h2 k j hk hj hne])) (fun i j _ hj hne => sm_congr (fun k hk => by rw [h3 k j hk hj hne]))
  adj p F hp h := det_adj hp (fun i hi => sm_congr (fun k hk => by rw [h k hk]))
theorem det_mul (n : Nat) (A B : Nat → Nat → Rat) : det n (mulm n A B) = det n A * det n B := by
  have h : det n (mulm n A B) = det n B * det n (mulm n A idm) := (mul_alt n A).uniq B
  have e : det n (mulm n A idm) = det n A := det_congr (fun i j hi hj => by
    unfold mulm
    rw [sm_one hj (fun k hk hne => by unfold idm; rw [if_neg hne]; grind)]
    unfold idm; rw [if_pos rfl]; grind)
  rw [e] at h
  rw [h]; grind
theorem det_row (a b : Rat) : ∀ {n p : Nat} {F G H : Nat → Nat → Rat}, p < n → (∀ j, j < n → F p j = a * G p j + b * H p j) → (∀ i j, i < n → j < n → i ≠ p → G i j = F i j) → (∀ i j, i < n → j < n → i ≠ p → H i j = F i j) →
    det n F = a * det n G + b * det n H
  | 0, _, _, _, _, h, _, _, _ => absurd h (Nat.not_lt_zero _)
  | n + 1, 0, F, G, H, hp, hF, hG, hH => by
    rw [det, det, det, ← sm_lin]
    refine sm_congr (fun j hj => ?_)
    rw [det_congr (F := fun i k => G (i + 1) (skip j k)) (G := fun i k => F (i + 1) (skip j k)) (fun i k hi hk => hG _ _ (by omega) (by unfold skip; split <;> omega) (by omega)),
      det_congr (F := fun i k => H (i + 1) (skip j k)) (G := fun i k => F (i + 1) (skip j k)) (fun i k hi hk => hH _ _ (by omega) (by unfold skip; split <;> omega) (by omega)), hF j hj]
    grind
  | n + 1, p + 1, F, G, H, hp, hF, hG, hH => by
    rw [det, det, det, ← sm_lin]
    refine sm_congr (fun j hj => ?_)
    rw [det_row a b (p := p) (F := fun i k => F (i + 1) (skip j k)) (G := fun i k => G (i + 1) (skip j k)) (H := fun i k => H (i + 1) (skip j k)) (by omega)
      (fun k hk => hF _ (by unfold skip; split <;> omega))
      (fun i k hi hk hne => hG _ _ (by omega) (by unfold skip; split <;> omega) (by omega))
      (fun i k hi hk hne => hH _ _ (by omega) (by unfold skip; split <;> omega) (by omega)),
      hG 0 j (by omega) hj (by omega), hH 0 j (by omega) hj (by omega)]
    grind
theorem det_rowswap {n p : Nat} (hp : p + 1 < n) (F : Nat → Nat → Rat) : det n (fun i j => F (if i = p then p + 1 else if i = p + 1 then p else i) j) = - det n F := by
  have h := det_mul n (swp idm p) F
  rw [(det_alt n).swap hp, det_id] at h
  have e : det n (mulm n (swp idm p) F) = det n (fun i j => F (if i = p then p + 1 else if i = p + 1 then p else i) j) := det_congr (fun i j hi hj => by
    unfold mulm
    rw [sm_one (p := if i = p then p + 1 else if i = p + 1 then p else i) (by split <;> (try split) <;> omega) (fun k hk hne => by
      have : swp (idm ) p i k = 0 := by
        unfold swp two idm
        by_cases c : k = p
        · simp only [if_pos c]
          rw [if_neg]; intro q; apply hne; rw [if_neg (by omega), if_pos q, c]
        · simp only [if_neg c]
          by_cases c' : k = p + 1
          · simp only [if_pos c']
            rw [if_neg]; intro q; apply hne; rw [if_pos q, c']
          · simp only [if_neg c']
            rw [if_neg]; intro q; apply hne; rw [if_neg (by omega), if_neg (by omega), q]
      rw [this]; grind)]
    have : swp (idm ) p i (if i = p then p + 1 else if i = p + 1 then p else i) = 1 := by
      unfold swp two idm
      by_cases c : i = p
      · have hne : ¬ p + 1 = p := by omega
        simp only [if_pos c, if_neg hne, if_pos]
      · by_cases c' : i = p + 1
        · simp only [if_neg c, if_pos c', if_pos]
        · simp only [if_neg c, if_neg c', if_pos]
    rw [this]; grind)
  rw [← e, h]; grind
theorem tr_alt (n : Nat) (h2 : ∀ x : Rat, x + x = 0 → x = 0) : Alt n (fun F : Nat → Nat → Rat => det n (fun i j => F j i)) where
  congr F G h := det_congr (fun i j hi hj => h j i hj hi)
  lin a b p F G H hp h1 h2 h3 := det_row a b hp (fun j hj => h1 j hj) (fun i j hi hj hne => h2 j i hj hi hne) (fun i j hi hj hne => h3 j i hj hi hne)
  adj p F hp h := by
    have k := det_rowswap hp (fun i j => F j i)
    have e : det n (fun i j => F j (if i = p then p + 1 else if i = p + 1 then p else i)) = det n (fun i j => F j i) := det_congr (fun i j hi hj => by
      by_cases c : i = p
      · rw [if_pos c, c, h j hj]
      · rw [if_neg c]
        by_cases c' : i = p + 1
        · rw [if_pos c', c', h j hj]
        · rw [if_neg c'])
    show det n (fun i j => F j i) = 0
    rw [e] at k
    exact h2 _ (by grind)
theorem det_tr (n : Nat) (h2 : ∀ x : Rat, x + x = 0 → x = 0) (F : Nat → Nat → Rat) : det n (fun i j => F j i) = det n F := by
  have h : det n (fun i j => F j i) = det n F * det n (fun i j => idm  j i) := (tr_alt n h2).uniq F
  have e : det n (fun i j => idm  j i) = 1 := by
    rw [← det_id n]
    refine det_congr (fun i j _ _ => ?_)
    unfold idm
    by_cases c : i = j
    · rw [if_pos c, if_pos c.symm]
    · rw [if_neg c, if_neg (fun q => c q.symm)]
  rw [e] at h
  rw [h]; grind
end Tor.Lin
end

section
set_option linter.unusedVariables false
set_option linter.unusedSimpArgs false
namespace Tor.Lin
theorem det_eqrow {n : Nat} (h2 : ∀ x : Rat, x + x = 0 → x = 0) {p q : Nat} {F : Nat → Nat → Rat} (hp : p < q) (hq : q < n) (h : ∀ j, j < n → F p j = F q j) : det n F = 0 := by
  have k : det n (fun i j => (fun i j => F j i) j i) = 0 := (tr_alt n h2).eqcol q p (fun i j => F j i) hp hq h
  exact k
def smZ : Nat → (Nat → Int) → Int
  | 0, _ => 0
  | n + 1, f => smZ n f + f n
theorem smZ_congr {n : Nat} {f g : Nat → Int} (h : ∀ i, i < n → f i = g i) : smZ n f = smZ n g := by
  induction n with
  | zero => rfl
  | succ n ih => rw [smZ, smZ, ih (fun i hi => h i (by omega)), h n (by omega)]
def sgnZ (j : Nat) : Int := if j % 2 = 0 then 1 else -1
def detZ : Nat → (Nat → Nat → Int) → Int
  | 0, _ => 1
  | n + 1, F => smZ (n + 1) (fun j => sgnZ j * F 0 j * detZ n (fun i k => F (i + 1) (skip j k)))
theorem smZ_cast (n : Nat) (f : Nat → Int) : ((smZ n f : Int) : Rat) = sm n (fun i => (f i : Rat)) := by
  induction n with
  | zero => rfl
  | succ n ih => rw [smZ, sm, Rat.intCast_add, ih]
theorem sgnZ_cast (j : Nat) : ((sgnZ j : Int) : Rat) = sgn j := by
  unfold sgnZ sgn; split <;> rfl
theorem detZ_cast : ∀ (n : Nat) (F : Nat → Nat → Int), ((detZ n F : Int) : Rat) = det n (fun i j => (F i j : Rat))
  | 0, _ => rfl
  | n + 1, F => by
    rw [detZ, det, smZ_cast]
    refine sm_congr (fun j hj => ?_)
    rw [Rat.intCast_mul, Rat.intCast_mul, sgnZ_cast, detZ_cast n]
theorem detZ_congr : ∀ {n : Nat} {F G : Nat → Nat → Int}, (∀ i j, i < n → j < n → F i j = G i j) → detZ n F = detZ n G
  | 0, _, _, _ => rfl
  | n + 1, F, G, h => by
    rw [detZ, detZ]
    refine smZ_congr (fun j hj => ?_)
    rw [h 0 j (by omega) hj, detZ_congr (G := fun i k => G (i + 1) (skip j k)) (fun i k hi hk => h _ _ (by omega) (by unfold skip; split <;> omega))]
theorem two_rat : ∀ x : Rat, x + x = 0 → x = 0 := fun x h => by grind
def tw (F : Nat → Nat → Rat) (p q : Nat) (u v : Nat → Rat) : Nat → Nat → Rat := fun i j => if i = p then u j else if i = q then v j else F i j
theorem det_swap {n : Nat} (h2 : ∀ x : Rat, x + x = 0 → x = 0) {p q : Nat} (hne : p ≠ q) (hp : p < n) (hq : q < n) (F : Nat → Nat → Rat) : det n (tw F p q (F q) (F p)) = - det n F := by
  have hqp : ¬ q = p := fun e => hne e.symm
  have l1 : ∀ u u' v : Nat → Rat, det n (tw F p q (fun i => u i + u' i) v) = det n (tw F p q u v) + det n (tw F p q u' v) := fun u u' v => by
    rw [det_row 1 1 (p := p) (F := tw F p q (fun i => u i + u' i) v) (G := tw F p q u v) (H := tw F p q u' v) hp (fun i _ => by simp only [tw, if_pos]; grind)
      (fun i j _ _ hj => by simp only [tw, if_neg hj]) (fun i j _ _ hj => by simp only [tw, if_neg hj])]
    grind
  have l2 : ∀ u v v' : Nat → Rat, det n (tw F p q u (fun i => v i + v' i)) = det n (tw F p q u v) + det n (tw F p q u v') := fun u v v' => by
    rw [det_row 1 1 (p := q) (F := tw F p q u (fun i => v i + v' i)) (G := tw F p q u v) (H := tw F p q u v') hq (fun i _ => by simp only [tw, if_neg hqp, if_pos]; grind)
      (fun i j _ _ hj => by simp only [tw, if_neg hj]) (fun i j _ _ hj => by simp only [tw, if_neg hj])]
    grind
  have z : ∀ u : Nat → Rat, det n (tw F p q u u) = 0 := fun u => by
    rcases Nat.lt_or_ge p q with h | h
    · exact det_eqrow h2 h hq (fun j _ => by simp only [tw, if_neg hqp, if_pos])
    · exact det_eqrow h2 (show q < p by omega) hp (fun j _ => by simp only [tw, if_neg hqp, if_pos])
  have e : det n (tw F p q (F p) (F q)) = det n F := det_congr (fun i j _ _ => by
    unfold tw
    by_cases c : i = p
    · rw [if_pos c, c]
    · rw [if_neg c]
      by_cases c' : i = q
      · rw [if_pos c', c']
      · rw [if_neg c'])
  have k := z (fun i => F p i + F q i)
  rw [l1, l2, l2, z, z, e] at k
  grind
end Tor.Lin
end

section
set_option linter.unusedVariables false
set_option linter.unusedSimpArgs false
namespace Tor
def swp {α : Type} (i k : Nat) (φ : Nat → α) : Nat → α := fun q => if q = i then φ k else if q = k then φ i else φ q
theorem swp_self {α : Type} (i : Nat) (φ : Nat → α) : swp i i φ = φ := by
  funext q; unfold swp; by_cases h : q = i
  · rw [if_pos h, h]
  · rw [if_neg h, if_neg h]
theorem swp_at {α : Type} {i k : Nat} (φ : Nat → α) : swp i k φ k = φ i := by
  unfold swp; by_cases h : k = i
  · rw [if_pos h, h]
  · rw [if_neg h, if_pos rfl]
theorem swp_map {α β : Type} {i k : Nat} {f : Nat → α} (g : α → β) (q : Nat) : swp i k (fun q => g (f q)) q = g (swp i k f q) := by
  unfold swp; split
  · rfl
  · split <;> rfl
def stepE (p x y z q : Int) : Int := (p * x - y * z) / q
theorem stepE_z {p x y z q : Int} (h : y = 0 ∨ z = 0) : stepE p x y z q = p * x / q := by
  unfold stepE; rcases h with h | h
  · rw [h, Int.zero_mul, Int.sub_zero]
  · rw [h, Int.mul_zero, Int.sub_zero]
def stepR (k c : Nat) (last : Int) (full : Bool) (R : Nat → Nat → Int) : Nat → Nat → Int := fun i j =>
  if decide (k < i) || (full && decide (i < k)) then stepE (R k c) (R i j) (R i c) (R k j) last else R i j
/-- What an elimination knows: its rows, its last pivot, whether an odd number of exchanges has been made, the columns of its pivots. -/
structure ElS where
  R : Nat → Nat → Int
  last : Int
  odd : Bool
  piv : List Nat
def firstP (R : Nat → Nat → Int) (c k r : Nat) : Option Nat := (List.range' k (r - k)).find? fun i => decide (R i c ≠ 0)
theorem firstP_some {R : Nat → Nat → Int} {c k r i : Nat} (hk : k ≤ i) (hi : i < r) (h : ∀ q, k ≤ q → q < i → R q c = 0) (hn : R i c ≠ 0) : firstP R c k r = some i := by
  unfold firstP
  rw [List.find?_range'_eq_some]
  refine ⟨?_, ?_, ?_⟩
  · simpa using hn
  · rw [List.mem_range'_1]; omega
  · intro q h1 h2; simpa using h q h1 h2
theorem firstP_none {R : Nat → Nat → Int} {c k r : Nat} (h : ∀ q, k ≤ q → q < r → R q c = 0) : firstP R c k r = none := by
  unfold firstP
  rw [List.find?_eq_none]
  intro q hq
  rw [List.mem_range'_1] at hq
  simpa using h q hq.1 (by omega)
def elR (r : Nat) (full : Bool) (c : Nat) (e : ElS) : ElS := if e.piv.length < r then (match firstP e.R c e.piv.length r with
  | none => e
  | some i => ⟨stepR e.piv.length c e.last full (swp i e.piv.length e.R), swp i e.piv.length e.R e.piv.length c, xor e.odd (decide (i ≠ e.piv.length)), e.piv ++ [c]⟩) else e
def elN (r : Nat) (full : Bool) (F : Nat → Nat → Int) : Nat → ElS
  | 0 => ⟨F, 1, false, []⟩
  | c + 1 => elR r full c (elN r full F c)
theorem elN_done {r : Nat} {full : Bool} {F : Nat → Nat → Int} {c : Nat} (h : ¬ (elN r full F c).piv.length < r) : ∀ d, c ≤ d → elN r full F d = elN r full F c := by
  intro d hd
  induction d with
  | zero => have : c = 0 := by omega
            subst this; rfl
  | succ d ih =>
    by_cases e : c = d + 1
    · subst e; rfl
    · have := ih (by omega)
      show elR r full d (elN r full F d) = _
      rw [this]; unfold elR; rw [if_neg h]
theorem elR_none {r : Nat} {full : Bool} {c : Nat} {e : ElS} (h : ∀ q, e.piv.length ≤ q → q < r → e.R q c = 0) : elR r full c e = e := by
  unfold elR; split
  · rw [firstP_none h]
  · rfl
theorem elR_some {r : Nat} {full : Bool} {c i : Nat} {e : ElS} (hp : e.piv.length < r) (hk : e.piv.length ≤ i) (hi : i < r) (h : ∀ q, e.piv.length ≤ q → q < i → e.R q c = 0) (hn : e.R i c ≠ 0) :
    elR r full c e = ⟨stepR e.piv.length c e.last full (swp i e.piv.length e.R), swp i e.piv.length e.R e.piv.length c, xor e.odd (decide (i ≠ e.piv.length)), e.piv ++ [c]⟩ := by
  unfold elR; rw [if_pos hp, firstP_some hk hi h hn]
theorem el_cases (R : Nat → Nat → Int) (c k r : Nat) : (∀ q, k ≤ q → q < r → R q c = 0) ∨ ∃ i, k ≤ i ∧ i < r ∧ (∀ q, k ≤ q → q < i → R q c = 0) ∧ R i c ≠ 0 := by
  rcases Nat.lt_or_ge k r with h | h
  · have key : ∀ m, k ≤ m → m ≤ r → (∀ q, k ≤ q → q < m → R q c = 0) ∨ ∃ i, k ≤ i ∧ i < r ∧ (∀ q, k ≤ q → q < i → R q c = 0) ∧ R i c ≠ 0 := by
      intro m hk
      induction m with
      | zero => intro _; exact .inl fun q h1 h2 => absurd h2 (Nat.not_lt_zero _)
      | succ m ih =>
        intro hm
        by_cases hkm : k = m + 1
        · exact .inl fun q h1 h2 => by omega
        · rcases ih (by omega) (by omega) with h1 | h1
          · by_cases h0 : R m c = 0
            · exact .inl fun q h2 h3 => by
                by_cases e : q = m
                · rw [e]; exact h0
                · exact h1 q h2 (by omega)
            · exact .inr ⟨m, by omega, by omega, h1, h0⟩
          · exact .inr h1
    exact key r (by omega) (Nat.le_refl _)
  · exact .inl fun q h1 h2 => by omega
end Tor
namespace Tor.Lin
/-! ### Sums -/
theorem sm_add (n : Nat) (f g : Nat → Rat) : sm n (fun i => f i + g i) = sm n f + sm n g := by
  induction n with
  | zero => simp only [sm]; grind
  | succ n ih => rw [sm, sm, sm, ih]; grind
theorem sm_mull (a : Rat) (n : Nat) (f : Nat → Rat) : sm n (fun i => a * f i) = a * sm n f := by
  induction n with
  | zero => simp only [sm]; grind
  | succ n ih => rw [sm, sm, ih]; grind
theorem sm_mulr (a : Rat) (n : Nat) (f : Nat → Rat) : sm n (fun i => f i * a) = sm n f * a := by
  induction n with
  | zero => simp only [sm]; grind
  | succ n ih => rw [sm, sm, ih]; grind
theorem sm_sub (n : Nat) (f g : Nat → Rat) : sm n (fun i => f i - g i) = sm n f - sm n g := by
  induction n with
  | zero => simp only [sm]; grind
  | succ n ih => rw [sm, sm, sm, ih]; grind
theorem sm_swap (n m : Nat) (f : Nat → Nat → Rat) : sm n (fun i => sm m (fun j => f i j)) = sm m (fun j => sm n (fun i => f i j)) := by
  induction n with
  | zero => simp only [sm]; exact (sm_zero m).symm
  | succ n ih => rw [sm, ih, ← sm_add]; exact sm_congr fun j _ => by rw [sm]
theorem sm_ite {n p : Nat} (hp : p < n) (f : Nat → Rat) : sm n (fun j => (if j = p then f j else 0)) = f p := by
  rw [sm_one hp (fun i _ hne => by rw [if_neg hne]), if_pos rfl]
theorem sm_all0 {n : Nat} {f : Nat → Rat} (h : ∀ i, i < n → f i = 0) : sm n f = 0 := by
  rw [sm_congr (g := fun _ => 0) h, sm_zero]
/-! ### Determinants with a column that is a combination -/
theorem colSet_self (F : Nat → Nat → Rat) (p : Nat) : colSet F p (fun i => F i p) = F := by
  funext i j; unfold colSet; split
  · rename_i h; rw [h]
  · rfl
theorem det_colSet_other {n p q : Nat} {F : Nat → Nat → Rat} (hp : p < n) (hq : q < n) (hne : p ≠ q) : det n (colSet F p (fun i => F i q)) = 0 := by
  have e : ∀ i, colSet F p (fun i => F i q) i p = colSet F p (fun i => F i q) i q := fun i => by
    unfold colSet; rw [if_pos rfl, if_neg (fun h => hne h.symm)]
  rcases Nat.lt_or_ge p q with h | h
  · exact (det_alt n).eqcol q p _ h hq fun i _ => e i
  · exact (det_alt n).eqcol p q _ (by omega) hp fun i _ => (e i).symm
theorem det_comb {n p : Nat} (hp : p < n) (F : Nat → Nat → Rat) (t : Nat → Rat) : det n (colSet F p (fun a => sm n (fun l => t l * F a l))) = t p * det n F := by
  rw [(det_alt n).sum hp F t (fun l a => F a l) n, sm_one hp (fun l hl hne => by rw [det_colSet_other hp hl (fun e => hne e.symm)]; grind), colSet_self]
theorem det_lastcol : ∀ (n : Nat) (F : Nat → Nat → Rat), (∀ a, a ≤ n → F a n = if a = n then 1 else 0) → det (n + 1) F = det n F
  | 0, F, h => by
    have := h 0 (Nat.le_refl _)
    simp only [det, sm, sgn] at *
    rw [this]; simp; grind
  | n + 1, F, h => by
    rw [det, det, sm]
    have h0 := h 0 (by omega)
    rw [if_neg (by omega)] at h0
    rw [h0]
    have e : sm (n + 1) (fun j => sgn j * F 0 j * det (n + 1) (fun i k => F (i + 1) (skip j k))) = sm (n + 1) (fun j => sgn j * F 0 j * det n (fun i k => F (i + 1) (skip j k))) := sm_congr fun j hj => by
      rw [det_lastcol n (fun i k => F (i + 1) (skip j k)) (fun a ha => by
        show F (a + 1) (skip j n) = _
        rw [show skip j n = n + 1 by unfold skip; rw [if_neg (by omega)], h (a + 1) (by omega)]
        by_cases c : a = n
        · rw [if_pos c, if_pos (by omega)]
        · rw [if_neg c, if_neg (by omega)])]
    rw [e]; grind
theorem det_bord {p : Nat} (F : Nat → Nat → Rat) (t : Nat → Rat) (x : Rat) (h : ∀ a, a ≤ p → F a p = sm p (fun l => t l * F a l) + (if a = p then x else 0)) : det (p + 1) F = x * det p F := by
  have h1 := det_col (1 : Rat) x (n := p + 1) (p := p) (F := F) (G := colSet F p (fun a => sm p (fun l => t l * F a l))) (H := colSet F p (fun a => if a = p then 1 else 0)) (by omega)
    (fun i hi => by rw [h i (by omega)]; simp only [colSet, if_pos]; split <;> grind) (fun i j _ _ hj => by simp only [colSet, if_neg hj]) (fun i j _ _ hj => by simp only [colSet, if_neg hj])
  have h2 : det (p + 1) (colSet F p (fun a => sm p (fun l => t l * F a l))) = 0 := by
    have := (det_alt (p + 1)).sum (p := p) (by omega) F t (fun l a => F a l) p
    rw [this]
    exact sm_all0 fun l hl => by rw [det_colSet_other (by omega) (by omega) (by omega)]; grind
  have h3 : det (p + 1) (colSet F p (fun a => if a = p then 1 else 0)) = det p F := by
    rw [det_lastcol p _ (fun a ha => by simp only [colSet, if_pos])]
    exact det_congr fun i j hi hj => by simp only [colSet, if_neg (show j ≠ p by omega)]
  rw [h1, h2, h3]; grind
end Tor.Lin
end

section
set_option linter.unusedVariables false
set_option linter.unusedSimpArgs false
namespace Tor.Lin
/-- The columns of the pivots. -/
abbrev pv (e : ElS) (l : Nat) : Nat := e.piv.getD l 0
/-- The elimination e of the first c columns of A (r rows, w columns); V: the rows divided by the last pivot. -/
structure GJ (r w c : Nat) (full : Bool) (A : Nat → Nat → Int) (e : ElS) (V : Nat → Nat → Rat) : Prop where
  d0 : e.last ≠ 0
  pr : e.piv.length ≤ r
  pc : ∀ l, l < e.piv.length → pv e l < c
  dP : (e.last : Rat) = det e.piv.length (fun a b => (A a (pv e b) : Rat))
  A2 : ∀ i, i < r → ∀ j, j < w → (A i j : Rat) = sm e.piv.length (fun k => (A i (pv e k) : Rat) * V k j) + (if i < e.piv.length then 0 else V i j)
  B3 : ∀ i, i < r → ∀ j, j < w → (full = true ∨ e.piv.length ≤ i) → (e.R i j : Rat) = (e.last : Rat) * V i j
  V4 : ∀ l, l < e.piv.length → ∀ i, i < r → V i (pv e l) = if i = l then 1 else 0
  V5 : ∀ c', c' < c → ∀ i, e.piv.length ≤ i → i < r → V i c' = 0
  V6 : ∀ y : Nat → Rat, (∀ i, i < r → sm w (fun j => y j * (A i j : Rat)) = 0) → ∀ i, i < r → sm w (fun j => y j * V i j) = 0
theorem int_ne {x : Int} (h : x ≠ 0) : (x : Rat) ≠ 0 := fun e => h (by exact_mod_cast e)
theorem GJ.int {r w c : Nat} {full : Bool} {A : Nat → Nat → Int} {d : Int} {piv : List Nat} {V : Nat → Nat → Rat}
    (dP : (d : Rat) = det piv.length (fun a b => (A a (piv.getD b 0) : Rat)))
    (A2 : ∀ i, i < r → ∀ j, j < w → (A i j : Rat) = sm piv.length (fun k => (A i (piv.getD k 0) : Rat) * V k j) + (if i < piv.length then 0 else V i j)) (pr : piv.length ≤ r)
    {i j : Nat} (hi : i < r) (hj : j < w) : ∃ N : Int, (N : Rat) = (d : Rat) * V i j := by
  by_cases h : i < piv.length
  · refine ⟨detZ piv.length (fun a b => if b = i then A a j else A a (piv.getD b 0)), ?_⟩
    rw [detZ_cast, dP]
    have e : det piv.length (fun a b => ((if b = i then A a j else A a (piv.getD b 0) : Int) : Rat)) = det piv.length (colSet (fun a b => (A a (piv.getD b 0) : Rat)) i (fun a => sm piv.length (fun l => V l j * (A a (piv.getD l 0) : Rat)))) := det_congr fun a b ha hb => by
      unfold colSet
      by_cases c : b = i
      · rw [if_pos c, if_pos c, A2 a (by omega) j hj, if_pos ha, Rat.add_zero]
        exact sm_congr fun l _ => Rat.mul_comm _ _
      · rw [if_neg c, if_neg c]
    rw [e, det_comb h (fun a b => (A a (piv.getD b 0) : Rat)) (fun l => V l j), Rat.mul_comm]
  · refine ⟨detZ (piv.length + 1) (fun a b => A (if a < piv.length then a else i) (if b < piv.length then piv.getD b 0 else j)), ?_⟩
    rw [detZ_cast, dP, det_bord _ (fun l => V l j) (V i j) (fun a ha => ?_), Rat.mul_comm]
    · congr 1
      exact det_congr fun a b ha hb => by rw [if_pos ha, if_pos hb]
    · rw [if_neg (Nat.lt_irrefl _)]
      by_cases c : a < piv.length
      · rw [if_pos c, if_neg (show a ≠ piv.length by omega), A2 a (by omega) j hj, if_pos c]
        congr 1
        exact sm_congr fun l hl => by rw [if_pos hl]; exact Rat.mul_comm _ _
      · rw [if_neg c, if_pos (show a = piv.length by omega), A2 i hi j hj, if_neg h]
        congr 1
        exact sm_congr fun l hl => by rw [if_pos hl]; exact Rat.mul_comm _ _
theorem GJ.start {r w : Nat} {full : Bool} (A : Nat → Nat → Int) : GJ r w 0 full A ⟨A, 1, false, []⟩ (fun i j => (A i j : Rat)) where
  d0 := (by decide : (1 : Int) ≠ 0)
  pr := Nat.zero_le _
  pc := fun l h => absurd h (Nat.not_lt_zero _)
  dP := rfl
  A2 := fun i hi j hj => by
    show (A i j : Rat) = 0 + (if i < 0 then 0 else (A i j : Rat))
    rw [if_neg (Nat.not_lt_zero _)]; grind
  B3 := fun i hi j hj _ => by
    show (A i j : Rat) = ((1 : Int) : Rat) * (A i j : Rat)
    have : ((1 : Int) : Rat) = 1 := rfl
    rw [this]; grind
  V4 := fun l h => absurd h (Nat.not_lt_zero _)
  V5 := fun c' h => absurd h (Nat.not_lt_zero _)
  V6 := fun y h => h
theorem GJ.skip {r w c : Nat} {full : Bool} {A : Nat → Nat → Int} {e : ElS} {V : Nat → Nat → Rat} (h : GJ r w c full A e V) (hc : c < w) (h0 : ∀ q, e.piv.length ≤ q → q < r → e.R q c = 0) : GJ r w (c + 1) full A e V :=
  ⟨h.d0, h.pr, fun l hl => Nat.lt_succ_of_lt (h.pc l hl), h.dP, h.A2, h.B3, h.V4, fun c' hc' i h1 h2 => by
    by_cases e1 : c' = c
    · subst e1
      have := h.B3 i h2 c' hc (.inr h1)
      rw [h0 i h1 h2] at this
      have hd := int_ne h.d0
      have h3 : ((0 : Int) : Rat) = 0 := rfl
      rw [h3] at this
      grind
    · exact h.V5 c' (by omega) i h1 h2, h.V6⟩
theorem GJ.swap {r w c : Nat} {full : Bool} {A : Nat → Nat → Int} {e : ElS} {V : Nat → Nat → Rat} (h : GJ r w c full A e V) {i : Nat} (hp : e.piv.length < r) (hk : e.piv.length ≤ i) (hi : i < r) (odd : Bool) :
    GJ r w c full (Tor.swp i e.piv.length A) ⟨Tor.swp i e.piv.length e.R, e.last, odd, e.piv⟩ (Tor.swp i e.piv.length V) := by
  have low : ∀ {α : Type} (φ : Nat → α) (q : Nat), q < e.piv.length → Tor.swp i e.piv.length φ q = φ q := fun φ q hq => by
    unfold Tor.swp; rw [if_neg (by omega), if_neg (by omega)]
  have val : ∀ q, q < r → ∃ q', q' < r ∧ (q < e.piv.length ↔ q' < e.piv.length) ∧ (q < e.piv.length → q' = q) ∧ ∀ {α : Type} (φ : Nat → α), Tor.swp i e.piv.length φ q = φ q' := fun q hq => by
    by_cases h1 : q = i
    · exact ⟨e.piv.length, hp, by omega, by omega, fun φ => by unfold Tor.swp; rw [if_pos h1]⟩
    · by_cases h2 : q = e.piv.length
      · exact ⟨i, hi, by omega, by omega, fun φ => by unfold Tor.swp; rw [if_neg h1, if_pos h2]⟩
      · exact ⟨q, hq, Iff.rfl, fun _ => rfl, fun φ => by unfold Tor.swp; rw [if_neg h1, if_neg h2]⟩
  refine ⟨h.d0, h.pr, h.pc, ?_, fun q hq j hj => ?_, fun q hq j hj hf => ?_, fun l hl q hq => ?_, fun c' hc' q h1 h2 => ?_, fun y hy q hq => ?_⟩
  · show (e.last : Rat) = _
    rw [h.dP]
    exact det_congr fun a b ha hb => by rw [low A a ha]
  · obtain ⟨q', h1, h2, h3, h4⟩ := val q hq
    show ((Tor.swp i e.piv.length A q j : Int) : Rat) = sm e.piv.length (fun k => ((Tor.swp i e.piv.length A q (pv e k) : Int) : Rat) * Tor.swp i e.piv.length V k j) + (if q < e.piv.length then 0 else Tor.swp i e.piv.length V q j)
    rw [h4 A, h4 V, h.A2 q' h1 j hj]
    congr 1
    · exact sm_congr fun k hk' => by rw [low V k hk']
    · by_cases c : q < e.piv.length
      · rw [if_pos c, if_pos (h2.1 c)]
      · rw [if_neg c, if_neg (fun k => c (h2.2 k))]
  · obtain ⟨q', h1, h2, h3, h4⟩ := val q hq
    show ((Tor.swp i e.piv.length e.R q j : Int) : Rat) = (e.last : Rat) * Tor.swp i e.piv.length V q j
    rw [h4 e.R, h4 V]
    exact h.B3 q' h1 j hj (hf.imp id fun k => by
      have k : e.piv.length ≤ q := k
      omega)
  · obtain ⟨q', h1, h2, h3, h4⟩ := val q hq
    have hl : l < e.piv.length := hl
    show Tor.swp i e.piv.length V q (pv e l) = _
    rw [h4 V, h.V4 l hl q' h1]
    by_cases c : q < e.piv.length
    · rw [h3 c]
    · rw [if_neg (by omega), if_neg (by omega)]
  · obtain ⟨q', h3, h4, h5, h6⟩ := val q h2
    have h1 : e.piv.length ≤ q := h1
    show Tor.swp i e.piv.length V q c' = 0
    rw [h6 V]
    exact h.V5 c' hc' q' (by omega) h3
  · obtain ⟨q', h1, h2, h3, h4⟩ := val q hq
    show sm w (fun j => y j * Tor.swp i e.piv.length V q j) = 0
    rw [h4 V]
    refine h.V6 y (fun k hk' => ?_) q' h1
    obtain ⟨k', g1, g2, g3, g4⟩ := val k hk'
    have hb : ∃ q0, q0 < r ∧ Tor.swp i e.piv.length A q0 = A k := by
      by_cases c1 : k = i
      · exact ⟨e.piv.length, hp, by rw [swp_at, c1]⟩
      · by_cases c2 : k = e.piv.length
        · exact ⟨i, hi, by unfold Tor.swp; rw [if_pos rfl, c2]⟩
        · exact ⟨k, hk', by unfold Tor.swp; rw [if_neg c1, if_neg c2]⟩
    obtain ⟨q0, g5, g6⟩ := hb
    rw [← g6]; exact hy q0 g5
theorem getD_app {l : List Nat} {c k : Nat} (h : k < l.length) : (l ++ [c]).getD k 0 = l.getD k 0 := by
  simp [List.getD, List.getElem?_append_left h]
theorem getD_app_last (l : List Nat) (c : Nat) : (l ++ [c]).getD l.length 0 = c := by simp [List.getD]
theorem GJ.step {r w c : Nat} {full : Bool} {A : Nat → Nat → Int} {e : ElS} {V : Nat → Nat → Rat} (h : GJ r w c full A e V) (hc : c < w) (hp : e.piv.length < r) (hn : e.R e.piv.length c ≠ 0) (odd : Bool) :
    GJ r w (c + 1) full A ⟨stepR e.piv.length c e.last full e.R, e.R e.piv.length c, odd, e.piv ++ [c]⟩ (fun i j => if i = e.piv.length then V i j / V i c else V i j - V i c * (V e.piv.length j / V e.piv.length c)) ∧ V e.piv.length c ≠ 0 := by
  have hd := int_ne h.d0
  have hpc := h.B3 e.piv.length hp c hc (.inr (Nat.le_refl _))
  have hnq := int_ne hn
  have hv : V e.piv.length c ≠ 0 := fun k => hnq (by rw [hpc, k]; grind)
  refine ⟨?_, hv⟩
  generalize hV' : (fun i j => if i = e.piv.length then V i j / V i c else V i j - V i c * (V e.piv.length j / V e.piv.length c)) = V'
  have hlen : (e.piv ++ [c]).length = e.piv.length + 1 := by simp
  have vp : ∀ j, V' e.piv.length j = V e.piv.length j / V e.piv.length c := fun j => by rw [← hV']; simp only [if_pos]
  have vi : ∀ i j, i ≠ e.piv.length → V' i j = V i j - V i c * V' e.piv.length j := fun i j hi => by rw [vp, ← hV']; simp only [if_neg hi]
  have vpm : ∀ j, V e.piv.length j = V e.piv.length c * V' e.piv.length j := fun j => by rw [vp]; grind
  have hA2 : ∀ i, i < r → ∀ j, j < w → (A i j : Rat) = sm (e.piv ++ [c]).length (fun k => (A i ((e.piv ++ [c]).getD k 0) : Rat) * V' k j) + (if i < (e.piv ++ [c]).length then 0 else V' i j) := fun i hi j hj => by
    rw [hlen, sm, getD_app_last]
    have e1 : sm e.piv.length (fun k => (A i ((e.piv ++ [c]).getD k 0) : Rat) * V' k j) = sm e.piv.length (fun k => (A i (pv e k) : Rat) * V k j) - sm e.piv.length (fun k => (A i (pv e k) : Rat) * V k c) * V' e.piv.length j := by
      rw [← sm_mulr, ← sm_sub]
      exact sm_congr fun k hk => by rw [getD_app hk, vi k j (by omega)]; grind
    rw [e1]
    have a1 := h.A2 i hi j hj
    have a2 := h.A2 i hi c hc
    by_cases c1 : i < e.piv.length
    · rw [if_pos c1] at a1 a2
      rw [if_pos (by omega)]
      grind
    · rw [if_neg c1] at a1 a2
      by_cases c2 : i = e.piv.length
      · subst c2
        rw [if_pos (by omega)]
        have := vpm j
        grind
      · rw [if_neg (by omega), vi i j c2]
        grind
  have hdP : ((e.R e.piv.length c : Int) : Rat) = det (e.piv ++ [c]).length (fun a b => (A a ((e.piv ++ [c]).getD b 0) : Rat)) := by
    rw [hlen, det_bord _ (fun l => V l c) (V e.piv.length c) (fun a ha => ?_), hpc, h.dP, Rat.mul_comm]
    · congr 1
      exact det_congr fun a b ha hb => by rw [getD_app hb]
    · rw [getD_app_last, h.A2 a (by omega) c hc]
      have e2 : sm e.piv.length (fun k => (A a (pv e k) : Rat) * V k c) = sm e.piv.length (fun l => V l c * (A a ((e.piv ++ [c]).getD l 0) : Rat)) := sm_congr fun l hl => by rw [getD_app hl]; exact Rat.mul_comm _ _
      rw [e2]
      congr 1
      by_cases c1 : a < e.piv.length
      · rw [if_pos c1, if_neg (by omega)]
      · rw [if_neg c1, if_pos (by omega), show a = e.piv.length by omega]
  refine ⟨hn, by rw [hlen]; exact hp, fun l hl => ?_, hdP, hA2, fun i hi j hj hf => ?_, fun l hl i hi => ?_, fun c' hc' i h1 h2 => ?_, fun y hy i hi => ?_⟩
  · have hl : l < (e.piv ++ [c]).length := hl
    show (e.piv ++ [c]).getD l 0 < c + 1
    rw [hlen] at hl
    by_cases c1 : l < e.piv.length
    · rw [getD_app c1]; exact Nat.lt_succ_of_lt (h.pc l c1)
    · rw [show l = e.piv.length by omega, getD_app_last]; omega
  · have hf : full = true ∨ (e.piv ++ [c]).length ≤ i := hf
    show ((Tor.stepR e.piv.length c e.last full e.R i j : Int) : Rat) = ((e.R e.piv.length c : Int) : Rat) * V' i j
    unfold Tor.stepR
    by_cases c1 : i = e.piv.length
    · subst c1
      rw [if_neg (by simp), hpc, vp, h.B3 _ hp j hj (.inr (Nat.le_refl _))]
      grind
    · have hf' : full = true ∨ e.piv.length ≤ i := hf.imp id fun k => by omega
      rw [if_pos (by
        rcases Nat.lt_or_ge e.piv.length i with h1 | h1
        · simp [h1]
        · rcases hf with h2 | h2
          · have : i < e.piv.length := by omega
            simp [h2, this]
          · omega)]
      obtain ⟨N, hN⟩ := GJ.int (c := c) (full := full) hdP hA2 (by omega) hi hj
      have key : e.R e.piv.length c * e.R i j - e.R i c * e.R e.piv.length j = e.last * N := by
        have : ((e.R e.piv.length c * e.R i j - e.R i c * e.R e.piv.length j : Int) : Rat) = ((e.last * N : Int) : Rat) := by
          rw [Rat.intCast_sub, Rat.intCast_mul, Rat.intCast_mul, Rat.intCast_mul, hN, hpc, h.B3 i hi j hj hf', h.B3 i hi c hc hf', h.B3 _ hp j hj (.inr (Nat.le_refl _)), vi i j c1]
          have := vpm j
          grind
        exact_mod_cast this
      unfold stepE
      rw [key, Int.mul_ediv_cancel_left _ h.d0, hN]
  · have hl : l < (e.piv ++ [c]).length := hl
    show V' i ((e.piv ++ [c]).getD l 0) = _
    rw [hlen] at hl
    by_cases c1 : l < e.piv.length
    · rw [getD_app c1]
      have v1 := h.V4 l c1 e.piv.length hp
      rw [if_neg (by omega)] at v1
      by_cases c2 : i = e.piv.length
      · subst c2
        rw [vp, v1, if_neg (by omega)]; grind
      · rw [vi i _ c2, vp, v1, h.V4 l c1 i hi]
        split <;> grind
    · rw [show l = e.piv.length by omega, getD_app_last]
      by_cases c2 : i = e.piv.length
      · subst c2
        rw [vp, if_pos rfl]; grind
      · rw [vi i _ c2, vp, if_neg c2]; grind
  · have h1 : (e.piv ++ [c]).length ≤ i := h1
    rw [hlen] at h1
    rw [vi i c' (by omega), vp]
    by_cases c1 : c' = c
    · subst c1; grind
    · rw [h.V5 c' (by omega) i (by omega) h2, h.V5 c' (by omega) e.piv.length (Nat.le_refl _) hp]; grind
  · have z := h.V6 y hy
    have zp : sm w (fun j => y j * V' e.piv.length j) = 0 := by
      rw [sm_congr (g := fun j => y j * V e.piv.length j * (1 / V e.piv.length c)) (fun j _ => by rw [vp]; grind), sm_mulr, z _ hp]; grind
    by_cases c2 : i = e.piv.length
    · rw [c2]; exact zp
    · rw [sm_congr (g := fun j => y j * V i j - y j * V' e.piv.length j * V i c) (fun j _ => by rw [vi i j c2]; grind), sm_sub, sm_mulr, zp, z i hi]; grind
end Tor.Lin
end

section
set_option linter.unusedVariables false
set_option linter.unusedSimpArgs false
namespace Tor.Lin
def isNew (r w : Nat) (F : Nat → Nat → Int) (c : Nat) : Prop := ¬ ∃ y : Nat → Rat, y c = 1 ∧ (∀ j, c < j → y j = 0) ∧ ∀ i, i < r → sm w (fun j => y j * (F i j : Rat)) = 0
open Classical in
noncomputable def newL (r w : Nat) (F : Nat → Nat → Int) (n : Nat) : List Nat := (List.range n).filter fun c => decide (isNew r w F c)
theorem newL_succ_new {r w : Nat} {F : Nat → Nat → Int} {n : Nat} (h : isNew r w F n) : newL r w F (n + 1) = newL r w F n ++ [n] := by
  unfold newL; rw [List.range_succ, List.filter_append]; simp [h]
theorem newL_succ_old {r w : Nat} {F : Nat → Nat → Int} {n : Nat} (h : ¬ isNew r w F n) : newL r w F (n + 1) = newL r w F n := by
  unfold newL; rw [List.range_succ, List.filter_append]; simp [h]
/-- An elimination of F: of a matrix A with its rows in another order. -/
structure EL (r w c : Nat) (full : Bool) (F : Nat → Nat → Int) (e : ElS) (A : Nat → Nat → Int) (V : Nat → Nat → Rat) : Prop where
  gj : GJ r w c full A e V
  p1 : ∀ i, i < r → ∃ k, k < r ∧ A i = F k
  p2 : ∀ k, k < r → ∃ i, i < r ∧ A i = F k
  sg : det r (fun i j => (A i j : Rat)) = (if e.odd then -1 else 1) * det r (fun i j => (F i j : Rat))
  pl : e.piv = newL r w F c
theorem EL.rel {r w c : Nat} {full : Bool} {F : Nat → Nat → Int} {e : ElS} {A : Nat → Nat → Int} {V : Nat → Nat → Rat} (h : EL r w c full F e A V) {P : (Nat → Int) → Prop} : (∀ i, i < r → P (A i)) ↔ (∀ i, i < r → P (F i)) := by
  constructor
  · intro H k hk; obtain ⟨i, hi, e⟩ := h.p2 k hk; rw [← e]; exact H i hi
  · intro H i hi; obtain ⟨k, hk, e⟩ := h.p1 i hi; rw [e]; exact H k hk
theorem el_old {r w c : Nat} {full : Bool} {F : Nat → Nat → Int} {e : ElS} {A : Nat → Nat → Int} {V : Nat → Nat → Rat} (h : EL r w c full F e A V) (hc : c < w) (h0 : ∀ q, e.piv.length ≤ q → q < r → e.R q c = 0) : ¬ isNew r w F c := by
  intro hn
  have g' := h.gj.skip hc h0
  have hp : ∀ k, k < e.piv.length → pv e k < c := h.gj.pc
  refine hn ⟨fun j => (if j = c then 1 else 0) - sm e.piv.length (fun k => if j = pv e k then V k c else 0), ?_, fun j hj => ?_, ?_⟩
  · show (if c = c then (1 : Rat) else 0) - _ = 1
    rw [if_pos rfl, sm_all0 (fun k hk => by rw [if_neg]; have := hp k hk; omega)]; grind
  · show (if j = c then (1 : Rat) else 0) - _ = 0
    rw [if_neg (by omega), sm_all0 (fun k hk => by rw [if_neg]; have := hp k hk; omega)]; grind
  · refine (h.rel (P := fun a => sm w (fun j => ((if j = c then 1 else 0) - sm e.piv.length (fun k => if j = pv e k then V k c else 0)) * (a j : Rat)) = 0)).1 (fun i hi => ?_)
    have a2 := h.gj.A2 i hi c hc
    have a3 : (if i < e.piv.length then 0 else V i c) = 0 := by
      split
      · rfl
      · exact g'.V5 c (by omega) i (by omega) hi
    rw [a3] at a2
    have e1 : sm w (fun j => ((if j = c then 1 else 0) - sm e.piv.length (fun k => if j = pv e k then V k c else 0)) * (A i j : Rat)) = sm w (fun j => (if j = c then (A i j : Rat) else 0)) - sm w (fun j => sm e.piv.length (fun k => if j = pv e k then V k c * (A i j : Rat) else 0)) := by
      rw [← sm_sub]
      refine sm_congr fun j _ => ?_
      have e2 : sm e.piv.length (fun k => if j = pv e k then V k c * (A i j : Rat) else 0) = sm e.piv.length (fun k => if j = pv e k then V k c else 0) * (A i j : Rat) := by
        rw [← sm_mulr]; exact sm_congr fun k _ => by split <;> grind
      rw [e2]; split <;> grind
    rw [e1, sm_ite hc, sm_swap]
    have e3 : sm e.piv.length (fun k => sm w (fun j => if j = pv e k then V k c * (A i j : Rat) else 0)) = sm e.piv.length (fun k => (A i (pv e k) : Rat) * V k c) := sm_congr fun k hk => by
      rw [sm_ite (by have := hp k hk; omega) (fun j => V k c * (A i j : Rat))]; exact Rat.mul_comm _ _
    rw [e3]; grind
theorem el_new {r w c : Nat} {full : Bool} {F : Nat → Nat → Int} {e : ElS} {A : Nat → Nat → Int} {V : Nat → Nat → Rat} (h : GJ r w c full A e V) (p2 : ∀ k, k < r → ∃ i, i < r ∧ A i = F k) (p1 : ∀ i, i < r → ∃ k, k < r ∧ A i = F k) (hc : c < w) (hp : e.piv.length < r) (hv : V e.piv.length c ≠ 0) : isNew r w F c := by
  rintro ⟨y, y1, y2, y3⟩
  have z := h.V6 y (fun i hi => by obtain ⟨k, hk, ek⟩ := p1 i hi; rw [ek]; exact y3 k hk) _ hp
  rw [sm_one hc (fun j hj hne => by
    rcases Nat.lt_or_ge j c with h1 | h1
    · rw [h.V5 j h1 _ (Nat.le_refl _) hp]; grind
    · rw [y2 j (by omega)]; grind), y1] at z
  exact hv (by grind)
theorem swp_tw {i p : Nat} (A : Nat → Nat → Int) : (fun a b => ((Tor.swp i p A a b : Int) : Rat)) = tw (fun a b => (A a b : Rat)) i p (fun b => (A p b : Rat)) (fun b => (A i b : Rat)) := by
  funext a b
  unfold Tor.swp tw
  by_cases h1 : a = i
  · rw [if_pos h1, if_pos h1]
  · rw [if_neg h1, if_neg h1]
    by_cases h2 : a = p
    · rw [if_pos h2, if_pos h2]
    · rw [if_neg h2, if_neg h2]
theorem elN_EL (r w : Nat) (full : Bool) (F : Nat → Nat → Int) : ∀ c, c ≤ w → ∃ A V, EL r w c full F (elN r full F c) A V
  | 0, _ => ⟨F, _, GJ.start F, fun i hi => ⟨i, hi, rfl⟩, fun k hk => ⟨k, hk, rfl⟩, by show _ = (if false = true then (-1 : Rat) else 1) * _; rw [if_neg (by simp)]; grind, rfl⟩
  | c + 1, hc => by
    obtain ⟨A, V, h⟩ := elN_EL r w full F c (by omega)
    show ∃ A V, EL r w (c + 1) full F (elR r full c (elN r full F c)) A V
    generalize elN r full F c = e at h
    rcases el_cases e.R c e.piv.length r with h0 | ⟨i, hk, hi, h0, hn⟩
    · rw [elR_none h0]
      exact ⟨A, V, h.gj.skip (by omega) h0, h.p1, h.p2, h.sg, by rw [newL_succ_old (el_old h (by omega) h0)]; exact h.pl⟩
    · have hp : e.piv.length < r := by omega
      rw [elR_some hp hk hi h0 hn]
      have hs := h.gj.swap hp hk hi (xor e.odd (decide (i ≠ e.piv.length)))
      obtain ⟨st, hv⟩ := hs.step (by omega) hp (by show Tor.swp i e.piv.length e.R e.piv.length c ≠ 0; rw [swp_at]; exact hn) (xor e.odd (decide (i ≠ e.piv.length)))
      have q1 : ∀ q, q < r → ∃ k, k < r ∧ Tor.swp i e.piv.length A q = F k := fun q hq => by
        unfold Tor.swp; split
        · exact h.p1 _ hp
        · split
          · exact h.p1 _ hi
          · exact h.p1 q hq
      have q2 : ∀ k, k < r → ∃ q, q < r ∧ Tor.swp i e.piv.length A q = F k := fun k hk' => by
        obtain ⟨q, hq, eq⟩ := h.p2 k hk'
        by_cases c1 : q = i
        · exact ⟨e.piv.length, hp, by rw [swp_at, ← c1]; exact eq⟩
        · by_cases c2 : q = e.piv.length
          · exact ⟨i, hi, by unfold Tor.swp; rw [if_pos rfl, ← c2]; exact eq⟩
          · exact ⟨q, hq, by unfold Tor.swp; rw [if_neg c1, if_neg c2]; exact eq⟩
      refine ⟨_, _, st, q1, q2, ?_, ?_⟩
      · show det r (fun a b => ((Tor.swp i e.piv.length A a b : Int) : Rat)) = (if (xor e.odd (decide (i ≠ e.piv.length))) = true then (-1 : Rat) else 1) * _
        by_cases c1 : i = e.piv.length
        · rw [← c1, swp_self, h.sg]; simp
        · rw [swp_tw, det_swap two_rat c1 hi hp, h.sg]
          cases e.odd <;> simp [c1] <;> grind
      · show e.piv ++ [c] = newL r w F (c + 1)
        rw [newL_succ_new (el_new hs q2 q1 (by omega) hp hv), ← h.pl]
theorem det_dep {n c : Nat} {F : Nat → Nat → Rat} {y : Nat → Rat} (hc : c < n) (h1 : y c = 1) (h : ∀ i, i < n → sm n (fun j => y j * F i j) = 0) : det n F = 0 := by
  have e : det n F = det n (colSet F c (fun a => sm n (fun l => (if l = c then 0 else - y l) * F a l))) := det_congr fun i j hi hj => by
    unfold colSet
    by_cases hj' : j = c
    · rw [if_pos hj', hj']
      have e1 : sm n (fun l => (if l = c then 0 else - y l) * F i l) = sm n (fun l => (if l = c then F i l else 0)) - sm n (fun l => y l * F i l) := by
        rw [← sm_sub]
        exact sm_congr fun l _ => by
          by_cases hl : l = c
          · rw [if_pos hl, if_pos hl, hl, h1]; grind
          · rw [if_neg hl, if_neg hl]; grind
      show F i c = sm n (fun l => (if l = c then 0 else - y l) * F i l)
      rw [e1, sm_ite hc, h i hi]; grind
    · rw [if_neg hj']
  rw [e, det_comb hc F (fun l => if l = c then 0 else - y l), if_pos rfl]; grind
theorem filter_all {α : Type} {p : α → Bool} {l : List α} (h : ¬ (l.filter p).length < l.length) : l.filter p = l := by
  have h1 := List.length_filter_le p l
  exact List.filter_eq_self.2 (List.length_filter_eq_length_iff.1 (by omega))
theorem newL_full {r w n : Nat} {F : Nat → Nat → Int} (h : ¬ (newL r w F n).length < n) : newL r w F n = List.range n := by
  unfold newL at *
  have := filter_all (l := List.range n) (p := fun c => @decide (isNew r w F c) (Classical.propDecidable _)) (by rw [List.length_range]; exact h)
  exact this
theorem newL_short {r w n : Nat} {F : Nat → Nat → Int} (h : (newL r w F n).length < n) : ∃ c, c < n ∧ ¬ isNew r w F c := by
  refine Classical.byContradiction fun hn => ?_
  have : newL r w F n = List.range n := by
    unfold newL
    rw [List.filter_eq_self]
    intro c hc
    have h1 : isNew r w F c := Classical.byContradiction fun k => hn ⟨c, List.mem_range.1 hc, k⟩
    simp [h1]
  rw [this, List.length_range] at h
  omega
def detE (r : Nat) (F : Nat → Nat → Int) : Int := if (elN r false F r).piv.length < r then 0 else if (elN r false F r).odd then -(elN r false F r).last else (elN r false F r).last
theorem detE_eq (r : Nat) (F : Nat → Nat → Int) : detE r F = detZ r F := by
  have key : ((detE r F : Int) : Rat) = ((detZ r F : Int) : Rat) := by
    rw [detZ_cast]
    obtain ⟨A, V, h⟩ := elN_EL r r false F r (Nat.le_refl _)
    unfold detE
    split
    · rename_i hp
      rw [h.pl] at hp
      obtain ⟨c, hc, hn⟩ := newL_short hp
      obtain ⟨y, y1, y2, y3⟩ := Classical.not_not.1 hn
      rw [det_dep hc y1 y3]; rfl
    · rename_i hp
      have hl : (elN r false F r).piv.length = r := by have := h.gj.pr; omega
      have hr := newL_full (by rw [← h.pl]; exact hp)
      have hd := h.gj.dP
      rw [hl] at hd
      have e1 : det r (fun a b => (A a (pv (elN r false F r) b) : Rat)) = det r (fun a b => (A a b : Rat)) := det_congr fun a b ha hb => by
        show ((A a ((elN r false F r).piv.getD b 0) : Int) : Rat) = _
        rw [h.pl, hr]
        simp [List.getD, hb]
      rw [e1, h.sg] at hd
      cases ho : (elN r false F r).odd
      · rw [ho] at hd
        simp at hd ⊢
        rw [hd]
      · rw [ho] at hd
        simp at hd ⊢
        rw [hd]; grind
  exact_mod_cast key
end Tor.Lin
end

section
set_option linter.unusedVariables false
set_option linter.unusedSimpArgs false
namespace Tor
open Go Go.RowKit Go.Proofs
def blenF : Nat → Nat → Nat
  | 0, _ => 0
  | f + 1, x => if x = 0 then 0 else blenF f (x / 2) + 1
def blen (x : Nat) : Nat := blenF 64 x
theorem blenF_spec : ∀ (f x : Nat), x < 2 ^ f → x < 2 ^ blenF f x ∧ (x = 0 → blenF f x = 0) ∧ (x ≠ 0 → 0 < blenF f x ∧ 2 ^ (blenF f x - 1) ≤ x) ∧ blenF f x ≤ f
  | 0, x, h => by simp at h; subst h; simp [blenF]
  | f + 1, x, h => by
    rw [blenF]
    split
    · rename_i h0; subst h0; simp
    · rename_i h0
      have h1 : x / 2 < 2 ^ f := by rw [Nat.pow_succ] at h; omega
      obtain ⟨i1, i2, i3, i4⟩ := blenF_spec f (x / 2) h1
      refine ⟨by rw [Nat.pow_succ]; omega, fun h => absurd h h0, fun _ => ⟨by omega, ?_⟩, by omega⟩
      rw [Nat.add_sub_cancel]
      by_cases h2 : x / 2 = 0
      · rw [i2 h2]; simp; omega
      · obtain ⟨j1, j2⟩ := i3 h2
        obtain ⟨m, hm⟩ : ∃ m, blenF f (x / 2) = m + 1 := ⟨blenF f (x / 2) - 1, by omega⟩
        rw [hm] at j2 ⊢
        rw [Nat.add_sub_cancel] at j2
        rw [Nat.pow_succ]; omega
theorem blen_lt {x : Nat} (h : x < 2 ^ 64) : x < 2 ^ blen x := (blenF_spec 64 x h).1
theorem blen_ge {x : Nat} (h : x < 2 ^ 64) (h0 : x ≠ 0) : 0 < blen x ∧ 2 ^ (blen x - 1) ≤ x := (blenF_spec 64 x h).2.2.1 h0
theorem blen_uniq {x n : Nat} (h : x < 2 ^ 64) (h1 : x < 2 ^ n) (h2 : n = 0 ∨ 2 ^ (n - 1) ≤ x) : blen x = n := by
  obtain ⟨i1, i2, i3, _⟩ := blenF_spec 64 x h
  show blenF 64 x = n
  by_cases h0 : x = 0
  · rw [i2 h0]
    rcases h2 with h2 | h2
    · exact h2.symm
    · subst h0; have := Nat.two_pow_pos (n - 1); omega
  · obtain ⟨j1, j2⟩ := i3 h0
    rcases Nat.lt_trichotomy (blenF 64 x) n with h3 | h3 | h3
    · have := Nat.pow_le_pow_right (n := 2) (by decide) (show blenF 64 x ≤ n - 1 by omega)
      rcases h2 with h2 | h2
      · omega
      · omega
    · exact h3
    · have := Nat.pow_le_pow_right (n := 2) (by decide) (show n ≤ blenF 64 x - 1 by omega)
      omega
theorem blen_le {x n : Nat} (h : x < 2 ^ n) (hn : n ≤ 64) : blen x ≤ n := by
  have hx : x < 2 ^ 64 := Nat.lt_of_lt_of_le h (Nat.pow_le_pow_right (by decide) hn)
  by_cases h0 : x = 0
  · have := (blenF_spec 64 x hx).2.1 h0
    unfold blen; omega
  · obtain ⟨j1, j2⟩ := blen_ge hx h0
    rcases Nat.lt_or_ge n (blen x) with h3 | h3
    · have := Nat.pow_le_pow_right (n := 2) (by decide) (show n ≤ blen x - 1 by omega)
      omega
    · exact h3
theorem blen_div {x k : Nat} (h : x < 2 ^ 64) (hk : 2 ^ k ≤ x) : blen x = k + blen (x / 2 ^ k) := by
  have hp := Nat.two_pow_pos k
  have hy : x / 2 ^ k < 2 ^ 64 := Nat.lt_of_le_of_lt (Nat.div_le_self _ _) h
  have hy0 : x / 2 ^ k ≠ 0 := by
    have := (Nat.le_div_iff_mul_le hp (x := 1) (y := x)).2 (by omega); omega
  obtain ⟨j1, j2⟩ := blen_ge hy hy0
  have j3 := blen_lt hy
  refine blen_uniq h ?_ (.inr ?_)
  · rw [Nat.pow_add]
    have := Nat.lt_mul_div_succ x hp
    exact Nat.lt_of_lt_of_le this (Nat.mul_le_mul_left _ j3)
  · have e : k + blen (x / 2 ^ k) - 1 = (blen (x / 2 ^ k) - 1) + k := by omega
    rw [e, Nat.pow_add]
    exact Nat.le_trans (Nat.mul_le_mul_right _ j2) (Nat.div_mul_le_self x (2 ^ k))
theorem tab_of {s : ByteArray} (h : ((List.range 256).all fun i => (s[i]?).map UInt8.toNat == some (blen i)) = true) {i : Nat} (hi : i < 256) : (s[i]?).map UInt8.toNat = some (blen i) := by
  have := List.all_eq_true.1 h i (List.mem_range.2 hi)
  simpa using this
attribute [local irreducible] Tor.J Tor.PJ Tor.StepO Tor.one Tor.slT Tor.ptrT Tor.aggT Tor.tupT Tor.exT Tor.andT Tor.gT Tor.eP Tor.boxO Tor.sliO Tor.slV Tor.VT.le Tor.Ret Tor.anyT
set_option maxHeartbeats 1000000 in
theorem Len32_ok (x : Nat) (hx : x < 4294967296) : Ok Try.prog 105 [one (.int .u32 x)] (one (.int .i64 (blen x))) := by
  refine Ok.enter Try.func105 rfl Try.ntmps105 rfl (fun w O => ?_)
  have key : ∀ y : Nat, y < 256 → blen y ≤ 8 := fun y hy => blen_le (n := 8) (by omega) (by decide)
  by_cases h1 : 65536 ≤ x
  · have e1 := blen_div (k := 16) (x := x) (by omega) (by omega)
    by_cases h2 : 256 ≤ x / 2 ^ 16
    · have e2 := blen_div (k := 8) (x := x / 2 ^ 16) (by omega) (by omega)
      have k2 := key (x / 2 ^ 16 / 2 ^ 8) (by omega)
      refine J_seq ?_
      refine J_reg ?_
      refine st (s_assign rfl) rfl ?_
      refine Run.nil ?_
      refine pj_then ?_
      refine J_seq ?_
      refine J_seq ?_
      refine J_reg ?_
      refine st (s_move rfl) rfl ?_
      refine st (sT (by omega) (s_ge rfl rfl)) rfl ?_
      refine Run.nil ?_
      refine pj_then ?_
      refine J_cond1 rfl ?_
      refine J_seq ?_
      refine J_reg ?_
      refine st (s_move rfl) rfl ?_
      refine st (s_shrU (s := 16) rfl rfl (by decide)) rfl ?_
      refine st (s_assign rfl) rfl ?_
      refine Run.nil ?_
      refine pj_then ?_
      refine J_reg ?_
      refine st (s_assign rfl) rfl ?_
      refine Run.nil ?_
      refine pj_then ?_
      refine J_seq ?_
      refine J_seq ?_
      refine J_reg ?_
      refine st (s_move rfl) rfl ?_
      refine st (sT (by omega) (s_ge rfl rfl)) rfl ?_
      refine Run.nil ?_
      refine pj_then ?_
      refine J_cond1 rfl ?_
      refine J_seq ?_
      refine J_reg ?_
      refine st (s_move rfl) rfl ?_
      refine st (s_shrU (s := 8) rfl rfl (by decide)) rfl ?_
      refine st (s_assign rfl) rfl ?_
      refine Run.nil ?_
      refine pj_then ?_
      refine J_reg ?_
      refine st (s_move rfl) rfl ?_
      refine st (s_add rfl rfl (wrap_i64 (by omega) (by omega))) rfl ?_
      refine st (s_assign rfl) rfl ?_
      refine Run.nil ?_
      refine pj_then ?_
      refine J_seq ?_
      refine J_reg ?_
      refine st (s_move rfl) rfl ?_
      refine st (s_move rfl) rfl ?_
      refine st (s_toU8K rfl (by omega) (by omega)) rfl ?_
      refine st (s_indexStr (by kernel_rfl) rfl rfl (tab_of (by decide +kernel) (by omega))) rfl ?_
      refine st (s_toI64 rfl (by omega) (by omega)) rfl ?_
      refine st (s_add rfl rfl (wrap_i64 (by omega) (by omega))) rfl ?_
      refine st (s_assign rfl) rfl ?_
      refine Run.nil ?_
      refine pj_then ?_
      refine J_ret ?_
      refine retc1 Try.results105 (.tmp rfl (one_le (by congr 1; omega)))
    · have k2 := key (x / 2 ^ 16) (by omega)
      refine J_seq ?_
      refine J_reg ?_
      refine st (s_assign rfl) rfl ?_
      refine Run.nil ?_
      refine pj_then ?_
      refine J_seq ?_
      refine J_seq ?_
      refine J_reg ?_
      refine st (s_move rfl) rfl ?_
      refine st (sT (by omega) (s_ge rfl rfl)) rfl ?_
      refine Run.nil ?_
      refine pj_then ?_
      refine J_cond1 rfl ?_
      refine J_seq ?_
      refine J_reg ?_
      refine st (s_move rfl) rfl ?_
      refine st (s_shrU (s := 16) rfl rfl (by decide)) rfl ?_
      refine st (s_assign rfl) rfl ?_
      refine Run.nil ?_
      refine pj_then ?_
      refine J_reg ?_
      refine st (s_assign rfl) rfl ?_
      refine Run.nil ?_
      refine pj_then ?_
      refine J_seq ?_
      refine J_seq ?_
      refine J_reg ?_
      refine st (s_move rfl) rfl ?_
      refine st (sF (by omega) (s_ge rfl rfl)) rfl ?_
      refine Run.nil ?_
      refine pj_then ?_
      refine J_cond0 rfl ?_
      refine J_skip ?_
      refine pj_then ?_
      refine J_seq ?_
      refine J_reg ?_
      refine st (s_move rfl) rfl ?_
      refine st (s_move rfl) rfl ?_
      refine st (s_toU8K rfl (by omega) (by omega)) rfl ?_
      refine st (s_indexStr (by kernel_rfl) rfl rfl (tab_of (by decide +kernel) (by omega))) rfl ?_
      refine st (s_toI64 rfl (by omega) (by omega)) rfl ?_
      refine st (s_add rfl rfl (wrap_i64 (by omega) (by omega))) rfl ?_
      refine st (s_assign rfl) rfl ?_
      refine Run.nil ?_
      refine pj_then ?_
      refine J_ret ?_
      refine retc1 Try.results105 (.tmp rfl (one_le (by congr 1; omega)))
  · by_cases h2 : 256 ≤ x
    · have e2 := blen_div (k := 8) (x := x) (by omega) (by omega)
      have k2 := key (x / 2 ^ 8) (by omega)
      refine J_seq ?_
      refine J_reg ?_
      refine st (s_assign rfl) rfl ?_
      refine Run.nil ?_
      refine pj_then ?_
      refine J_seq ?_
      refine J_seq ?_
      refine J_reg ?_
      refine st (s_move rfl) rfl ?_
      refine st (sF (by omega) (s_ge rfl rfl)) rfl ?_
      refine Run.nil ?_
      refine pj_then ?_
      refine J_cond0 rfl ?_
      refine J_skip ?_
      refine pj_then ?_
      refine J_seq ?_
      refine J_seq ?_
      refine J_reg ?_
      refine st (s_move rfl) rfl ?_
      refine st (sT (by omega) (s_ge rfl rfl)) rfl ?_
      refine Run.nil ?_
      refine pj_then ?_
      refine J_cond1 rfl ?_
      refine J_seq ?_
      refine J_reg ?_
      refine st (s_move rfl) rfl ?_
      refine st (s_shrU (s := 8) rfl rfl (by decide)) rfl ?_
      refine st (s_assign rfl) rfl ?_
      refine Run.nil ?_
      refine pj_then ?_
      refine J_reg ?_
      refine st (s_move rfl) rfl ?_
      refine st (s_add rfl rfl (wrap_i64 (by omega) (by omega))) rfl ?_
      refine st (s_assign rfl) rfl ?_
      refine Run.nil ?_
      refine pj_then ?_
      refine J_seq ?_
      refine J_reg ?_
      refine st (s_move rfl) rfl ?_
      refine st (s_move rfl) rfl ?_
      refine st (s_toU8K rfl (by omega) (by omega)) rfl ?_
      refine st (s_indexStr (by kernel_rfl) rfl rfl (tab_of (by decide +kernel) (by omega))) rfl ?_
      refine st (s_toI64 rfl (by omega) (by omega)) rfl ?_
      refine st (s_add rfl rfl (wrap_i64 (by omega) (by omega))) rfl ?_
      refine st (s_assign rfl) rfl ?_
      refine Run.nil ?_
      refine pj_then ?_
      refine J_ret ?_
      refine retc1 Try.results105 (.tmp rfl (one_le (by congr 1; omega)))
    · have k2 := key x (by omega)
      refine J_seq ?_
      refine J_reg ?_
      refine st (s_assign rfl) rfl ?_
      refine Run.nil ?_
      refine pj_then ?_
      refine J_seq ?_
      refine J_seq ?_
      refine J_reg ?_
      refine st (s_move rfl) rfl ?_
      refine st (sF (by omega) (s_ge rfl rfl)) rfl ?_
      refine Run.nil ?_
      refine pj_then ?_
      refine J_cond0 rfl ?_
      refine J_skip ?_
      refine pj_then ?_
      refine J_seq ?_
      refine J_seq ?_
      refine J_reg ?_
      refine st (s_move rfl) rfl ?_
      refine st (sF (by omega) (s_ge rfl rfl)) rfl ?_
      refine Run.nil ?_
      refine pj_then ?_
      refine J_cond0 rfl ?_
      refine J_skip ?_
      refine pj_then ?_
      refine J_seq ?_
      refine J_reg ?_
      refine st (s_move rfl) rfl ?_
      refine st (s_move rfl) rfl ?_
      refine st (s_toU8K rfl (by omega) (by omega)) rfl ?_
      refine st (s_indexStr (by kernel_rfl) rfl rfl (tab_of (by decide +kernel) (by omega))) rfl ?_
      refine st (s_toI64 rfl (by omega) (by omega)) rfl ?_
      refine st (s_add rfl rfl (wrap_i64 (by omega) (by omega))) rfl ?_
      refine st (s_assign rfl) rfl ?_
      refine Run.nil ?_
      refine pj_then ?_
      refine J_ret ?_
      refine retc1 Try.results105 (.tmp rfl (one_le (by congr 1; omega)))
set_option maxHeartbeats 1000000 in
theorem LZ32_ok (x : Nat) (hx : x < 4294967296) : Ok Try.prog 102 [one (.int .u32 x)] (one (.int .i64 ((32 - blen x : Nat) : Int))) := by
  have h := blen_le (n := 32) (x := x) (by omega) (by decide)
  refine Ok.enter Try.func102 rfl Try.ntmps102 rfl (fun w O => ?_)
  refine J_seq ?_
  refine J_reg ?_
  refine st (s_assign rfl) rfl ?_
  refine Run.nil ?_
  refine pj_then ?_
  refine J_seq ?_
  refine J_reg ?_
  refine st (s_move rfl) rfl ?_
  refine st (s_callk (Len32_ok _ (by assumption)) rfl ⟨VT.le_refl _, trivial⟩) rfl ?_
  refine st (s_sub rfl rfl (wrap_i64 (by omega) (by omega))) rfl ?_
  refine st (s_assign rfl) rfl ?_
  refine Run.nil ?_
  refine pj_then ?_
  refine J_ret ?_
  refine retc1 Try.results102 (.tmp rfl (one_le (by congr 1; omega)))
theorem pow32 (i : Nat) : 4294967296 ^ i = 2 ^ (32 * i) := by rw [Nat.pow_mul]
theorem lv_take_lt {l : List Nat} (h : Limbs l) (i : Nat) : lv (l.take i) < 2 ^ (32 * i) := by
  have h1 := lv_lt (h.take i)
  rw [← pow32]
  exact Nat.lt_of_lt_of_le h1 (Nat.pow_le_pow_right (by decide) (by simp; omega))
theorem word_bound {d e i : Nat} (hd : d < 4294967296) (hb : e < 2 ^ (32 * i)) (hi : i ≤ 1) : d * 2 ^ (32 * i) + e < 18446744073709551616 := by
  rcases (show i = 0 ∨ i = 1 by omega) with rfl | rfl
  · rw [show 2 ^ (32 * 0) = 1 by simp] at hb ⊢; omega
  · rw [show 2 ^ (32 * 1) = 4294967296 by simp] at hb ⊢
    have h1 : d * 4294967296 + e < (d + 1) * 4294967296 := by rw [Nat.add_mul]; exact Nat.add_lt_add_left (by rw [Nat.one_mul]; exact hb) _
    exact Nat.lt_of_lt_of_le h1 (Nat.le_trans (Nat.mul_le_mul_right _ hd) (Nat.le_of_eq rfl))
set_option maxHeartbeats 1000000 in
theorem word_ok (l : List Nat) (hl : Limbs l) (h2 : l.length ≤ 2) : Ok Try.prog 99 [limT l] (one (.int .u64 (lv l))) := by
  refine Ok.enter Try.func99 rfl Try.ntmps99 rfl (fun w O => ?_)
  refine J_seq ?_
  refine J_reg ?_
  refine st (s_assign rfl) rfl ?_
  refine Run.nil ?_
  refine pj_then ?_
  refine J_seq ?_
  refine J_reg ?_
  refine st (s_assign rfl) rfl ?_
  refine Run.nil ?_
  refine pj_then ?_
  refine J_seq ?_
  refine J_seq ?_
  refine J_reg ?_
  refine st (s_move rfl) rfl ?_
  refine st (s_len rfl) rfl ?_
  refine st (s_move rfl) rfl ?_
  refine Run.nil ?_
  refine pj_then ?_
  refine J_block ?_
  refine J_sub (Γ' := [(2, _), (3, _), (6, _), (7, _), (8, _)]) (SubG.cons rfl (VT.le_refl _) (SubG.cons rfl (VT.le_refl _) (SubG.cons rfl (VT.le_refl _) (SubG.cons rfl (VT.le_refl _) (SubG.cons rfl (VT.le_refl _) (SubG.nil)))))) (SubM.refl _) ?_
  refine J_loopA (σ := Nat) (Γk := [(2, _), (6, _), (7, _)]) (SubG.cons rfl (VT.le_refl _) (SubG.cons rfl (VT.le_refl _) (SubG.cons rfl (VT.le_refl _) (SubG.nil)))) (fun i => [(8, one (.int .i64 (i : Nat))), (3, one (.int .u64 (lv (l.take i))))]) (fun i M0 => M0) (fun i => i ≤ l.length) (fun i => l.length - i) (0) (Nat.zero_le _) (by repeat (first | exact SubG.refl _ | exact SubG.nil | refine SubG.cons rfl (VT.le_refl _) ?_ | (refine SubG.cons rfl (one_le ?_) ?_; (congr 1; first | omega | (simp; omega) | simp)))) (.nil) (fun i hi => ?_)
  refine J_norm (Γ' := [(8, _), (3, _), (2, _), (6, _), (7, _)]) (M' := []) rfl rfl ?_
  refine J_seq ?_
  refine J_reg ?_
  refine st (s_lt rfl rfl) rfl ?_
  refine Run.nil ?_
  refine pj_then ?_
  refine J_seq ?_
  refine J_if rfl (fun hc => ?_) (fun hc => ?_)
  · have hi1 : i ≤ 1 := by omega
    have hd := getD_lt hl i
    have hb := lv_take_lt hl i
    have hab := word_bound hd hb hi1
    have ha : l.getD i 0 * 2 ^ (32 * i) < 18446744073709551616 := Nat.lt_of_le_of_lt (Nat.le_add_right _ _) hab
    have hn : lv (l.take i) + l.getD i 0 * 2 ^ (32 * i) = lv (l.take (i + 1)) := by
      rw [lv_take_succ (by omega), pow32, Nat.mul_comm]
    refine J_skip ?_
    refine pj_then ?_
    refine J_seq ?_
    refine J_block ?_
    refine J_seq ?_
    refine J_reg ?_
    refine st (s_move rfl) rfl ?_
    refine st (s_indexIN rfl rfl (by omega)) rfl ?_
    refine st (s_load rfl) rfl ?_
    refine st (s_assign rfl) rfl ?_
    refine st (s_assign rfl) rfl ?_
    refine Run.nil ?_
    refine pj_then ?_
    refine J_reg ?_
    refine st (s_move rfl) rfl ?_
    refine st (s_move rfl) rfl ?_
    refine st (s_toU64 rfl (by omega)) rfl ?_
    refine st (s_move rfl) rfl ?_
    refine st (s_mulN 32 _ rfl rfl (by omega)) rfl ?_
    refine st (s_shlU rfl rfl (by omega) (by omega)) rfl ?_
    refine st (s_orS rfl rfl (by omega) (by omega)) rfl ?_
    refine st (s_assign rfl) rfl ?_
    refine Run.nil ?_
    refine pn_block ?_
    refine pj_then ?_
    refine J_reg ?_
    refine st (s_addN _ 1 rfl rfl (by omega)) rfl ?_
    refine st (s_move rfl) rfl ?_
    refine Run.nil ?_
    rw [hn]
    refine pj_roundM (i + 1) (by omega) (by omega) (by repeat (first | exact SubG.refl _ | exact SubG.nil | refine SubG.cons rfl (VT.le_refl _) ?_ | (refine SubG.cons rfl (one_le ?_) ?_; (congr 1; first | omega | (simp; omega) | simp)))) (.nil)
  · have e : i = l.length := by omega
    subst e
    rw [List.take_length]
    refine J_exit ?_
    refine px_then ?_
    refine px_then ?_
    refine px_block ?_
    refine pj_then ?_
    refine J_seq ?_
    refine J_reg ?_
    refine st (s_move rfl) rfl ?_
    refine st (s_assign rfl) rfl ?_
    refine Run.nil ?_
    refine pj_then ?_
    refine J_ret ?_
    refine retc1 Try.results99 (.tmp rfl (VT.le_refl _))
end Tor
end

section
set_option linter.unusedVariables false
set_option linter.unusedSimpArgs false
namespace Tor
open Go Go.RowKit Go.Proofs
/-- The relation of short's loop: limbs n and above are divided. -/
structure ShortR (l : List Nat) (d : Nat) (s : List Nat × Nat × Nat) : Prop where
  le : s.2.1 ≤ l.length
  len : s.1.length = l.length
  lim : Limbs s.1
  r : s.2.2 < d
  zero : ∀ k, k < s.2.1 → s.1.getD k 0 = 0
  val : lv l = lv (l.take s.2.1) + (lv s.1 * d + 4294967296 ^ s.2.1 * s.2.2)
theorem ShortR.start {l : List Nat} {d : Nat} (hd : 0 < d) : ShortR l d (List.replicate l.length 0, l.length, 0) :=
  ⟨Nat.le_refl _, by simp, Limbs.replicate _, hd, fun k _ => getD_replicate0 _ _, by simp [lv_replicate]⟩
theorem ShortR.bound {x r d : Nat} (hx : x < 4294967296) (hr : r < d) (hd : d < 4294967296) : r * 4294967296 + x < 18446744073709551616 ∧ (r * 4294967296 + x) / d < 4294967296 := by
  have h1 : r * 4294967296 + x < d * 4294967296 := by omega
  exact ⟨by omega, Nat.div_lt_of_lt_mul h1⟩
theorem ShortR.step {l : List Nat} {d : Nat} {z : List Nat} {n r : Nat} (h : ShortR l d (z, n + 1, r)) (hl : Limbs l) (hd : d < 4294967296) :
    ShortR l d (z.set n ((r * 4294967296 + l.getD n 0) / d), n, (r * 4294967296 + l.getD n 0) % d) := by
  have hn : n < l.length := h.le
  have hz : n < z.length := by have := h.len; simp only at this; omega
  have hx := getD_lt hl n
  have hr : r < d := h.r
  have hb := ShortR.bound hx hr hd
  have h0 : z.getD n 0 = 0 := h.zero n (Nat.lt_succ_self n)
  have hs := lv_set (l := z) (v := (r * 4294967296 + l.getD n 0) / d) hz
  rw [h0, Nat.mul_zero, Nat.add_zero] at hs
  refine ⟨Nat.le_of_lt hn, by rw [List.length_set]; exact h.len, Limbs.set h.lim hb.2, Nat.mod_lt _ (by omega), fun k hk => ?_, ?_⟩
  · simp only at hk ⊢
    rw [getD_setL hz, if_neg (by omega)]; exact h.zero k (Nat.lt_succ_of_lt hk)
  · have hv : lv l = lv (l.take (n + 1)) + (lv z * d + 4294967296 ^ (n + 1) * r) := h.val
    simp only
    rw [hs, hv, lv_take_succ hn]
    have e := Nat.div_add_mod (r * 4294967296 + l.getD n 0) d
    generalize (r * 4294967296 + l.getD n 0) / d = q at *
    generalize (r * 4294967296 + l.getD n 0) % d = m at *
    generalize l.getD n 0 = x at *
    rw [Nat.pow_succ]
    generalize 4294967296 ^ n = B at *
    have e2 : B * (d * q + m) = B * (r * 4294967296 + x) := by rw [e]
    have e3 : (lv z + B * q) * d = lv z * d + B * (d * q) := by rw [Nat.add_mul, Nat.mul_assoc, Nat.mul_comm q d]
    have e4 : B * 4294967296 * r = B * (r * 4294967296) := by rw [Nat.mul_assoc, Nat.mul_comm r]
    rw [e3, e4]
    rw [Nat.mul_add, Nat.mul_add] at e2
    omega
theorem ShortR.finish {l : List Nat} {d : Nat} {z : List Nat} {r : Nat} (h : ShortR l d (z, 0, r)) : lv z = lv l / d ∧ r = lv l % d := by
  have hv : lv l = lv (l.take 0) + (lv z * d + 4294967296 ^ 0 * r) := h.val
  have hr : r < d := h.r
  have e : lv l = lv z * d + r := by simpa [lv] using hv
  rw [e]
  constructor
  · rw [Nat.mul_comm, Nat.mul_add_div (by omega), Nat.div_eq_of_lt hr]; rfl
  · rw [Nat.mul_comm, Nat.mul_add_mod, Nat.mod_eq_of_lt hr]
theorem lim_set {b : Option Nat} {T : TypeId} {n cap : Nat} {z : List Nat} {k v v' : Nat} (hk : k < z.length) (hv : v' = v) : Own.le (sliO b T .one n cap (upd (fun q => one (.int .u32 (z.getD q 0 : Nat))) k (one (.int .u32 (v' : Nat))))) (sliO b T .one n cap (fun q => one (.int .u32 ((z.set k v).getD q 0 : Nat)))) := by
  subst hv
  exact sliO_eq (fun q _ => by unfold upd; rw [getD_setL hk]; split <;> rfl)
attribute [local irreducible] Tor.J Tor.PJ Tor.StepO Tor.one Tor.slT Tor.ptrT Tor.aggT Tor.tupT Tor.exT Tor.andT Tor.gT Tor.eP Tor.boxO Tor.sliO Tor.slV Tor.VT.le Tor.Ret Tor.anyT
set_option maxHeartbeats 1000000 in
theorem short_ok (l : List Nat) (d : Nat) (hl : Limbs l) (h1 : l.length ≤ 1099511627776) (hd0 : 0 < d) (hd : d < 4294967296) : Ok Try.prog 101 [limT l, one (.int .u32 (d : Nat))] (tupT [natT (lv l / d), one (.int .u32 ((lv l % d : Nat) : Int))]) := by
  refine Ok.enter Try.func101 rfl Try.ntmps101 rfl (fun w O => ?_)
  refine J_seq ?_
  refine J_reg ?_
  refine st (s_assign rfl) rfl ?_
  refine st (s_assign rfl) rfl ?_
  refine Run.nil ?_
  refine pj_then ?_
  refine J_seq ?_
  refine J_reg ?_
  refine st (s_move rfl) rfl ?_
  refine st (s_len rfl) rfl ?_
  refine a_makeSlice l.length l.length rfl rfl rfl rfl (Nat.le_refl _) rfl rfl (by omega) rfl rfl (fun bz => ?_)
  refine st (s_assign rfl) rfl ?_
  refine Run.nil ?_
  refine pj_then ?_
  refine J_seq ?_
  refine J_reg ?_
  refine st (s_assign rfl) rfl ?_
  refine Run.nil ?_
  refine pj_then ?_
  refine J_seq ?_
  refine J_seq ?_
  refine J_reg ?_
  refine st (s_move rfl) rfl ?_
  refine st (s_len rfl) rfl ?_
  refine st (s_sub rfl rfl (wrap_i64 (by omega) (by omega))) rfl ?_
  refine st (s_assign rfl) rfl ?_
  refine Run.nil ?_
  refine pj_then ?_
  refine J_block ?_
  refine J_sub (Γ' := [(0, _), (1, _), (4, _), (5, _), (6, _), (7, _), (8, _)]) (SubG.cons rfl (VT.le_refl _) (SubG.cons rfl (VT.le_refl _) (SubG.cons rfl (VT.le_refl _) (SubG.cons rfl (VT.le_refl _) (SubG.cons rfl (VT.le_refl _) (SubG.cons rfl (VT.le_refl _) (SubG.cons rfl (VT.le_refl _) (SubG.nil)))))))) (SubM.refl _) ?_
  refine J_loopA (σ := List Nat × Nat × Nat) (Γk := [(0, _), (1, _), (4, _), (5, _), (6, _)]) (SubG.cons rfl (VT.le_refl _) (SubG.cons rfl (VT.le_refl _) (SubG.cons rfl (VT.le_refl _) (SubG.cons rfl (VT.le_refl _) (SubG.cons rfl (VT.le_refl _) (SubG.nil)))))) (fun s => [(8, one (.int .i64 ((s.2.1 : Nat) - 1 : Int))), (7, one (.int .u64 (s.2.2 : Nat)))]) (fun s M0 => (M0.set 0 (sliO (some bz) 84 .one l.length l.length (fun q => one (.int .u32 (s.1.getD q 0 : Nat)))))) (fun s => ShortR l d s) (fun s => s.2.1) ((List.replicate l.length 0, l.length, 0)) (ShortR.start hd0) (by repeat (first | exact SubG.refl _ | exact SubG.nil | refine SubG.cons rfl (VT.le_refl _) ?_ | (refine SubG.cons rfl (one_le ?_) ?_; (congr 1; first | omega | (simp; omega) | simp)))) (.keep (sliO_eq (fun q _ => by rw [getD_replicate0]; rfl)) (.nil)) (fun s hs => ?_)
  refine J_norm (Γ' := [(8, _), (7, _), (0, _), (1, _), (4, _), (5, _), (6, _)]) (M' := [_]) rfl rfl ?_
  obtain ⟨z, n, r⟩ := s
  dsimp only at hs ⊢
  refine J_seq ?_
  refine J_seq ?_
  refine J_reg ?_
  refine st (s_move rfl) rfl ?_
  refine st (s_ge rfl rfl) rfl ?_
  refine Run.nil ?_
  refine pj_then ?_
  cases n with
  | zero =>
    obtain ⟨f1, f2⟩ := hs.finish
    have hlen : z.length = l.length := hs.len
    have hr : r < d := hs.r
    rw [← f1, ← f2]
    refine J_condF rfl (by omega) ?_
    refine J_exit ?_
    refine px_then ?_
    refine px_then ?_
    refine px_block ?_
    refine pj_then ?_
    refine J_seq ?_
    refine J_reg ?_
    refine st (s_move rfl) rfl ?_
    refine st (s_move rfl) rfl ?_
    refine st (s_toU32 rfl) rfl ?_
    refine st (s_assign rfl) rfl ?_
    refine st (s_assign rfl) rfl ?_
    refine Run.nil ?_
    refine pj_then ?_
    refine J_ret ?_
    refine PJ_freeze (t := 4) (i := 0) rfl rfl ?_
    refine retc2 Try.results101 (.tmp rfl (VT.le_trans (slT_le' (m := z.length) (ψ := fun i => one (.int .u32 (z.getD i 0 : Nat))) hlen.symm (fun q hq => rfl)) (natT_of (l := z) hs.lim rfl))) (.tmp rfl (one_le (by congr 1; omega)))
  | succ n =>
    have hx := getD_lt hl n
    have hr : r < d := hs.r
    have hb := ShortR.bound hx hr hd
    have hst := hs.step hl hd
    have hn : n < l.length := hs.le
    have hzn : n < z.length := by have := hs.len; dsimp only at this; omega
    have en : ((n + 1 : Nat) : Int) - 1 = (n : Nat) := by omega
    rw [en]
    refine J_condT rfl (by omega) ?_
    refine J_skip ?_
    refine pj_then ?_
    refine J_seq ?_
    refine J_block ?_
    refine J_seq ?_
    refine J_reg ?_
    refine st (s_move rfl) rfl ?_
    refine st (s_shlU (s := 32) rfl rfl (by omega) (by omega)) rfl ?_
    refine st (s_move rfl) rfl ?_
    refine st (s_move rfl) rfl ?_
    refine st (s_indexIN rfl rfl (by omega)) rfl ?_
    refine st (s_load rfl) rfl ?_
    refine st (s_toU64 rfl (by omega)) rfl ?_
    refine st (s_orHL rfl rfl (by omega) (by omega)) rfl ?_
    refine st (s_assign rfl) rfl ?_
    refine Run.nil ?_
    refine pj_then ?_
    refine J_seq ?_
    refine J_reg ?_
    refine st (s_move rfl) rfl ?_
    refine st (s_move rfl) rfl ?_
    refine st (s_move rfl) rfl ?_
    refine st (s_move rfl) rfl ?_
    refine st (s_toU64 rfl (by omega)) rfl ?_
    refine st (s_quoU rfl rfl (by omega) (by omega)) rfl ?_
    refine st (s_toU32 rfl) rfl ?_
    refine st (s_indexON rfl rfl (by omega)) rfl ?_
    (refine a_storeE 0 rfl rfl rfl ?_ rfl ?_; omega)
    refine Run.nil ?_
    refine pj_then ?_
    refine J_reg ?_
    refine st (s_move rfl) rfl ?_
    refine st (s_move rfl) rfl ?_
    refine st (s_toU64 rfl (by omega)) rfl ?_
    refine st (s_remN _ rfl rfl rfl (by omega)) rfl ?_
    refine st (s_assign rfl) rfl ?_
    refine Run.nil ?_
    refine pn_block ?_
    refine pj_then ?_
    refine J_reg ?_
    refine st (s_move rfl) rfl ?_
    refine st (s_sub rfl rfl (wrap_i64 (by omega) (by omega))) rfl ?_
    refine st (s_assign rfl) rfl ?_
    refine Run.nil ?_
    refine pj_roundM ((z.set n ((r * 4294967296 + l.getD n 0) / d), n, (r * 4294967296 + l.getD n 0) % d)) (hst) (by (simp only []; omega)) (by repeat (first | exact SubG.refl _ | exact SubG.nil | refine SubG.cons rfl (VT.le_refl _) ?_ | (refine SubG.cons rfl (one_le ?_) ?_; (congr 1; first | omega | (simp; omega) | simp)))) (.keep (lim_set hzn (Nat.mod_eq_of_lt hb.2)) (.nil))
end Tor
end

section
set_option linter.unusedVariables false
set_option linter.unusedSimpArgs false
namespace Tor
open Go Go.RowKit Go.Proofs
/-- The relation of shift's loop. -/
structure ShiftR (l : List Nat) (s : Nat) (p : List Nat × Nat × Nat) : Prop where
  le : p.2.1 ≤ l.length
  len : p.1.length = l.length + 1
  lim : Limbs p.1
  c : p.2.2 < 2 ^ s
  zero : ∀ k, p.2.1 ≤ k → p.1.getD k 0 = 0
  val : lv p.1 + 4294967296 ^ p.2.1 * p.2.2 = lv (l.take p.2.1) * 2 ^ s
theorem ShiftR.start (l : List Nat) (s : Nat) : ShiftR l s (List.replicate (l.length + 1) 0, 0, 0) :=
  ⟨Nat.zero_le _, by simp, Limbs.replicate _, Nat.two_pow_pos s, fun k _ => getD_replicate0 _ _, by simp [lv_replicate, lv]⟩
theorem ShiftR.bound {d c s : Nat} (hd : d < 4294967296) (hc : c < 2 ^ s) (hs : s < 32) : d * 2 ^ s + c < 4294967296 * 2 ^ s ∧ d * 2 ^ s + c < 18446744073709551616 ∧ d * 2 ^ s < 18446744073709551616 ∧ 2 ^ s < 4294967296 := by
  have h1 : (d + 1) * 2 ^ s ≤ 4294967296 * 2 ^ s := Nat.mul_le_mul_right _ hd
  have h2 : 2 ^ s ≤ 2 ^ 31 := Nat.pow_le_pow_right (by decide) (by omega)
  rw [Nat.add_mul, Nat.one_mul] at h1
  have h3 : (2 : Nat) ^ 31 = 2147483648 := rfl
  generalize d * 2 ^ s = x at *
  generalize 2 ^ s = y at *
  omega
theorem ShiftR.step {l : List Nat} {s : Nat} {z : List Nat} {i c : Nat} (h : ShiftR l s (z, i, c)) (hl : Limbs l) (hs : s < 32) (hi : i < l.length) :
    ShiftR l s (z.set i ((c + l.getD i 0 * 2 ^ s) % 4294967296), i + 1, (c + l.getD i 0 * 2 ^ s) / 4294967296) := by
  have hlen : z.length = l.length + 1 := h.len
  have hz : i < z.length := by omega
  have hc : c < 2 ^ s := h.c
  have hb := ShiftR.bound (getD_lt hl i) hc hs
  have h0 : z.getD i 0 = 0 := h.zero i (Nat.le_refl _)
  have hv : lv z + 4294967296 ^ i * c = lv (l.take i) * 2 ^ s := h.val
  have hse := lv_set (l := z) (v := (c + l.getD i 0 * 2 ^ s) % 4294967296) hz
  rw [h0, Nat.mul_zero, Nat.add_zero] at hse
  refine ⟨hi, by rw [List.length_set]; exact hlen, Limbs.set h.lim (Nat.mod_lt _ (by decide)), ?_, fun k hk => ?_, ?_⟩
  · show (c + l.getD i 0 * 2 ^ s) / 4294967296 < 2 ^ s
    exact Nat.div_lt_of_lt_mul (by omega)
  · simp only at hk ⊢
    rw [getD_setL hz, if_neg (by omega)]; exact h.zero k (by show i ≤ k; omega)
  · show lv (z.set i _) + 4294967296 ^ (i + 1) * _ = lv (l.take (i + 1)) * 2 ^ s
    dsimp only
    rw [hse, lv_take_succ hi, Nat.pow_succ, Nat.add_mul, ← hv]
    generalize l.getD i 0 = x at *
    generalize 2 ^ s = p at *
    have e := Nat.div_add_mod (c + x * p) 4294967296
    generalize (c + x * p) / 4294967296 = q at *
    generalize (c + x * p) % 4294967296 = m at *
    generalize 4294967296 ^ i = B at *
    have e2 : B * (4294967296 * q + m) = B * (c + x * p) := by rw [e]
    rw [Nat.mul_add, Nat.mul_add, ← Nat.mul_assoc, ← Nat.mul_assoc] at e2
    omega
theorem ShiftR.finish {l : List Nat} {s : Nat} {z : List Nat} {c : Nat} (h : ShiftR l s (z, l.length, c)) (hs : s < 32) :
    (z.set l.length c).length = l.length + 1 ∧ Limbs (z.set l.length c) ∧ lv (z.set l.length c) = lv l * 2 ^ s ∧ c < 4294967296 ∧ l.length < z.length := by
  have hlen : z.length = l.length + 1 := h.len
  have hc : c < 2 ^ s := h.c
  have hb := ShiftR.bound (d := 0) (by decide) hc hs
  have h0 : z.getD l.length 0 = 0 := h.zero _ (Nat.le_refl _)
  have hv : lv z + 4294967296 ^ l.length * c = lv (l.take l.length) * 2 ^ s := h.val
  have hse := lv_set (l := z) (k := l.length) (v := c) (by omega)
  rw [h0, Nat.mul_zero, Nat.add_zero] at hse
  rw [List.take_length] at hv
  exact ⟨by rw [List.length_set]; exact hlen, Limbs.set h.lim (by omega), by rw [hse, hv], by omega, by omega⟩
/-- Own limbs. -/
abbrev limF (z : List Nat) : Nat → VT := fun q => one (.int .u32 (z.getD q 0 : Nat))
theorem lim_setF {b : Option Nat} {T : TypeId} {n cap : Nat} {z : List Nat} {k v v' : Nat} (hk : k < z.length) (hv : v' = v) : Own.le (sliO b T .one n cap (upd (limF z) k (one (.int .u32 (v' : Nat))))) (sliO b T .one n cap (limF (z.set k v))) := lim_set hk hv
abbrev ShiftS (l : List Nat) (s : Nat) : Type := {p : Nat × List Nat // p.2.length = l.length + 1 ∧ Limbs p.2 ∧ lv p.2 = lv l * 2 ^ s}
attribute [local irreducible] Tor.J Tor.PJ Tor.StepO Tor.one Tor.slT Tor.ptrT Tor.aggT Tor.tupT Tor.exT Tor.andT Tor.gT Tor.eP Tor.boxO Tor.sliO Tor.slV Tor.VT.le Tor.Ret Tor.anyT
set_option maxHeartbeats 1000000 in
theorem shift_ok (l : List Nat) (s : Nat) (hl : Limbs l) (h1 : l.length ≤ 1099511627776) (hs : s < 32) : OkM Try.prog 103 [limT l, one (.int .i64 (s : Nat))] (fun p : ShiftS l s => one (slV (some p.1.1) (l.length + 1) (l.length + 1))) (fun p => [sliO (some p.1.1) 84 .one (l.length + 1) (l.length + 1) (limF p.1.2)]) := by
  refine OkM.enter Try.func103 rfl Try.ntmps103 rfl (fun w O => ?_)
  refine J_seq ?_
  refine J_reg ?_
  refine st (s_assign rfl) rfl ?_
  refine Run.nil ?_
  refine pj_then ?_
  refine J_seq ?_
  refine J_reg ?_
  refine st (s_move rfl) rfl ?_
  refine st (s_len rfl) rfl ?_
  refine st (s_addN _ 1 rfl rfl (by omega)) rfl ?_
  refine a_makeSlice (l.length + 1) (l.length + 1) rfl rfl (by simp) (by simp) (Nat.le_refl _) rfl rfl (by omega) rfl rfl (fun bz => ?_)
  refine st (s_assign rfl) rfl ?_
  refine Run.nil ?_
  refine pj_then ?_
  refine J_seq ?_
  refine J_reg ?_
  refine st (s_assign rfl) rfl ?_
  refine Run.nil ?_
  refine pj_then ?_
  refine J_seq ?_
  refine J_seq ?_
  refine J_reg ?_
  refine st (s_move rfl) rfl ?_
  refine st (s_len rfl) rfl ?_
  refine st (s_move rfl) rfl ?_
  refine Run.nil ?_
  refine pj_then ?_
  refine J_block ?_
  refine J_sub (Γ' := [(0, _), (1, _), (4, _), (5, _), (6, _), (13, _), (14, _), (15, _)]) (SubG.cons rfl (VT.le_refl _) (SubG.cons rfl (VT.le_refl _) (SubG.cons rfl (VT.le_refl _) (SubG.cons rfl (VT.le_refl _) (SubG.cons rfl (VT.le_refl _) (SubG.cons rfl (VT.le_refl _) (SubG.cons rfl (VT.le_refl _) (SubG.cons rfl (VT.le_refl _) (SubG.nil))))))))) (SubM.refl _) ?_
  refine J_loopA (σ := List Nat × Nat × Nat) (Γk := [(0, _), (1, _), (4, _), (5, _), (13, _), (14, _)]) (SubG.cons rfl (VT.le_refl _) (SubG.cons rfl (VT.le_refl _) (SubG.cons rfl (VT.le_refl _) (SubG.cons rfl (VT.le_refl _) (SubG.cons rfl (VT.le_refl _) (SubG.cons rfl (VT.le_refl _) (SubG.nil))))))) (fun p => [(15, one (.int .i64 (p.2.1 : Nat))), (6, one (.int .u64 (p.2.2 : Nat)))]) (fun p M0 => (M0.set 0 (sliO (some bz) 84 .one (l.length + 1) (l.length + 1) (limF p.1)))) (fun p => ShiftR l s p) (fun p => l.length - p.2.1) ((List.replicate (l.length + 1) 0, 0, 0)) (ShiftR.start l s) (by repeat (first | exact SubG.refl _ | exact SubG.nil | refine SubG.cons rfl (VT.le_refl _) ?_ | (refine SubG.cons rfl (one_le ?_) ?_; (congr 1; first | omega | (simp; omega) | simp)))) (.keep (sliO_eq (fun q _ => by unfold limF; rw [getD_replicate0]; rfl)) (.nil)) (fun p hp => ?_)
  refine J_norm (Γ' := [(15, _), (6, _), (0, _), (1, _), (4, _), (5, _), (13, _), (14, _)]) (M' := [_]) rfl rfl ?_
  obtain ⟨z, i, c⟩ := p
  dsimp only at hp ⊢
  refine J_seq ?_
  refine J_reg ?_
  refine st (s_lt rfl rfl) rfl ?_
  refine Run.nil ?_
  refine pj_then ?_
  refine J_seq ?_
  refine J_if rfl (fun hcc => ?_) (fun hcc => ?_)
  · have hc : c < 2 ^ s := hp.c
    have hi : i < l.length := by omega
    have hb := ShiftR.bound (getD_lt hl i) hc hs
    have hst := hp.step hl hs hi
    have hx := getD_lt hl i
    have hzn : i < z.length := by have := hp.len; dsimp only at this; omega
    refine J_skip ?_
    refine pj_then ?_
    refine J_seq ?_
    refine J_block ?_
    refine J_seq ?_
    refine J_reg ?_
    refine st (s_move rfl) rfl ?_
    refine st (s_indexIN rfl rfl (by omega)) rfl ?_
    refine st (s_load rfl) rfl ?_
    refine st (s_assign rfl) rfl ?_
    refine st (s_assign rfl) rfl ?_
    refine Run.nil ?_
    refine pj_then ?_
    refine J_seq ?_
    refine J_reg ?_
    refine st (s_move rfl) rfl ?_
    refine st (s_move rfl) rfl ?_
    refine st (s_toU64 rfl (by omega)) rfl ?_
    refine st (s_move rfl) rfl ?_
    refine st (s_shlU rfl rfl (by omega) (by omega)) rfl ?_
    refine st (s_orS rfl rfl (by omega) (by omega)) rfl ?_
    refine st (s_assign rfl) rfl ?_
    refine Run.nil ?_
    refine pj_then ?_
    refine J_seq ?_
    refine J_reg ?_
    refine st (s_move rfl) rfl ?_
    refine st (s_move rfl) rfl ?_
    refine st (s_move rfl) rfl ?_
    refine st (s_toU32 rfl) rfl ?_
    refine st (s_indexON rfl rfl (by omega)) rfl ?_
    (refine a_storeE 0 rfl rfl rfl ?_ rfl ?_; omega)
    refine Run.nil ?_
    refine pj_then ?_
    refine J_reg ?_
    refine st (s_move rfl) rfl ?_
    refine st (s_shr32 rfl) rfl ?_
    refine st (s_assign rfl) rfl ?_
    refine Run.nil ?_
    refine pn_block ?_
    refine pj_then ?_
    refine J_reg ?_
    refine st (s_addN _ 1 rfl rfl (by omega)) rfl ?_
    refine st (s_move rfl) rfl ?_
    refine Run.nil ?_
    refine pj_roundM ((z.set i ((c + l.getD i 0 * 2 ^ s) % 4294967296), i + 1, (c + l.getD i 0 * 2 ^ s) / 4294967296)) (hst) (by (simp only []; omega)) (by repeat (first | exact SubG.refl _ | exact SubG.nil | refine SubG.cons rfl (VT.le_refl _) ?_ | (refine SubG.cons rfl (one_le ?_) ?_; (congr 1; first | omega | (simp; omega) | simp)))) (.keep (lim_setF hzn rfl) (.nil))
  · have e : i = l.length := by have := hp.le; dsimp only at this; omega
    subst e
    obtain ⟨f1, f2, f3, f4, f5⟩ := hp.finish hs
    have hc : c < 2 ^ s := hp.c
    refine J_exit ?_
    refine px_then ?_
    refine px_then ?_
    refine px_block ?_
    refine pj_then ?_
    refine J_seq ?_
    refine J_reg ?_
    refine st (s_move rfl) rfl ?_
    refine st (s_move rfl) rfl ?_
    refine st (s_len rfl) rfl ?_
    refine st (s_move rfl) rfl ?_
    refine st (s_toU32 rfl) rfl ?_
    refine st (s_indexON rfl rfl (by omega)) rfl ?_
    (refine a_storeE 0 rfl rfl rfl ?_ rfl ?_; omega)
    refine Run.nil ?_
    refine pj_then ?_
    refine J_seq ?_
    refine J_reg ?_
    refine st (s_move rfl) rfl ?_
    refine st (s_assign rfl) rfl ?_
    refine Run.nil ?_
    refine pj_then ?_
    refine J_ret ?_
    refine retM1 (⟨(bz, z.set l.length c), f1, f2, f3⟩ : ShiftS l s) Try.results103 (.tmp rfl (VT.le_refl _)) (.keep (lim_setF f5 (Nat.mod_eq_of_lt f4)) .nil)
end Tor
end

section
set_option linter.unusedVariables false
set_option linter.unusedSimpArgs false
namespace Tor
def win (W : List Nat) (j m : Nat) : List Nat := (W.drop j).take m
theorem win_len {W : List Nat} {j m : Nat} (h : j + m ≤ W.length) : (win W j m).length = m := by unfold win; simp; omega
theorem win_getD {W : List Nat} {j m i : Nat} (h : i < m) : (win W j m).getD i 0 = W.getD (j + i) 0 := by
  unfold win; simp [List.getD, List.getElem?_take, h]
theorem win_set {W : List Nat} {j m i x : Nat} (h : i < m) : win (W.set (j + i) x) j m = (win W j m).set i x := by
  unfold win; rw [List.drop_set, if_neg (by omega), Nat.add_sub_cancel_left, List.take_set]
theorem Limbs.win {W : List Nat} (h : Limbs W) (j m : Nat) : Limbs (win W j m) := fun d hd => h d (List.mem_of_mem_drop (List.mem_of_mem_take hd))
theorem lv_top2 {l : List Nat} {k : Nat} (h : l.length = k + 2) : lv l = lv (l.take k) + 4294967296 ^ k * (l.getD k 0 + 4294967296 * l.getD (k + 1) 0) := by
  have e : l = l.take (k + 2) := by rw [List.take_of_length_le (by omega)]
  conv => lhs; rw [e]
  rw [lv_take_succ (by omega), lv_take_succ (by omega), Nat.pow_succ, Nat.mul_add, Nat.mul_assoc]; omega
theorem lv_top3 {l : List Nat} {k : Nat} (h : l.length = k + 3) : lv l = lv (l.take k) + 4294967296 ^ k * (l.getD k 0 + 4294967296 * (l.getD (k + 1) 0 + 4294967296 * l.getD (k + 2) 0)) := by
  have e : l = l.take (k + 3) := by rw [List.take_of_length_le (by omega)]
  conv => lhs; rw [e]
  rw [lv_take_succ (by omega), lv_take_succ (by omega), lv_take_succ (by omega)]
  simp only [Nat.pow_succ, Nat.mul_add, Nat.mul_assoc]; omega
/-- What the guess of a digit starts from. -/
structure Gss (U V B P h v2 top u2 : Nat) : Prop where
  P0 : 0 < P
  iv1 : (h * B + v2) * P ≤ V
  iv2 : V < (h * B + v2 + 1) * P
  iu1 : (top * B + u2) * P ≤ U
  iu2 : U < (top * B + u2 + 1) * P
  l2 : v2 < B
  m2 : u2 < B
  h0 : 0 < h
  lt : U < V * B
theorem Gss.V0 {U V B P h v2 top u2 : Nat} (g : Gss U V B P h v2 top u2) : 0 < V := by
  rcases Nat.eq_zero_or_pos V with h | h
  · have := g.lt; rw [h] at this; simp at this
  · exact h
theorem Gss.top {U V B P h v2 top u2 : Nat} (g : Gss U V B P h v2 top u2) : top < (h + 1) * B := by
  have h1 : top * (B * P) < (h + 1) * B * (B * P) := by
    calc top * (B * P) = top * B * P := (Nat.mul_assoc _ _ _).symm
      _ ≤ (top * B + u2) * P := Nat.mul_le_mul_right _ (Nat.le_add_right _ _)
      _ ≤ U := g.iu1
      _ < V * B := g.lt
      _ ≤ (h * B + v2 + 1) * P * B := Nat.mul_le_mul_right _ (Nat.le_of_lt g.iv2)
      _ ≤ ((h + 1) * B) * P * B := Nat.mul_le_mul_right _ (Nat.mul_le_mul_right _ (by rw [Nat.add_mul, Nat.one_mul]; have := g.l2; omega))
      _ = (h + 1) * B * (B * P) := by rw [Nat.mul_assoc, Nat.mul_comm P B]
  exact Nat.lt_of_mul_lt_mul_right h1
theorem Gss.q_lt {U V B P h v2 top u2 : Nat} (g : Gss U V B P h v2 top u2) : U / V < B := Nat.div_lt_of_lt_mul g.lt
theorem Gss.start {U V B P h v2 top u2 : Nat} (g : Gss U V B P h v2 top u2) : U / V ≤ top / h := by
  rw [Nat.le_div_iff_mul_le g.h0]
  have h1 : (U / V * h) * (B * P) < (top + 1) * (B * P) := by
    calc (U / V * h) * (B * P) = U / V * (h * B * P) := by rw [Nat.mul_assoc, Nat.mul_assoc]
      _ ≤ U / V * ((h * B + v2) * P) := Nat.mul_le_mul_left _ (Nat.mul_le_mul_right _ (Nat.le_add_right _ _))
      _ ≤ U / V * V := Nat.mul_le_mul_left _ g.iv1
      _ ≤ U := Nat.div_mul_le_self _ _
      _ < (top * B + u2 + 1) * P := g.iu2
      _ ≤ ((top + 1) * B) * P := Nat.mul_le_mul_right _ (by rw [Nat.add_mul, Nat.one_mul]; have := g.m2; omega)
      _ = (top + 1) * (B * P) := Nat.mul_assoc _ _ _
  exact Nat.lt_succ_iff.1 (Nat.lt_of_mul_lt_mul_right h1)
theorem Gss.low {U V B P h v2 top u2 : Nat} (g : Gss U V B P h v2 top u2) {q r : Nat} (e : q * h + r = top) (hc : r * B + u2 < q * v2) : U / V < q := by
  have h1 : (U / V * (h * B + v2)) * P < (top * B + u2 + 1) * P := by
    calc (U / V * (h * B + v2)) * P = U / V * ((h * B + v2) * P) := Nat.mul_assoc _ _ _
      _ ≤ U / V * V := Nat.mul_le_mul_left _ g.iv1
      _ ≤ U := Nat.div_mul_le_self _ _
      _ < (top * B + u2 + 1) * P := g.iu2
  have h2 := Nat.lt_of_mul_lt_mul_right h1
  have h3 : top * B + u2 < q * (h * B + v2) := by
    rw [← e, Nat.add_mul, Nat.mul_add, Nat.mul_assoc]; omega
  exact Nat.lt_of_mul_lt_mul_right (Nat.lt_of_lt_of_le h2 h3)
theorem Gss.done {U V B P h v2 top u2 : Nat} (g : Gss U V B P h v2 top u2) {q r : Nat} (e : q * h + r = top) (hq : q < B) (hc : q * v2 ≤ r * B + u2 ∨ B ≤ r) : q ≤ U / V + 1 := by
  rcases Nat.eq_zero_or_pos q with h0 | h0
  · rw [h0]; exact Nat.zero_le _
  obtain ⟨p, rfl⟩ : ∃ p, q = p + 1 := ⟨q - 1, by omega⟩
  have hh : (p + 1) * v2 ≤ r * B + u2 := by
    rcases hc with hc | hc
    · exact hc
    · have h1 : (p + 1) * v2 ≤ B * B := Nat.mul_le_mul (Nat.le_of_lt hq) (Nat.le_of_lt g.l2)
      have h2 : B * B ≤ r * B := Nat.mul_le_mul_right _ hc
      omega
  have h3 : (p + 1) * (h * B + v2) ≤ top * B + u2 := by
    rw [← e, Nat.add_mul _ r, Nat.mul_add, Nat.mul_assoc]; omega
  have h4 : p * (h * B + v2 + 1) ≤ top * B + u2 := by
    refine Nat.le_trans ?_ h3
    rw [Nat.add_mul p 1, Nat.mul_add p (h * B + v2) 1, Nat.one_mul, Nat.mul_one]
    have : B ≤ h * B := Nat.le_mul_of_pos_left _ g.h0
    omega
  have h5 : p * V ≤ U := by
    calc p * V ≤ p * ((h * B + v2 + 1) * P) := Nat.mul_le_mul_left _ (Nat.le_of_lt g.iv2)
      _ = p * (h * B + v2 + 1) * P := (Nat.mul_assoc _ _ _).symm
      _ ≤ (top * B + u2) * P := Nat.mul_le_mul_right _ h4
      _ ≤ U := g.iu1
  have := (Nat.le_div_iff_mul_le g.V0).2 h5
  omega
theorem gss_of {u v : List Nat} {k : Nat} (hu : Limbs u) (hv : Limbs v) (lu : u.length = k + 3) (lw : v.length = k + 2) (hh : 0 < v.getD (k + 1) 0) (hlt : lv u < lv v * 4294967296) :
    Gss (lv u) (lv v) 4294967296 (4294967296 ^ k) (v.getD (k + 1) 0) (v.getD k 0) (u.getD (k + 2) 0 * 4294967296 + u.getD (k + 1) 0) (u.getD k 0) := by
  have e1 := lv_top3 lu
  have e2 := lv_top2 lw
  have h1 := lv_lt (hu.take k)
  have h2 := lv_lt (hv.take k)
  rw [List.length_take_of_le (by omega)] at h1 h2
  have g1 := getD_lt hu k
  have g2 := getD_lt hv k
  refine ⟨Nat.pow_pos (by decide), ?_, ?_, ?_, ?_, g2, g1, hh, hlt⟩
  · rw [e2, Nat.mul_comm _ (4294967296 ^ k), show v.getD (k + 1) 0 * 4294967296 + v.getD k 0 = v.getD k 0 + 4294967296 * v.getD (k + 1) 0 by omega]; omega
  · rw [e2, Nat.mul_comm _ (4294967296 ^ k), show v.getD (k + 1) 0 * 4294967296 + v.getD k 0 + 1 = v.getD k 0 + 4294967296 * v.getD (k + 1) 0 + 1 by omega, Nat.mul_add (4294967296 ^ k) _ 1]; omega
  · rw [e1, Nat.mul_comm _ (4294967296 ^ k), show (u.getD (k + 2) 0 * 4294967296 + u.getD (k + 1) 0) * 4294967296 + u.getD k 0 = u.getD k 0 + 4294967296 * (u.getD (k + 1) 0 + 4294967296 * u.getD (k + 2) 0) by omega]; omega
  · rw [e1, Nat.mul_comm _ (4294967296 ^ k), show (u.getD (k + 2) 0 * 4294967296 + u.getD (k + 1) 0) * 4294967296 + u.getD k 0 + 1 = u.getD k 0 + 4294967296 * (u.getD (k + 1) 0 + 4294967296 * u.getD (k + 2) 0) + 1 by omega, Nat.mul_add (4294967296 ^ k) _ 1]; omega
/-- The relation of the guess's loop. -/
structure GuessR (h top Q : Nat) (p : Nat × Nat) : Prop where
  e : p.1 * h + p.2 = top
  r : p.2 < 4294967296
  q : Q ≤ p.1
  m : p.1 ≤ 4294967297
/-- The relation of the loop that subtracts. -/
structure SubR (u v : List Nat) (q : Nat) (z : List Nat) (i b c : Nat) : Prop where
  le : i ≤ v.length
  len : z.length = u.length
  lim : Limbs z
  hb : b ≤ 1
  hc : c < 4294967296
  val : lv z + q * lv (v.take i) = lv u + 4294967296 ^ i * (b + c)
theorem borrow2 {x y b d : Nat} (hx : x < 4294967296) (hy : y < 4294967296) (hb : b ≤ 1) (hd : d = ((x + 18446744073709551616 - y) % 18446744073709551616 + 18446744073709551616 - b) % 18446744073709551616) :
    d % 4294967296 + y + b = x + 4294967296 * (d / 9223372036854775808) ∧ d / 9223372036854775808 ≤ 1 := by
  rcases Nat.lt_or_ge x (y + b) with h | h
  · have h1 : d = x + 18446744073709551616 - (y + b) := by omega
    omega
  · have h1 : d = x - (y + b) := by omega
    omega
theorem SubR.start {u v : List Nat} {q : Nat} (hu : Limbs u) : SubR u v q u 0 0 0 := ⟨Nat.zero_le _, rfl, hu, by decide, by decide, by simp [lv]⟩
theorem sub_lim {q y c : Nat} (hq : q < 4294967296) (hy : y < 4294967296) (hc : c < 4294967296) : q * y < 18446744073709551616 ∧ c + q * y < 18446744073709551616 ∧ (c + q * y) / 4294967296 < 4294967296 := by
  have h1 : q * y ≤ 4294967295 * 4294967295 := Nat.mul_le_mul (by omega) (by omega)
  omega
theorem SubR.step {u v z : List Nat} {q i b c d : Nat} (h : SubR u v q z i b c) (hv : Limbs v) (hq : q < 4294967296) (hi : i < v.length) (hl : v.length ≤ u.length)
    (hd : d = ((z.getD i 0 + 18446744073709551616 - (c + q * v.getD i 0) % 4294967296) % 18446744073709551616 + 18446744073709551616 - b) % 18446744073709551616) :
    SubR u v q (z.set i (d % 4294967296)) (i + 1) (d / 9223372036854775808) ((c + q * v.getD i 0) / 4294967296) := by
  have hlim := sub_lim hq (getD_lt hv i) h.hc
  obtain ⟨h1, h2⟩ := borrow2 (getD_lt h.lim i) (Nat.mod_lt _ (by decide)) h.hb hd
  have hz : i < z.length := by rw [h.len]; omega
  have hs := lv_set (l := z) (v := d % 4294967296) hz
  have hvv := h.val
  refine ⟨hi, by rw [List.length_set]; exact h.len, h.lim.set (Nat.mod_lt _ (by decide)), h2, hlim.2.2, ?_⟩
  rw [lv_take_succ hi, Nat.pow_succ, Nat.mul_add q]
  have e := Nat.div_add_mod (c + q * v.getD i 0) 4294967296
  have e5 : q * (4294967296 ^ i * v.getD i 0) = 4294967296 ^ i * (q * v.getD i 0) := Nat.mul_left_comm _ _ _
  rw [e5]
  clear hd
  generalize z.getD i 0 = x at *
  generalize q * v.getD i 0 = y at *
  generalize 4294967296 ^ i = B at *
  generalize (c + y) / 4294967296 = t1 at *
  generalize (c + y) % 4294967296 = t2 at *
  generalize d % 4294967296 = r at *
  generalize d / 9223372036854775808 = q' at *
  have e2 : B * (r + t2 + b) = B * (x + 4294967296 * q') := by rw [h1]
  have e3 : B * (4294967296 * t1 + t2) = B * (c + y) := by rw [e]
  simp only [Nat.mul_add, Nat.mul_assoc] at e2 e3 hvv ⊢
  omega
/-- The relation of the loop that adds back. -/
structure BackR (u v : List Nat) (z : List Nat) (i c : Nat) : Prop where
  le : i ≤ v.length
  len : z.length = u.length
  lim : Limbs z
  hc : c ≤ 1
  val : lv z + 4294967296 ^ i * c = lv u + lv (v.take i)
theorem BackR.start {u v : List Nat} (hu : Limbs u) : BackR u v u 0 0 := ⟨Nat.zero_le _, rfl, hu, by decide, by simp [lv]⟩
theorem BackR.step {u v z : List Nat} {i c : Nat} (h : BackR u v z i c) (hv : Limbs v) (hi : i < v.length) (hl : v.length ≤ u.length) :
    BackR u v (z.set i ((c + (z.getD i 0 + v.getD i 0)) % 4294967296)) (i + 1) ((c + (z.getD i 0 + v.getD i 0)) / 4294967296) := by
  have hz : i < z.length := by rw [h.len]; omega
  have hs := lv_set (l := z) (v := (c + (z.getD i 0 + v.getD i 0)) % 4294967296) hz
  have hvv := h.val
  have g1 := getD_lt h.lim i
  have g2 := getD_lt hv i
  have hc := h.hc
  refine ⟨hi, by rw [List.length_set]; exact h.len, h.lim.set (Nat.mod_lt _ (by decide)), by omega, ?_⟩
  rw [lv_take_succ hi, Nat.pow_succ]
  generalize z.getD i 0 = x at *
  generalize v.getD i 0 = y at *
  generalize 4294967296 ^ i = B at *
  have e : 4294967296 * ((c + (x + y)) / 4294967296) + (c + (x + y)) % 4294967296 = c + (x + y) := by omega
  generalize (c + (x + y)) / 4294967296 = t1 at *
  generalize (c + (x + y)) % 4294967296 = t2 at *
  have e3 : B * (4294967296 * t1 + t2) = B * (c + (x + y)) := by rw [e]
  simp only [Nat.mul_add, Nat.mul_assoc] at e3 hvv ⊢
  omega
theorem SubR.good {u v z : List Nat} {q b c d : Nat} (h : SubR u v q z v.length b c) (hl : u.length = v.length + 1) (hV : 0 < lv v)
    (hQ : lv u / lv v ≤ q) (hd : d = ((z.getD v.length 0 + 18446744073709551616 - c) % 18446744073709551616 + 18446744073709551616 - b) % 18446744073709551616) (h0 : d / 9223372036854775808 = 0) :
    q = lv u / lv v ∧ Limbs (z.set v.length (d % 4294967296)) ∧ lv (z.set v.length (d % 4294967296)) = lv u % lv v := by
  obtain ⟨h1, h2⟩ := borrow2 (getD_lt h.lim v.length) h.hc h.hb hd
  have hz : v.length < z.length := by rw [h.len]; omega
  have hs := lv_set (l := z) (v := d % 4294967296) hz
  have hvv := h.val
  rw [List.take_length] at hvv
  have e : lv (z.set v.length (d % 4294967296)) + q * lv v = lv u := by
    rw [h0] at h1
    generalize z.getD v.length 0 = x at *
    clear hd
    generalize d % 4294967296 = r at *
    generalize 4294967296 ^ v.length = B at *
    have e2 : B * (r + c + b) = B * (x + 4294967296 * 0) := by rw [h1]
    simp only [Nat.mul_add] at e2 hvv
    omega
  have e4 : lv (z.set v.length (d % 4294967296)) = lv u - q * lv v := by omega
  have hle : q ≤ lv u / lv v := (Nat.le_div_iff_mul_le hV).2 (by omega)
  have eq : q = lv u / lv v := by omega
  refine ⟨eq, h.lim.set (Nat.mod_lt _ (by decide)), ?_⟩
  have := Nat.div_add_mod (lv u) (lv v)
  rw [e4, eq, Nat.mul_comm]; omega
theorem SubR.bad {u v z : List Nat} {q b c d : Nat} (h : SubR u v q z v.length b c) (hl : u.length = v.length + 1) (hV : 0 < lv v)
    (hQ : lv u / lv v ≤ q) (hq : q ≤ lv u / lv v + 1) (hd : d = ((z.getD v.length 0 + 18446744073709551616 - c) % 18446744073709551616 + 18446744073709551616 - b) % 18446744073709551616) (h0 : d / 9223372036854775808 ≠ 0) :
    q = lv u / lv v + 1 ∧ Limbs (z.set v.length (d % 4294967296)) ∧ lv (z.set v.length (d % 4294967296)) + lv v = lv u % lv v + 4294967296 ^ (v.length + 1) := by
  obtain ⟨h1, h2⟩ := borrow2 (getD_lt h.lim v.length) h.hc h.hb hd
  have hz : v.length < z.length := by rw [h.len]; omega
  have hs := lv_set (l := z) (v := d % 4294967296) hz
  have hvv := h.val
  rw [List.take_length] at hvv
  have hL : Limbs (z.set v.length (d % 4294967296)) := h.lim.set (Nat.mod_lt _ (by decide))
  have hlt := lv_lt hL
  rw [List.length_set, h.len, hl] at hlt
  have h3 : d / 9223372036854775808 = 1 := by omega
  have e : lv (z.set v.length (d % 4294967296)) + q * lv v = lv u + 4294967296 ^ (v.length + 1) := by
    rw [h3] at h1
    generalize z.getD v.length 0 = x at *
    clear hd hL hlt h0 h2 h3
    generalize lv (z.set v.length (d % 4294967296)) = y at *
    generalize d % 4294967296 = r at *
    rw [Nat.pow_succ]
    generalize 4294967296 ^ v.length = B at *
    have e2 : B * (r + c + b) = B * (x + 4294967296 * 1) := by rw [h1]
    simp only [Nat.mul_add] at e2 hvv
    omega
  have hm := Nat.div_add_mod (lv u) (lv v)
  have hne : q ≠ lv u / lv v := fun hx => by
    rw [hx, Nat.mul_comm] at e; omega
  have eq : q = lv u / lv v + 1 := by omega
  refine ⟨eq, hL, ?_⟩
  rw [eq, Nat.add_mul, Nat.one_mul, Nat.mul_comm] at e
  omega
theorem BackR.good {u v z : List Nat} {c R x : Nat} (h : BackR u v z v.length c) (hl : u.length = v.length + 1) (hV : R < lv v) (hv : Limbs v)
    (hu : lv u + lv v = R + 4294967296 ^ (v.length + 1)) (hx : x = (z.getD v.length 0 + c) % 4294967296) : Limbs (z.set v.length x) ∧ lv (z.set v.length x) = R := by
  have hz : v.length < z.length := by rw [h.len]; omega
  have hs := lv_set (l := z) (v := x) hz
  have hvv := h.val
  rw [List.take_length] at hvv
  have hL : Limbs (z.set v.length x) := h.lim.set (by rw [hx]; exact Nat.mod_lt _ (by decide))
  have hlt := lv_lt hL
  rw [List.length_set, h.len, hl] at hlt
  have hzl := getD_lt h.lim v.length
  have hc := h.hc
  have hvl := lv_lt hv
  refine ⟨hL, ?_⟩
  rcases Nat.lt_or_ge (z.getD v.length 0 + c) 4294967296 with h5 | h5
  · have h6 : x = z.getD v.length 0 + c := by omega
    have e : lv (z.set v.length x) = lv u + lv v := by
      rw [h6] at hs
      rw [h6]
      rw [Nat.mul_add] at hs
      omega
    omega
  · have h6 : x + 4294967296 = z.getD v.length 0 + c := by omega
    have e : lv (z.set v.length x) + 4294967296 ^ (v.length + 1) = lv u + lv v := by
      generalize lv (z.set v.length x) = y at *
      clear hlt
      rw [hu, Nat.pow_succ]
      generalize z.getD v.length 0 = t at *
      rw [hu, Nat.pow_succ] at hvv
      generalize 4294967296 ^ v.length = B at *
      have e2 : B * (x + 4294967296) = B * (t + c) := by rw [h6]
      simp only [Nat.mul_add] at e2
      omega
    omega
end Tor
end

section
set_option linter.unusedVariables false
set_option linter.unusedSimpArgs false
namespace Tor
open Go Go.RowKit Go.Proofs
def Outside (W0 W : List Nat) (j m : Nat) : Prop := W.length = W0.length ∧ W.take j = W0.take j ∧ W.drop (j + m) = W0.drop (j + m)
theorem Outside.refl (W : List Nat) (j m : Nat) : Outside W W j m := ⟨rfl, rfl, rfl⟩
theorem Outside.set {W0 W : List Nat} {j m i x : Nat} (h : Outside W0 W j m) (hi : i < m) : Outside W0 (W.set (j + i) x) j m :=
  ⟨by rw [List.length_set]; exact h.1, by rw [List.take_set_of_le (by omega)]; exact h.2.1, by rw [List.drop_set_of_lt (by omega)]; exact h.2.2⟩
theorem q_sub {q Q : Nat} (h : q = Q + 1) (hq : q < 4294967296) : (q + 18446744073709551616 - 1) % 18446744073709551616 % 4294967296 = Q := by omega
/-- The states of digit's loops. -/
structure DgS (W0 v : List Nat) (j k q : Nat) (s : List Nat × Nat × Nat × Nat) : Prop where
  out : Outside W0 s.1 j (k + 3)
  lim : Limbs s.1
  sub : SubR (win W0 j (k + 3)) v q (win s.1 j (k + 3)) s.2.1 s.2.2.1 s.2.2.2
structure DgB (W0 W1 v : List Nat) (j k : Nat) (s : List Nat × Nat × Nat) : Prop where
  out : Outside W0 s.1 j (k + 3)
  lim : Limbs s.1
  back : BackR (win W1 j (k + 3)) v (win s.1 j (k + 3)) s.2.1 s.2.2
abbrev DigS (W v : List Nat) (j k : Nat) : Type := {W' : List Nat // Outside W W' j (k + 3) ∧ Limbs W' ∧ lv (win W' j (k + 3)) = lv (win W j (k + 3)) % lv v}
theorem GuessR.aux {top h : Nat} (ht : top < (h + 1) * 4294967296) (hh : 2147483648 ≤ h) : top < h * 4294967298 := by
  have e1 : h * 4294967298 = h * 4294967296 + h * 2 := by rw [← Nat.mul_add]
  have e2 : (h + 1) * 4294967296 = h * 4294967296 + 4294967296 := by rw [Nat.add_mul]
  have e3 : 4294967296 ≤ h * 2 := Nat.mul_le_mul_right 2 hh
  rw [e1]; rw [e2] at ht
  exact Nat.lt_of_lt_of_le ht (Nat.add_le_add_left e3 _)
theorem GuessR.start {U V P h v2 top u2 : Nat} (g : Gss U V 4294967296 P h v2 top u2) (hh : 2147483648 ≤ h) (hl : h < 4294967296) : GuessR h top (U / V) (top / h, top % h) := by
  have hm := Nat.mod_lt top (show 0 < h by omega)
  refine ⟨?_, ?_, g.start, ?_⟩
  · show top / h * h + top % h = top
    rw [Nat.mul_comm]; exact Nat.div_add_mod top h
  · show top % h < _; omega
  · have ht := g.top
    have h1 : top < h * 4294967298 := GuessR.aux ht hh
    exact Nat.lt_succ_iff.1 (Nat.div_lt_of_lt_mul h1)
theorem GuessR.next {h top Q q r : Nat} (s : GuessR h top Q (q, r)) (hQ : Q < q) (hr : r + h < 4294967296) : GuessR h top Q (q - 1, r + h) := by
  obtain ⟨p, rfl⟩ : ∃ p, q = p + 1 := ⟨q - 1, by omega⟩
  have e : (p + 1) * h + r = top := s.e
  have m : p + 1 ≤ 4294967297 := s.m
  refine ⟨?_, hr, ?_, ?_⟩
  · show (p + 1 - 1) * h + (r + h) = top
    rw [Nat.add_mul, Nat.one_mul] at e
    rw [Nat.add_sub_cancel]; omega
  · show Q ≤ p + 1 - 1; omega
  · show p + 1 - 1 ≤ _; omega
theorem GuessR.last {U V P h v2 top u2 q r : Nat} (g : Gss U V 4294967296 P h v2 top u2) (s : GuessR h top (U / V) (q, r)) (hQ : U / V < q) (hr : 4294967296 ≤ r + h) : q - 1 < 4294967296 ∧ U / V ≤ q - 1 ∧ q - 1 ≤ U / V + 1 := by
  obtain ⟨p, rfl⟩ : ∃ p, q = p + 1 := ⟨q - 1, by have := Nat.lt_of_le_of_lt (Nat.zero_le _) hQ; omega⟩
  have e : (p + 1) * h + r = top := s.e
  have ht := g.top
  have e2 : p * h + (r + h) = top := by rw [Nat.add_mul, Nat.one_mul] at e; omega
  have h1 : p < 4294967296 := by
    rcases Nat.lt_or_ge p 4294967296 with h1 | h1
    · exact h1
    · have := Nat.mul_le_mul_right h h1
      omega
  rw [Nat.add_sub_cancel]
  exact ⟨h1, Nat.lt_succ_iff.1 hQ, g.done e2 h1 (.inr hr)⟩
attribute [local irreducible] Tor.J Tor.PJ Tor.StepO Tor.one Tor.slT Tor.ptrT Tor.aggT Tor.tupT Tor.exT Tor.andT Tor.gT Tor.eP Tor.boxO Tor.sliO Tor.slV Tor.VT.le Tor.Ret Tor.anyT
set_option maxHeartbeats 4000000 in
set_option maxRecDepth 20000 in
theorem digit_ok (b N j cap k : Nat) (W v : List Nat) (hW : Limbs W) (hv : Limbs v) (hN : W.length = N) (hj : j + (k + 3) ≤ N) (hk : v.length = k + 2) (hb31 : v.length ≤ 1099511627776) (hh : 2147483648 ≤ v.getD (k + 1) 0) (hlt : lv (win W j (k + 3)) < lv v * 4294967296) :
    OkI Try.prog 104 [one (winV b j 1 (k + 3) cap), limT v] [sliO (some b) 84 .one N N (limF W)] (fun _ : DigS W v j k => one (.int .u32 ((lv (win W j (k + 3)) / lv v : Nat) : Int))) (fun s => [sliO (some b) 84 .one N N (limF s.1)]) := by
  unfold limT
  rw [hk]
  refine OkI.enter Try.func104 rfl Try.ntmps104 rfl (fun w O => ?_)
  have lw := win_len (W := W) (j := j) (m := k + 3) (by omega)
  have g := gss_of (hW.win j (k + 3)) hv lw hk (by omega) hlt
  rw [win_getD (by omega), win_getD (by omega), win_getD (by omega)] at g
  have x0 := getD_lt hW (j + k)
  have x1 := getD_lt hW (j + (k + 1))
  have x2 := getD_lt hW (j + (k + 2))
  have y1 := getD_lt hv (k + 1)
  have y0 := getD_lt hv k
  rw [hk] at hb31
  have y1' : v.getD (k + 2 - 1) 0 < 4294967296 := y1
  have y0' : v.getD (k + 2 - 2) 0 < 4294967296 := y0
  have yh' : 2147483648 ≤ v.getD (k + 2 - 1) 0 := hh
  have x1' : W.getD (j + (k + 2 - 1)) 0 < 4294967296 := x1
  have x0' : W.getD (j + (k + 2 - 2)) 0 < 4294967296 := x0
  refine J_seq ?_
  refine J_reg ?_
  refine st (s_assign rfl) rfl ?_
  refine Run.nil ?_
  refine pj_then ?_
  refine J_seq ?_
  refine J_reg ?_
  refine st (s_move rfl) rfl ?_
  refine st (s_len rfl) rfl ?_
  refine st (s_assign rfl) rfl ?_
  refine Run.nil ?_
  refine pj_then ?_
  refine J_seq ?_
  refine J_reg ?_
  refine st (s_move rfl) rfl ?_
  refine st (s_move rfl) rfl ?_
  refine st (s_subN _ 1 rfl rfl (by omega) (by omega)) rfl ?_
  refine st (s_indexIN rfl rfl (by omega)) rfl ?_
  refine st (s_load rfl) rfl ?_
  refine st (s_toU64 rfl (by omega)) rfl ?_
  refine st (s_assign rfl) rfl ?_
  refine Run.nil ?_
  refine pj_then ?_
  refine J_seq ?_
  refine J_regd 13 mixed (by kernel_rfl) (by decide) ?_
  refine st (s_move rfl) rfl ?_
  refine st (s_move rfl) rfl ?_
  refine st (s_indexW rfl rfl (by omega)) rfl ?_
  refine st (s_loadE 0 rfl rfl (by omega)) rfl ?_
  refine st (s_toU64 rfl (by omega)) rfl ?_
  refine st (s_shlU (s := 32) rfl rfl (by omega) (by omega)) rfl ?_
  refine st (s_move rfl) rfl ?_
  refine st (s_move rfl) rfl ?_
  refine st (s_subN _ 1 rfl rfl (by omega) (by omega)) rfl ?_
  refine st (s_indexW rfl rfl (by omega)) rfl ?_
  refine st (s_loadE 0 rfl rfl (by omega)) rfl ?_
  refine st (s_toU64 rfl (by omega)) rfl ?_
  refine st (s_orHL rfl rfl (by omega) (by omega)) rfl ?_
  refine Run.nil ?_
  refine st (s_assign rfl) rfl ?_
  refine Run.nil ?_
  refine pj_then ?_
  refine J_seq ?_
  refine J_regd 7 mixed (by kernel_rfl) (by decide) ?_
  refine st (s_move rfl) rfl ?_
  refine st (s_move rfl) rfl ?_
  refine st (s_quoU rfl rfl (by omega) (by omega)) rfl ?_
  refine st (s_move rfl) rfl ?_
  refine st (s_move rfl) rfl ?_
  refine st (s_remN _ rfl rfl rfl (by omega)) rfl ?_
  refine st (s_assign rfl) rfl ?_
  refine Run.nil ?_
  refine st (s_assign rfl) rfl ?_
  refine Run.nil ?_
  refine pj_then ?_
  refine J_seq ?_
  refine J_block ?_
  refine J_sub (Γ' := [(0, _), (1, _), (4, _), (5, _), (6, _), (8, _), (9, _)]) (SubG.cons rfl (VT.le_refl _) (SubG.cons rfl (VT.le_refl _) (SubG.cons rfl (VT.le_refl _) (SubG.cons rfl (VT.le_refl _) (SubG.cons rfl (VT.le_refl _) (SubG.cons rfl (VT.le_refl _) (SubG.cons rfl (VT.le_refl _) (SubG.nil)))))))) (SubM.refl _) ?_
  refine J_joinB (σ := Nat) (Γk := [(0, _), (1, _), (4, _), (5, _)]) (SubG.cons rfl (VT.le_refl _) (SubG.cons rfl (VT.le_refl _) (SubG.cons rfl (VT.le_refl _) (SubG.cons rfl (VT.le_refl _) SubG.nil)))) (fun q => [(8, one (.int .u64 (q : Nat)))]) (fun _ M0 => M0) (fun q => q < 4294967296 ∧ lv (win W j (k + 3)) / lv v ≤ q ∧ q ≤ lv (win W j (k + 3)) / lv v + 1) ?_ (fun q hq => ?_)
  · refine J_sub (Γ' := [(0, _), (1, _), (4, _), (5, _), (6, _), (8, _), (9, _)]) (SubG.cons rfl (VT.le_refl _) (SubG.cons rfl (VT.le_refl _) (SubG.cons rfl (VT.le_refl _) (SubG.cons rfl (VT.le_refl _) (SubG.cons rfl (VT.le_refl _) (SubG.cons rfl (VT.le_refl _) (SubG.cons rfl (VT.le_refl _) (SubG.nil)))))))) (SubM.refl _) ?_
    refine J_loopA (σ := Nat × Nat) (Γk := [(0, _), (1, _), (4, _), (5, _), (6, _)]) (SubG.cons rfl (VT.le_refl _) (SubG.cons rfl (VT.le_refl _) (SubG.cons rfl (VT.le_refl _) (SubG.cons rfl (VT.le_refl _) (SubG.cons rfl (VT.le_refl _) (SubG.nil)))))) (fun p => [(8, one (.int .u64 (p.1 : Nat))), (9, one (.int .u64 (p.2 : Nat)))]) (fun p M0 => M0) (fun p => GuessR (v.getD (k + 1) 0) (W.getD (j + (k + 2)) 0 * 4294967296 + W.getD (j + (k + 1)) 0) (lv (win W j (k + 3)) / lv v) p) (fun p => p.1) (((W.getD (j + (k + 2)) 0 * 4294967296 + W.getD (j + (k + 1)) 0) / v.getD (k + 1) 0, (W.getD (j + (k + 2)) 0 * 4294967296 + W.getD (j + (k + 1)) 0) % v.getD (k + 1) 0)) (GuessR.start g hh y1) (by repeat (first | exact SubG.refl _ | exact SubG.nil | refine SubG.cons rfl (VT.le_refl _) ?_ | (refine SubG.cons rfl (one_le ?_) ?_; (congr 1; first | omega | (simp; omega) | simp)))) (.keep (Own.le_refl _) (.nil)) (fun p hp => ?_)
    refine J_norm (Γ' := [(8, _), (9, _), (0, _), (1, _), (4, _), (5, _), (6, _)]) (M' := [_]) rfl rfl ?_
    obtain ⟨q, r⟩ := p
    dsimp only at hp ⊢
    have hr : r < 4294967296 := hp.r
    have hqm : q ≤ 4294967297 := hp.m
    by_cases hA : 4294967295 < q
    · have hQ : lv (win W j (k + 3)) / lv v < q := Nat.lt_of_lt_of_le g.q_lt hA
      have hq1 : 1 ≤ q := Nat.lt_of_le_of_lt (Nat.zero_le _) hQ
      have hq2 : (q + 18446744073709551616 - 1) % 18446744073709551616 = q - 1 := by omega
      by_cases hC : 4294967296 ≤ r + v.getD (k + 2 - 1) 0
      · refine J_seq ?_
        refine J_seq ?_
        refine J_regd 22 mixed (by kernel_rfl) (by decide) ?_
        refine st (s_move rfl) rfl ?_
        refine st (sT (by omega) (s_gt rfl rfl)) rfl ?_
        refine st (s_move rfl) rfl ?_
        refine sg0 rfl rfl rfl rfl ?_
        refine sg0 rfl rfl rfl rfl ?_
        refine sg0 rfl rfl rfl rfl ?_
        refine sg0 rfl rfl rfl rfl ?_
        refine sg0 rfl rfl rfl rfl ?_
        refine sg0 rfl rfl rfl rfl ?_
        refine sg0 rfl rfl rfl rfl ?_
        refine sg0 rfl rfl rfl rfl ?_
        refine sg0 rfl rfl rfl rfl ?_
        refine sg0 rfl rfl rfl rfl ?_
        refine sg0 rfl rfl rfl rfl ?_
        refine sg0 rfl rfl rfl rfl ?_
        refine sg0 rfl rfl rfl rfl ?_
        refine sg0 rfl rfl rfl rfl ?_
        refine sg0 rfl rfl rfl rfl ?_
        refine sg0 rfl rfl rfl rfl ?_
        refine sg0 rfl rfl rfl rfl ?_
        refine sg0 rfl rfl rfl rfl ?_
        refine st (s_pickT rfl rfl) rfl ?_
        refine Run.nil ?_
        refine Run.nil ?_
        refine pj_then ?_
        refine J_cond1 rfl ?_
        refine J_skip ?_
        refine pj_then ?_
        refine J_block ?_
        refine J_seq ?_
        refine J_reg ?_
        refine st (s_move rfl) rfl ?_
        refine st (s_subU rfl rfl (by omega) (by decide)) rfl ?_
        refine st (s_assign rfl) rfl ?_
        refine Run.nil ?_
        refine pj_then ?_
        refine J_seq ?_
        refine J_reg ?_
        refine st (s_move rfl) rfl ?_
        refine st (s_move rfl) rfl ?_
        refine st (s_addU rfl rfl (by omega)) rfl ?_
        refine st (s_assign rfl) rfl ?_
        refine Run.nil ?_
        refine pj_then ?_
        refine J_seq ?_
        refine J_reg ?_
        refine st (s_move rfl) rfl ?_
        refine st (sT (by omega) (s_gt rfl rfl)) rfl ?_
        refine Run.nil ?_
        refine pj_then ?_
        refine J_cond1 rfl ?_
        refine J_exit ?_
        refine px_block_ne rfl ?_
        refine px_then ?_
        refine px_block ?_
        rw [hq2]
        refine pj_cut (q - 1) (hp.last g hQ hC) (by repeat (first | exact SubG.refl _ | exact SubG.nil | refine SubG.cons rfl (VT.le_refl _) ?_ | (refine SubG.cons rfl (one_le ?_) ?_; (congr 1; first | omega | (simp; omega) | simp)))) (.keep (Own.le_refl _) (.nil))
      · refine J_seq ?_
        refine J_seq ?_
        refine J_regd 22 mixed (by kernel_rfl) (by decide) ?_
        refine st (s_move rfl) rfl ?_
        refine st (sT (by omega) (s_gt rfl rfl)) rfl ?_
        refine st (s_move rfl) rfl ?_
        refine sg0 rfl rfl rfl rfl ?_
        refine sg0 rfl rfl rfl rfl ?_
        refine sg0 rfl rfl rfl rfl ?_
        refine sg0 rfl rfl rfl rfl ?_
        refine sg0 rfl rfl rfl rfl ?_
        refine sg0 rfl rfl rfl rfl ?_
        refine sg0 rfl rfl rfl rfl ?_
        refine sg0 rfl rfl rfl rfl ?_
        refine sg0 rfl rfl rfl rfl ?_
        refine sg0 rfl rfl rfl rfl ?_
        refine sg0 rfl rfl rfl rfl ?_
        refine sg0 rfl rfl rfl rfl ?_
        refine sg0 rfl rfl rfl rfl ?_
        refine sg0 rfl rfl rfl rfl ?_
        refine sg0 rfl rfl rfl rfl ?_
        refine sg0 rfl rfl rfl rfl ?_
        refine sg0 rfl rfl rfl rfl ?_
        refine sg0 rfl rfl rfl rfl ?_
        refine st (s_pickT rfl rfl) rfl ?_
        refine Run.nil ?_
        refine Run.nil ?_
        refine pj_then ?_
        refine J_cond1 rfl ?_
        refine J_skip ?_
        refine pj_then ?_
        refine J_block ?_
        refine J_seq ?_
        refine J_reg ?_
        refine st (s_move rfl) rfl ?_
        refine st (s_subU rfl rfl (by omega) (by decide)) rfl ?_
        refine st (s_assign rfl) rfl ?_
        refine Run.nil ?_
        refine pj_then ?_
        refine J_seq ?_
        refine J_reg ?_
        refine st (s_move rfl) rfl ?_
        refine st (s_move rfl) rfl ?_
        refine st (s_addU rfl rfl (by omega)) rfl ?_
        refine st (s_assign rfl) rfl ?_
        refine Run.nil ?_
        refine pj_then ?_
        refine J_seq ?_
        refine J_reg ?_
        refine st (s_move rfl) rfl ?_
        refine st (sF (by omega) (s_gt rfl rfl)) rfl ?_
        refine Run.nil ?_
        refine pj_then ?_
        refine J_cond0 rfl ?_
        refine J_skip ?_
        refine pn_block ?_
        rw [hq2]
        refine pj_roundM ((q - 1, r + v.getD (k + 1) 0)) (hp.next hQ (Nat.lt_of_not_le hC)) (by omega) (by repeat (first | exact SubG.refl _ | exact SubG.nil | refine SubG.cons rfl (VT.le_refl _) ?_ | (refine SubG.cons rfl (one_le ?_) ?_; (congr 1; first | omega | (simp; omega) | simp)))) (.keep (Own.le_refl _) (.nil))
    · have hqv := sub_lim (q := q) (c := 0) (by omega) y0 (by decide)
      have hqv1 : q * v.getD (k + 2 - 2) 0 < 18446744073709551616 := hqv.1
      by_cases hB : r * 4294967296 + W.getD (j + (k + 2 - 2)) 0 < q * v.getD (k + 2 - 2) 0
      · have hQ : lv (win W j (k + 3)) / lv v < q := g.low hp.e hB
        have hq1 : 1 ≤ q := Nat.lt_of_le_of_lt (Nat.zero_le _) hQ
        have hq2 : (q + 18446744073709551616 - 1) % 18446744073709551616 = q - 1 := by omega
        by_cases hC : 4294967296 ≤ r + v.getD (k + 2 - 1) 0
        · refine J_seq ?_
          refine J_seq ?_
          refine J_regd 22 mixed (by kernel_rfl) (by decide) ?_
          refine st (s_move rfl) rfl ?_
          refine st (sF (by omega) (s_gt rfl rfl)) rfl ?_
          refine st (s_move rfl) rfl ?_
          refine sg1 rfl rfl (s_move rfl) rfl ?_
          refine sg1 rfl rfl (s_move rfl) rfl ?_
          refine sg1 rfl rfl (s_move rfl) rfl ?_
          refine sg1 rfl rfl (s_subN _ 2 rfl rfl (by omega) (by omega)) rfl ?_
          refine sg1 rfl rfl (s_indexIN rfl rfl (by omega)) rfl ?_
          refine sg1 rfl rfl (s_load rfl) rfl ?_
          refine sg1 rfl rfl (s_toU64 rfl (by omega)) rfl ?_
          refine sg1 rfl rfl (s_mulU rfl rfl (by omega)) rfl ?_
          refine sg1 rfl rfl (s_move rfl) rfl ?_
          refine sg1 rfl rfl (s_shl32 rfl (by omega)) rfl ?_
          refine sg1 rfl rfl (s_move rfl) rfl ?_
          refine sg1 rfl rfl (s_move rfl) rfl ?_
          refine sg1 rfl rfl (s_subN _ 2 rfl rfl (by omega) (by omega)) rfl ?_
          refine sg1 rfl rfl (s_indexW rfl rfl (by omega)) rfl ?_
          refine sg1 rfl rfl (s_loadE 0 rfl rfl (by omega)) rfl ?_
          refine sg1 rfl rfl (s_toU64 rfl (by omega)) rfl ?_
          refine sg1 rfl rfl (s_orHL rfl rfl (by omega) (by omega)) rfl ?_
          refine sg1 rfl rfl (sT (by omega) (s_gt rfl rfl)) rfl ?_
          refine st (s_pickF rfl rfl) rfl ?_
          refine Run.nil ?_
          refine Run.nil ?_
          refine pj_then ?_
          refine J_cond1 rfl ?_
          refine J_skip ?_
          refine pj_then ?_
          refine J_block ?_
          refine J_seq ?_
          refine J_reg ?_
          refine st (s_move rfl) rfl ?_
          refine st (s_subU rfl rfl (by omega) (by decide)) rfl ?_
          refine st (s_assign rfl) rfl ?_
          refine Run.nil ?_
          refine pj_then ?_
          refine J_seq ?_
          refine J_reg ?_
          refine st (s_move rfl) rfl ?_
          refine st (s_move rfl) rfl ?_
          refine st (s_addU rfl rfl (by omega)) rfl ?_
          refine st (s_assign rfl) rfl ?_
          refine Run.nil ?_
          refine pj_then ?_
          refine J_seq ?_
          refine J_reg ?_
          refine st (s_move rfl) rfl ?_
          refine st (sT (by omega) (s_gt rfl rfl)) rfl ?_
          refine Run.nil ?_
          refine pj_then ?_
          refine J_cond1 rfl ?_
          refine J_exit ?_
          refine px_block_ne rfl ?_
          refine px_then ?_
          refine px_block ?_
          rw [hq2]
          refine pj_cut (q - 1) (hp.last g hQ hC) (by repeat (first | exact SubG.refl _ | exact SubG.nil | refine SubG.cons rfl (VT.le_refl _) ?_ | (refine SubG.cons rfl (one_le ?_) ?_; (congr 1; first | omega | (simp; omega) | simp)))) (.keep (Own.le_refl _) (.nil))
        · refine J_seq ?_
          refine J_seq ?_
          refine J_regd 22 mixed (by kernel_rfl) (by decide) ?_
          refine st (s_move rfl) rfl ?_
          refine st (sF (by omega) (s_gt rfl rfl)) rfl ?_
          refine st (s_move rfl) rfl ?_
          refine sg1 rfl rfl (s_move rfl) rfl ?_
          refine sg1 rfl rfl (s_move rfl) rfl ?_
          refine sg1 rfl rfl (s_move rfl) rfl ?_
          refine sg1 rfl rfl (s_subN _ 2 rfl rfl (by omega) (by omega)) rfl ?_
          refine sg1 rfl rfl (s_indexIN rfl rfl (by omega)) rfl ?_
          refine sg1 rfl rfl (s_load rfl) rfl ?_
          refine sg1 rfl rfl (s_toU64 rfl (by omega)) rfl ?_
          refine sg1 rfl rfl (s_mulU rfl rfl (by omega)) rfl ?_
          refine sg1 rfl rfl (s_move rfl) rfl ?_
          refine sg1 rfl rfl (s_shl32 rfl (by omega)) rfl ?_
          refine sg1 rfl rfl (s_move rfl) rfl ?_
          refine sg1 rfl rfl (s_move rfl) rfl ?_
          refine sg1 rfl rfl (s_subN _ 2 rfl rfl (by omega) (by omega)) rfl ?_
          refine sg1 rfl rfl (s_indexW rfl rfl (by omega)) rfl ?_
          refine sg1 rfl rfl (s_loadE 0 rfl rfl (by omega)) rfl ?_
          refine sg1 rfl rfl (s_toU64 rfl (by omega)) rfl ?_
          refine sg1 rfl rfl (s_orHL rfl rfl (by omega) (by omega)) rfl ?_
          refine sg1 rfl rfl (sT (by omega) (s_gt rfl rfl)) rfl ?_
          refine st (s_pickF rfl rfl) rfl ?_
          refine Run.nil ?_
          refine Run.nil ?_
          refine pj_then ?_
          refine J_cond1 rfl ?_
          refine J_skip ?_
          refine pj_then ?_
          refine J_block ?_
          refine J_seq ?_
          refine J_reg ?_
          refine st (s_move rfl) rfl ?_
          refine st (s_subU rfl rfl (by omega) (by decide)) rfl ?_
          refine st (s_assign rfl) rfl ?_
          refine Run.nil ?_
          refine pj_then ?_
          refine J_seq ?_
          refine J_reg ?_
          refine st (s_move rfl) rfl ?_
          refine st (s_move rfl) rfl ?_
          refine st (s_addU rfl rfl (by omega)) rfl ?_
          refine st (s_assign rfl) rfl ?_
          refine Run.nil ?_
          refine pj_then ?_
          refine J_seq ?_
          refine J_reg ?_
          refine st (s_move rfl) rfl ?_
          refine st (sF (by omega) (s_gt rfl rfl)) rfl ?_
          refine Run.nil ?_
          refine pj_then ?_
          refine J_cond0 rfl ?_
          refine J_skip ?_
          refine pn_block ?_
          rw [hq2]
          refine pj_roundM ((q - 1, r + v.getD (k + 1) 0)) (hp.next hQ (Nat.lt_of_not_le hC)) (by omega) (by repeat (first | exact SubG.refl _ | exact SubG.nil | refine SubG.cons rfl (VT.le_refl _) ?_ | (refine SubG.cons rfl (one_le ?_) ?_; (congr 1; first | omega | (simp; omega) | simp)))) (.keep (Own.le_refl _) (.nil))
      · refine J_seq ?_
        refine J_seq ?_
        refine J_regd 22 mixed (by kernel_rfl) (by decide) ?_
        refine st (s_move rfl) rfl ?_
        refine st (sF (by omega) (s_gt rfl rfl)) rfl ?_
        refine st (s_move rfl) rfl ?_
        refine sg1 rfl rfl (s_move rfl) rfl ?_
        refine sg1 rfl rfl (s_move rfl) rfl ?_
        refine sg1 rfl rfl (s_move rfl) rfl ?_
        refine sg1 rfl rfl (s_subN _ 2 rfl rfl (by omega) (by omega)) rfl ?_
        refine sg1 rfl rfl (s_indexIN rfl rfl (by omega)) rfl ?_
        refine sg1 rfl rfl (s_load rfl) rfl ?_
        refine sg1 rfl rfl (s_toU64 rfl (by omega)) rfl ?_
        refine sg1 rfl rfl (s_mulU rfl rfl (by omega)) rfl ?_
        refine sg1 rfl rfl (s_move rfl) rfl ?_
        refine sg1 rfl rfl (s_shlU (s := 32) rfl rfl (by omega) (by omega)) rfl ?_
        refine sg1 rfl rfl (s_move rfl) rfl ?_
        refine sg1 rfl rfl (s_move rfl) rfl ?_
        refine sg1 rfl rfl (s_subN _ 2 rfl rfl (by omega) (by omega)) rfl ?_
        refine sg1 rfl rfl (s_indexW rfl rfl (by omega)) rfl ?_
        refine sg1 rfl rfl (s_loadE 0 rfl rfl (by omega)) rfl ?_
        refine sg1 rfl rfl (s_toU64 rfl (by omega)) rfl ?_
        refine sg1 rfl rfl (s_orHL rfl rfl (by omega) (by omega)) rfl ?_
        refine sg1 rfl rfl (sF (by omega) (s_gt rfl rfl)) rfl ?_
        refine st (s_pickF rfl rfl) rfl ?_
        refine Run.nil ?_
        refine Run.nil ?_
        refine pj_then ?_
        refine J_cond0 rfl ?_
        refine J_exit ?_
        refine px_then ?_
        refine px_then ?_
        refine px_block ?_
        have hqB : q < 4294967296 := by omega
        refine pj_cut (q) (⟨hqB, hp.q, g.done hp.e hqB (.inl (Nat.le_of_not_lt hB))⟩) (by repeat (first | exact SubG.refl _ | exact SubG.nil | refine SubG.cons rfl (VT.le_refl _) ?_ | (refine SubG.cons rfl (one_le ?_) ?_; (congr 1; first | omega | (simp; omega) | simp)))) (.keep (Own.le_refl _) (.nil))
  · obtain ⟨hq1, hq2, hq3⟩ := hq
    have lu := lw
    refine pj_then ?_
    refine J_seq ?_
    refine J_reg ?_
    refine st (s_assign rfl) rfl ?_
    refine st (s_assign rfl) rfl ?_
    refine Run.nil ?_
    refine pj_then ?_
    refine J_seq ?_
    refine J_seq ?_
    refine J_reg ?_
    refine st (s_move rfl) rfl ?_
    refine st (s_len rfl) rfl ?_
    refine st (s_move rfl) rfl ?_
    refine Run.nil ?_
    refine pj_then ?_
    refine J_block ?_
    refine J_sub (Γ' := [(0, _), (1, _), (4, _), (5, _), (8, _), (10, _), (11, _), (74, _), (75, _), (76, _)]) (SubG.cons rfl (VT.le_refl _) (SubG.cons rfl (VT.le_refl _) (SubG.cons rfl (VT.le_refl _) (SubG.cons rfl (VT.le_refl _) (SubG.cons rfl (VT.le_refl _) (SubG.cons rfl (VT.le_refl _) (SubG.cons rfl (VT.le_refl _) (SubG.cons rfl (VT.le_refl _) (SubG.cons rfl (VT.le_refl _) (SubG.cons rfl (VT.le_refl _) (SubG.nil))))))))))) (SubM.refl _) ?_
    refine J_loopA (σ := List Nat × Nat × Nat × Nat) (Γk := [(0, _), (1, _), (4, _), (5, _), (8, _), (74, _), (75, _)]) (SubG.cons rfl (VT.le_refl _) (SubG.cons rfl (VT.le_refl _) (SubG.cons rfl (VT.le_refl _) (SubG.cons rfl (VT.le_refl _) (SubG.cons rfl (VT.le_refl _) (SubG.cons rfl (VT.le_refl _) (SubG.cons rfl (VT.le_refl _) (SubG.nil)))))))) (fun s => [(76, one (.int .i64 (s.2.1 : Nat))), (10, one (.int .u64 (s.2.2.1 : Nat))), (11, one (.int .u64 (s.2.2.2 : Nat)))]) (fun s M0 => (M0.set 0 (sliO (some b) 84 .one N N (limF s.1)))) (fun s => DgS W v j k q s) (fun s => k + 2 - s.2.1) ((W, 0, 0, 0)) (⟨Outside.refl _ _ _, hW, SubR.start (hW.win _ _)⟩) (by repeat (first | exact SubG.refl _ | exact SubG.nil | refine SubG.cons rfl (VT.le_refl _) ?_ | (refine SubG.cons rfl (one_le ?_) ?_; (congr 1; first | omega | (simp; omega) | simp)))) (.keep (Own.le_refl _) (.nil)) (fun s hs => ?_)
    refine J_norm (Γ' := [(76, _), (10, _), (11, _), (0, _), (1, _), (4, _), (5, _), (8, _), (74, _), (75, _)]) (M' := [_]) rfl rfl ?_
    obtain ⟨W1, i, br, c⟩ := s
    dsimp only at hs ⊢
    have h1o := hs.out
    have h1l := hs.lim
    have h1s := hs.sub
    dsimp only at h1o h1l h1s
    have hbr := h1s.hb
    have hcr := h1s.hc
    have hN1 : W1.length = N := h1o.1.trans hN
    refine J_seq ?_
    refine J_reg ?_
    refine st (s_lt rfl rfl) rfl ?_
    refine Run.nil ?_
    refine pj_then ?_
    refine J_seq ?_
    refine J_if rfl (fun hc => ?_) (fun hc => ?_)
    · have hi : i < k + 2 := by omega
      have z1 := getD_lt h1l (j + i)
      have v1 := getD_lt hv i
      have sl := sub_lim hq1 v1 hcr
      have sl1 := sl.1
      have sl2 := sl.2.1
      have sl3 := sl.2.2
      obtain ⟨d, hd⟩ : ∃ d, d = ((W1.getD (j + i) 0 + 18446744073709551616 - (c + q * v.getD i 0) % 4294967296) % 18446744073709551616 + 18446744073709551616 - br) % 18446744073709551616 := ⟨_, rfl⟩
      have hst := h1s.step hv hq1 (by omega) (by rw [lu, hk]; omega) (d := d) (by rw [win_getD (by omega)]; exact hd)
      rw [← win_set (by omega)] at hst
      refine J_skip ?_
      refine pj_then ?_
      refine J_seq ?_
      refine J_block ?_
      refine J_seq ?_
      refine J_reg ?_
      refine st (s_move rfl) rfl ?_
      refine st (s_indexIN rfl rfl (by omega)) rfl ?_
      refine st (s_load rfl) rfl ?_
      refine st (s_assign rfl) rfl ?_
      refine st (s_assign rfl) rfl ?_
      refine Run.nil ?_
      refine pj_then ?_
      refine J_seq ?_
      refine J_reg ?_
      refine st (s_move rfl) rfl ?_
      refine st (s_move rfl) rfl ?_
      refine st (s_move rfl) rfl ?_
      refine st (s_toU64 rfl (by omega)) rfl ?_
      refine st (s_mulU rfl rfl (by omega)) rfl ?_
      refine st (s_addU rfl rfl (by omega)) rfl ?_
      refine st (s_assign rfl) rfl ?_
      refine Run.nil ?_
      refine pj_then ?_
      refine J_seq ?_
      refine J_reg ?_
      refine st (s_move rfl) rfl ?_
      refine st (s_move rfl) rfl ?_
      refine st (s_indexW rfl rfl (by omega)) rfl ?_
      refine st (s_loadE 0 rfl rfl (by omega)) rfl ?_
      refine st (s_toU64 rfl (by omega)) rfl ?_
      refine st (s_move rfl) rfl ?_
      refine st (s_andM rfl (by omega)) rfl ?_
      refine st (s_subU rfl rfl (by omega) (by omega)) rfl ?_
      refine st (s_move rfl) rfl ?_
      refine st (s_subU rfl rfl (by omega) (by omega)) rfl ?_
      refine st (s_assign rfl) rfl ?_
      refine Run.nil ?_
      refine pj_then ?_
      refine J_seq ?_
      refine J_reg ?_
      refine st (s_move rfl) rfl ?_
      refine st (s_move rfl) rfl ?_
      refine st (s_move rfl) rfl ?_
      refine st (s_toU32 rfl) rfl ?_
      refine st (s_indexW rfl rfl (by omega)) rfl ?_
      (refine a_storeE 0 rfl rfl rfl ?_ rfl ?_; omega)
      refine Run.nil ?_
      refine pj_then ?_
      refine J_seq ?_
      refine J_reg ?_
      refine st (s_move rfl) rfl ?_
      refine st (s_shr63 rfl) rfl ?_
      refine st (s_assign rfl) rfl ?_
      refine Run.nil ?_
      refine pj_then ?_
      refine J_reg ?_
      refine st (s_move rfl) rfl ?_
      refine st (s_shr32 rfl) rfl ?_
      refine st (s_assign rfl) rfl ?_
      refine Run.nil ?_
      refine pn_block ?_
      refine pj_then ?_
      refine J_reg ?_
      refine st (s_addN _ 1 rfl rfl (by omega)) rfl ?_
      refine st (s_move rfl) rfl ?_
      refine Run.nil ?_
      rw [← hd]
      refine pj_roundM ((W1.set (j + i) (d % 4294967296), i + 1, d / 9223372036854775808, (c + q * v.getD i 0) / 4294967296)) (⟨h1o.set (by omega), h1l.set (Nat.mod_lt _ (by decide)), hst⟩) (by (simp only []; omega)) (by repeat (first | exact SubG.refl _ | exact SubG.nil | refine SubG.cons rfl (VT.le_refl _) ?_ | (refine SubG.cons rfl (one_le ?_) ?_; (congr 1; first | omega | (simp; omega) | simp)))) (.keep (lim_setF (by omega) rfl) (.nil))
    · have hi : i = k + 2 := by have := h1s.le; omega
      subst hi
      have z1 := getD_lt h1l (j + (k + 2))
      obtain ⟨d, hd⟩ : ∃ d, d = ((W1.getD (j + (k + 2)) 0 + 18446744073709551616 - c) % 18446744073709551616 + 18446744073709551616 - br) % 18446744073709551616 := ⟨_, rfl⟩
      have h1v : SubR (win W j (k + 3)) v q (win W1 j (k + 3)) v.length br c := by rw [hk]; exact h1s
      have hdw : d = (((win W1 j (k + 3)).getD v.length 0 + 18446744073709551616 - c) % 18446744073709551616 + 18446744073709551616 - br) % 18446744073709551616 := by rw [hk, win_getD (by omega)]; exact hd
      refine J_exit ?_
      refine px_then ?_
      refine px_then ?_
      refine px_block ?_
      refine pj_then ?_
      refine J_seq ?_
      refine J_reg ?_
      refine st (s_move rfl) rfl ?_
      refine st (s_move rfl) rfl ?_
      refine st (s_indexW rfl rfl (by omega)) rfl ?_
      refine st (s_loadE 0 rfl rfl (by omega)) rfl ?_
      refine st (s_toU64 rfl (by omega)) rfl ?_
      refine st (s_move rfl) rfl ?_
      refine st (s_subU rfl rfl (by omega) (by omega)) rfl ?_
      refine st (s_move rfl) rfl ?_
      refine st (s_subU rfl rfl (by omega) (by omega)) rfl ?_
      refine st (s_assign rfl) rfl ?_
      refine Run.nil ?_
      refine pj_then ?_
      refine J_seq ?_
      refine J_reg ?_
      refine st (s_move rfl) rfl ?_
      refine st (s_move rfl) rfl ?_
      refine st (s_move rfl) rfl ?_
      refine st (s_toU32 rfl) rfl ?_
      refine st (s_indexW rfl rfl (by omega)) rfl ?_
      (refine a_storeE 0 rfl rfl rfl ?_ rfl ?_; omega)
      refine Run.nil ?_
      refine pj_then ?_
      refine J_seq ?_
      refine J_seq ?_
      refine J_reg ?_
      refine st (s_move rfl) rfl ?_
      refine st (s_shr63 rfl) rfl ?_
      refine st (s_eq rfl rfl) rfl ?_
      refine Run.nil ?_
      refine pj_then ?_
      rw [← hd]
      refine J_if rfl (fun h0 => ?_) (fun h0 => ?_)
      · obtain ⟨f1, f2, f3⟩ := h1v.good (by rw [lu, hk]) g.V0 hq2 hdw (by omega)
        rw [hk, ← win_set (by omega)] at f3
        refine J_seq ?_
        refine J_reg ?_
        refine st (s_move rfl) rfl ?_
        refine st (s_toU32 rfl) rfl ?_
        refine st (s_assign rfl) rfl ?_
        refine Run.nil ?_
        refine pj_then ?_
        refine J_ret ?_
        refine pr_then ?_
        refine retI1 (⟨W1.set (j + (k + 2)) (d % 4294967296), h1o.set (by omega), h1l.set (Nat.mod_lt _ (by decide)), f3⟩ : DigS W v j k) Try.results104 (.tmp rfl (one_le (by rw [← f1, Nat.mod_eq_of_lt hq1]))) (.keep (lim_setF (by omega) rfl) .nil)
      · obtain ⟨f1, f2, f3⟩ := h1v.bad (by rw [lu, hk]) g.V0 hq2 hq3 hdw (by omega)
        rw [hk, ← win_set (by omega)] at f3
        obtain ⟨W2, hW2⟩ : ∃ W2, W2 = W1.set (j + (k + 2)) (d % 4294967296) := ⟨_, rfl⟩
        have h2o : Outside W W2 j (k + 3) := hW2 ▸ h1o.set (by omega)
        have h2l : Limbs W2 := hW2 ▸ h1l.set (Nat.mod_lt _ (by decide))
        have hN2 : W2.length = N := h2o.1.trans hN
        rw [← hW2] at f3
        refine J_skip ?_
        refine pj_then ?_
        refine J_seq ?_
        refine J_reg ?_
        refine st (s_assign rfl) rfl ?_
        refine Run.nil ?_
        refine pj_then ?_
        refine J_seq ?_
        refine J_seq ?_
        refine J_reg ?_
        refine st (s_move rfl) rfl ?_
        refine st (s_len rfl) rfl ?_
        refine st (s_move rfl) rfl ?_
        refine Run.nil ?_
        refine pj_then ?_
        refine J_block ?_
        refine J_sub (Γ' := [(0, _), (4, _), (5, _), (8, _), (11, _), (126, _), (127, _), (128, _)]) (SubG.cons rfl (VT.le_refl _) (SubG.cons rfl (VT.le_refl _) (SubG.cons rfl (VT.le_refl _) (SubG.cons rfl (VT.le_refl _) (SubG.cons rfl (VT.le_refl _) (SubG.cons rfl (VT.le_refl _) (SubG.cons rfl (VT.le_refl _) (SubG.cons rfl (VT.le_refl _) (SubG.nil))))))))) (SubM.refl _) ?_
        refine J_loopA (σ := List Nat × Nat × Nat) (Γk := [(0, _), (4, _), (5, _), (8, _), (126, _), (127, _)]) (SubG.cons rfl (VT.le_refl _) (SubG.cons rfl (VT.le_refl _) (SubG.cons rfl (VT.le_refl _) (SubG.cons rfl (VT.le_refl _) (SubG.cons rfl (VT.le_refl _) (SubG.cons rfl (VT.le_refl _) (SubG.nil))))))) (fun s => [(128, one (.int .i64 (s.2.1 : Nat))), (11, one (.int .u64 (s.2.2 : Nat)))]) (fun s M0 => (M0.set 0 (sliO (some b) 84 .one N N (limF s.1)))) (fun s => DgB W W2 v j k s) (fun s => k + 2 - s.2.1) ((W2, 0, 0)) (⟨h2o, h2l, BackR.start (h2l.win _ _)⟩) (by repeat (first | exact SubG.refl _ | exact SubG.nil | refine SubG.cons rfl (VT.le_refl _) ?_ | (refine SubG.cons rfl (one_le ?_) ?_; (congr 1; first | omega | (simp; omega) | simp)))) (.keep (by (subst hW2; exact lim_setF (by omega) rfl)) (.nil)) (fun s hs => ?_)
        refine J_norm (Γ' := [(128, _), (11, _), (0, _), (4, _), (5, _), (8, _), (126, _), (127, _)]) (M' := [_]) rfl rfl ?_
        obtain ⟨W3, i, c3⟩ := s
        dsimp only at hs ⊢
        have h3o := hs.out
        have h3l := hs.lim
        have h3s := hs.back
        dsimp only at h3o h3l h3s
        have hcr := h3s.hc
        have hN3 : W3.length = N := h3o.1.trans hN
        have lu2 : (win W2 j (k + 3)).length = k + 3 := win_len (by omega)
        refine J_seq ?_
        refine J_reg ?_
        refine st (s_lt rfl rfl) rfl ?_
        refine Run.nil ?_
        refine pj_then ?_
        refine J_seq ?_
        refine J_if rfl (fun hc => ?_) (fun hc => ?_)
        · have hi : i < k + 2 := by omega
          have z1 := getD_lt h3l (j + i)
          have v1 := getD_lt hv i
          have hst := h3s.step hv (by omega) (by rw [lu2, hk]; omega)
          rw [win_getD (by omega), ← win_set (by omega)] at hst
          refine J_skip ?_
          refine pj_then ?_
          refine J_seq ?_
          refine J_block ?_
          refine J_seq ?_
          refine J_reg ?_
          refine st (s_move rfl) rfl ?_
          refine st (s_indexIN rfl rfl (by omega)) rfl ?_
          refine st (s_load rfl) rfl ?_
          refine st (s_assign rfl) rfl ?_
          refine st (s_assign rfl) rfl ?_
          refine Run.nil ?_
          refine pj_then ?_
          refine J_seq ?_
          refine J_reg ?_
          refine st (s_move rfl) rfl ?_
          refine st (s_move rfl) rfl ?_
          refine st (s_move rfl) rfl ?_
          refine st (s_indexW rfl rfl (by omega)) rfl ?_
          refine st (s_loadE 0 rfl rfl (by omega)) rfl ?_
          refine st (s_toU64 rfl (by omega)) rfl ?_
          refine st (s_move rfl) rfl ?_
          refine st (s_toU64 rfl (by omega)) rfl ?_
          refine st (s_addU rfl rfl (by omega)) rfl ?_
          refine st (s_addU rfl rfl (by omega)) rfl ?_
          refine st (s_assign rfl) rfl ?_
          refine Run.nil ?_
          refine pj_then ?_
          refine J_seq ?_
          refine J_reg ?_
          refine st (s_move rfl) rfl ?_
          refine st (s_move rfl) rfl ?_
          refine st (s_move rfl) rfl ?_
          refine st (s_toU32 rfl) rfl ?_
          refine st (s_indexW rfl rfl (by omega)) rfl ?_
          (refine a_storeE 0 rfl rfl rfl ?_ rfl ?_; omega)
          refine Run.nil ?_
          refine pj_then ?_
          refine J_reg ?_
          refine st (s_move rfl) rfl ?_
          refine st (s_shr32 rfl) rfl ?_
          refine st (s_assign rfl) rfl ?_
          refine Run.nil ?_
          refine pn_block ?_
          refine pj_then ?_
          refine J_reg ?_
          refine st (s_addN _ 1 rfl rfl (by omega)) rfl ?_
          refine st (s_move rfl) rfl ?_
          refine Run.nil ?_
          refine pj_roundM ((W3.set (j + i) ((c3 + (W3.getD (j + i) 0 + v.getD i 0)) % 4294967296), i + 1, (c3 + (W3.getD (j + i) 0 + v.getD i 0)) / 4294967296)) (⟨h3o.set (by omega), h3l.set (Nat.mod_lt _ (by decide)), hst⟩) (by (simp only []; omega)) (by repeat (first | exact SubG.refl _ | exact SubG.nil | refine SubG.cons rfl (VT.le_refl _) ?_ | (refine SubG.cons rfl (one_le ?_) ?_; (congr 1; first | omega | (simp; omega) | simp)))) (.keep (lim_setF (by omega) rfl) (.nil))
        · have hi : i = k + 2 := by have := h3s.le; omega
          subst hi
          have z1 := getD_lt h3l (j + (k + 2))
          have h3v : BackR (win W2 j (k + 3)) v (win W3 j (k + 3)) v.length c3 := by rw [hk]; exact h3s
          obtain ⟨f4, f5⟩ := h3v.good (R := lv (win W j (k + 3)) % lv v) (x := (W3.getD (j + (k + 2)) 0 + c3) % 4294967296) (by rw [lu2, hk]) (Nat.mod_lt _ g.V0) hv (by rw [hk]; exact f3) (by rw [hk, win_getD (by omega)])
          rw [hk, ← win_set (by omega)] at f5
          refine J_exit ?_
          refine px_then ?_
          refine px_then ?_
          refine px_block ?_
          refine pj_then ?_
          refine J_seq ?_
          refine J_reg ?_
          refine st (s_move rfl) rfl ?_
          refine st (s_move rfl) rfl ?_
          refine st (s_indexW rfl rfl (by omega)) rfl ?_
          refine st (s_loadE 0 rfl rfl (by omega)) rfl ?_
          refine st (s_move rfl) rfl ?_
          refine st (s_toU32 rfl) rfl ?_
          refine st (s_addW rfl rfl) rfl ?_
          refine st (s_indexW rfl rfl (by omega)) rfl ?_
          (refine a_storeE 0 rfl rfl rfl ?_ rfl ?_; omega)
          refine Run.nil ?_
          refine pj_then ?_
          refine J_seq ?_
          refine J_reg ?_
          refine st (s_move rfl) rfl ?_
          refine st (s_subU rfl rfl (by omega) (by decide)) rfl ?_
          refine st (s_toU32 rfl) rfl ?_
          refine st (s_assign rfl) rfl ?_
          refine Run.nil ?_
          refine pj_then ?_
          refine J_ret ?_
          have e1 : (q + 18446744073709551616 - 1) % 18446744073709551616 % 4294967296 = lv (win W j (k + 3)) / lv v := q_sub f1 hq1
          refine retI1 (⟨W3.set (j + (k + 2)) ((W3.getD (j + (k + 2)) 0 + c3) % 4294967296), h3o.set (by omega), h3l.set (Nat.mod_lt _ (by decide)), f5⟩ : DigS W v j k) Try.results104 (.tmp rfl (one_le (by rw [e1]))) (.keep (lim_setF (by omega) (by rw [Nat.mod_eq_of_lt (show c3 < 4294967296 by omega)])) .nil)
end Tor
end

section
set_option linter.unusedVariables false
set_option linter.unusedSimpArgs false
namespace Tor
open Go Go.RowKit Go.Proofs
theorem drop_win (U : List Nat) {j m : Nat} (h : j + m ≤ U.length) : lv (U.drop j) = lv (win U j m) + 4294967296 ^ m * lv (U.drop (j + m)) := by
  have h1 := lv_split (U.drop j) m (by simp; omega)
  rw [List.drop_drop] at h1
  exact h1
theorem lv_drop_succ {U : List Nat} {j : Nat} (h : j < U.length) : lv (U.drop j) = U.getD j 0 + 4294967296 * lv (U.drop (j + 1)) := by
  rw [drop_getD h]; rfl
/-- The relation of divide's loop: limbs c and above are divided. -/
structure DivR (V A n e : Nat) (p : List Nat × List Nat × Nat) : Prop where
  le : p.2.2 ≤ e + 1
  lu : p.1.length = n + e + 1
  lq : p.2.1.length = e + 1
  limU : Limbs p.1
  limQ : Limbs p.2.1
  zero : ∀ k, k < p.2.2 → p.2.1.getD k 0 = 0
  lt : lv (p.1.drop p.2.2) < V
  val : lv p.1 + lv p.2.1 * V = A
theorem DivR.pre {V A n e j : Nat} {U Q : List Nat} (h : DivR V A n e (U, Q, j + 1)) (hV : V < 4294967296 ^ n) : j + (n + 1) ≤ U.length ∧ lv (U.drop (j + (n + 1))) = 0 ∧ lv (U.drop j) = lv (win U j (n + 1)) ∧ lv (win U j (n + 1)) < V * 4294967296 := by
  have hle : j + 1 ≤ e + 1 := h.le
  have hlu : U.length = n + e + 1 := h.lu
  have hlt : lv (U.drop (j + 1)) < V := h.lt
  have h1 : j + (n + 1) ≤ U.length := by omega
  have h2 := lv_drop_succ (U := U) (j := j) (by omega)
  have h3 := drop_win U h1
  have hd := getD_lt (show Limbs U from h.limU) j
  have h4 : lv (U.drop j) < V * 4294967296 := by
    rw [h2]
    generalize lv (U.drop (j + 1)) = x at *
    generalize U.getD j 0 = y at *
    omega
  have h5 : lv (U.drop (j + (n + 1))) = 0 := by
    rcases Nat.eq_zero_or_pos (lv (U.drop (j + (n + 1)))) with h | h
    · exact h
    · exfalso
      have h6 : 4294967296 ^ (n + 1) ≤ 4294967296 ^ (n + 1) * lv (U.drop (j + (n + 1))) := Nat.le_mul_of_pos_right _ h
      have h7 : V * 4294967296 < 4294967296 ^ (n + 1) := by rw [Nat.pow_succ]; exact Nat.mul_lt_mul_of_pos_right hV (by decide)
      omega
  rw [h5, Nat.mul_zero, Nat.add_zero] at h3
  exact ⟨h1, h5, h3, h3 ▸ h4⟩
theorem DivR.step {V A n e j q : Nat} {U Q U' : List Nat} (h : DivR V A n e (U, Q, j + 1)) (hV0 : 0 < V) (hV : V < 4294967296 ^ n) (ho : Outside U U' j (n + 1)) (hl : Limbs U') (hr : lv (win U' j (n + 1)) = lv (win U j (n + 1)) % V) (hq : q = lv (win U j (n + 1)) / V) :
    DivR V A n e (U', Q.set j q, j) := by
  obtain ⟨p1, p2, p3, p4⟩ := h.pre hV
  obtain ⟨o1, o2, o3⟩ := ho
  have hle : j + 1 ≤ e + 1 := h.le
  have hlq : Q.length = e + 1 := h.lq
  have hqB : q < 4294967296 := by rw [hq]; exact Nat.div_lt_of_lt_mul p4
  have h0 : Q.getD j 0 = 0 := h.zero j (Nat.lt_succ_self j)
  have hs := lv_set (l := Q) (k := j) (v := q) (by omega)
  rw [h0, Nat.mul_zero, Nat.add_zero] at hs
  have d1 := lv_split U j (by omega)
  have d2 := lv_split U' j (by omega)
  have e1 := drop_win U' (j := j) (m := n + 1) (by omega)
  rw [o3, p2, Nat.mul_zero, Nat.add_zero] at e1
  have hm := Nat.div_add_mod (lv (win U j (n + 1))) V
  have hv : lv U + lv Q * V = A := h.val
  refine ⟨Nat.le_of_succ_le hle, o1.trans h.lu, by rw [List.length_set]; exact h.lq, hl, Limbs.set h.limQ hqB, fun k hk => ?_, ?_, ?_⟩
  · simp only at hk ⊢
    rw [getD_setL (by omega), if_neg (by omega)]; exact h.zero k (Nat.lt_succ_of_lt hk)
  · show lv (U'.drop j) < V
    rw [e1, hr]; exact Nat.mod_lt _ hV0
  · show lv U' + lv (Q.set j q) * V = A
    rw [hs, ← hv, d1, d2, o2, e1, p3, hr, hq]
    generalize lv (win U j (n + 1)) = w at *
    have e2 : (lv Q + 4294967296 ^ j * (w / V)) * V = lv Q * V + 4294967296 ^ j * (V * (w / V)) := by rw [Nat.add_mul, Nat.mul_assoc, Nat.mul_comm (w / V)]
    have e3 : 4294967296 ^ j * w = 4294967296 ^ j * (V * (w / V)) + 4294967296 ^ j * (w % V) := by rw [← Nat.mul_add, hm]
    rw [e2, e3]; omega
theorem DivR.start {V A n e : Nat} {U : List Nat} (hU : Limbs U) (hlu : U.length = n + e + 1) (hA : lv U = A) (hlt : A < V * 4294967296 ^ (e + 1)) : DivR V A n e (U, List.replicate (e + 1) 0, e + 1) := by
  refine ⟨Nat.le_refl _, hlu, by simp, hU, Limbs.replicate _, fun k _ => getD_replicate0 _ _, ?_, by simp [lv_replicate, hA]⟩
  show lv (U.drop (e + 1)) < V
  have h1 := lv_split U (e + 1) (by omega)
  have h2 : lv (U.drop (e + 1)) * 4294967296 ^ (e + 1) < V * 4294967296 ^ (e + 1) := by
    rw [Nat.mul_comm]; omega
  exact Nat.lt_of_mul_lt_mul_right h2
theorem DivR.finish {a b s n e : Nat} {U Q : List Nat} (h : DivR (b * 2 ^ s) (a * 2 ^ s) n e (U, Q, 0)) (hb : 0 < b) : lv Q = a / b ∧ lv U = (a % b) * 2 ^ s := by
  have hp := Nat.two_pow_pos s
  have hlt : lv U < b * 2 ^ s := h.lt
  have hv : lv U + lv Q * (b * 2 ^ s) = a * 2 ^ s := h.val
  have hq : lv Q = a / b := by
    have h1 : lv Q * b ≤ a := by
      refine Nat.le_of_mul_le_mul_right (c := 2 ^ s) ?_ hp
      rw [Nat.mul_assoc]; omega
    have h2 : a < (lv Q + 1) * b := by
      refine Nat.lt_of_mul_lt_mul_right (a := 2 ^ s) ?_
      rw [Nat.mul_assoc, Nat.add_mul]; omega
    have h3 : lv Q ≤ a / b := (Nat.le_div_iff_mul_le hb).2 h1
    have h4 : a / b < lv Q + 1 := Nat.div_lt_of_lt_mul (by rw [Nat.mul_comm]; exact h2)
    omega
  refine ⟨hq, ?_⟩
  have hm := Nat.div_add_mod a b
  rw [hq] at hv
  have e1 : a * 2 ^ s = (b * (a / b)) * 2 ^ s + (a % b) * 2 ^ s := by rw [← Nat.add_mul, hm]
  have e2 : a / b * (b * 2 ^ s) = (b * (a / b)) * 2 ^ s := by rw [← Nat.mul_assoc, Nat.mul_comm (a / b)]
  omega
def shrL (U : List Nat) (s i : Nat) : Nat := (U.getD (i + 1) 0 * 4294967296 + U.getD i 0) / 2 ^ s % 4294967296
theorem lv_map_range (F : Nat → Nat) : ∀ (n i : Nat) (S : Nat → Nat), (∀ k, i ≤ k → k < i + n → S k = F k + 4294967296 * S (k + 1)) → S (i + n) = 0 → lv ((List.range' i n).map F) = S i
  | 0, i, S, _, h0 => by simpa [lv] using h0.symm
  | n + 1, i, S, h, h0 => by
    rw [List.range'_succ, List.map_cons, lv, lv_map_range F n (i + 1) S (fun k h1 h2 => h k (by omega) (by omega)) (by rw [← h0]; congr 1; omega), h i (Nat.le_refl _) (by omega)]
theorem shr_step {U : List Nat} (hU : Limbs U) {s i : Nat} (hs : s < 32) (hi : i + 1 < U.length) : lv (U.drop i) / 2 ^ s = shrL U s i + 4294967296 * (lv (U.drop (i + 1)) / 2 ^ s) := by
  have h1 := lv_drop_succ (U := U) (j := i) (by omega)
  have h2 := lv_drop_succ (U := U) (j := i + 1) hi
  have hp := Nat.two_pow_pos s
  obtain ⟨t, ht⟩ : ∃ t, 4294967296 = 2 ^ s * t := ⟨2 ^ (32 - s), by rw [← Nat.pow_add, show s + (32 - s) = 32 by omega]⟩
  have hd := getD_lt hU i
  have e1 : lv (U.drop i) / 2 ^ s % 4294967296 = shrL U s i := by
    unfold shrL
    rw [h1, h2]
    generalize lv (U.drop (i + 1 + 1)) = W
    generalize U.getD (i + 1) 0 = x
    generalize U.getD i 0 = y
    have : y + 4294967296 * (x + 4294967296 * W) = (x * 4294967296 + y) + 2 ^ s * (t * (4294967296 * W)) := by
      rw [← Nat.mul_assoc (2 ^ s), ← ht]; omega
    rw [this, Nat.add_mul_div_left _ _ hp]
    rw [show t * (4294967296 * W) = 4294967296 * (t * W) by rw [Nat.mul_left_comm], Nat.add_mul_mod_self_left]
  have e2 : lv (U.drop i) / 2 ^ s / 4294967296 = lv (U.drop (i + 1)) / 2 ^ s := by
    rw [Nat.div_div_eq_div_mul, Nat.mul_comm, ← Nat.div_div_eq_div_mul]
    congr 1
    rw [h1]; omega
  have := Nat.div_add_mod (lv (U.drop i) / 2 ^ s) 4294967296
  rw [e1, e2] at this
  omega
def shrList (U : List Nat) (s n : Nat) : List Nat := (List.range' 0 n).map (shrL U s)
theorem shr_val {U : List Nat} (hU : Limbs U) {s n : Nat} (hs : s < 32) (hn : n < U.length) (h0 : lv U < 4294967296 ^ n) : lv (shrList U s n) = lv U / 2 ^ s := by
  have h1 : lv (U.drop n) = 0 := by
    have h2 := lv_split U n (by omega)
    rcases Nat.eq_zero_or_pos (lv (U.drop n)) with h | h
    · exact h
    · have := Nat.le_mul_of_pos_right (4294967296 ^ n) h; omega
  have := lv_map_range (shrL U s) n 0 (fun k => lv (U.drop k) / 2 ^ s) (fun k _ hk => shr_step hU hs (by omega)) (by rw [Nat.zero_add, h1]; exact Nat.zero_div _)
  unfold shrList
  rw [this]; rfl
theorem shr_lim (U : List Nat) (s n : Nat) : Limbs (shrList U s n) := fun d hd => by
  obtain ⟨i, _, rfl⟩ := List.mem_map.1 hd
  exact Nat.mod_lt _ (by decide)
theorem map_range_get (F : Nat → Nat) {n i : Nat} (h : i < n) : ((List.range' 0 n).map F).getD i 0 = F i := by
  simp [List.getD, h]
theorem shr_get (U : List Nat) (s : Nat) {n i : Nat} (h : i < n) : (shrList U s n).getD i 0 = shrL U s i := map_range_get _ h
theorem shr_len (U : List Nat) (s n : Nat) : (shrList U s n).length = n := by unfold shrList; simp
theorem top_pos {l : List Nat} (h : Trimmed l) : ∀ {k : Nat}, l.length = k + 1 → l.getD k 0 ≠ 0 := by
  induction l with
  | nil => intro k h; simp at h
  | cons d l ih =>
    intro k hk
    cases l with
    | nil => simp at hk; subst hk; simpa using (show d ≠ 0 from h)
    | cons e l =>
      obtain ⟨j, rfl⟩ : ∃ j, k = j + 1 := ⟨k - 1, by simp at hk; omega⟩
      have := ih h.tail (k := j) (by simpa using hk)
      simpa using this
structure Shf (b : Nat) (l : List Nat) (s k : Nat) : Prop where
  s32 : s < 32
  lim : Limbs l
  lo : 2147483648 * 4294967296 ^ (k + 1) ≤ b * 2 ^ s
  hi : b * 2 ^ s < 4294967296 ^ (k + 2)
theorem shf_of {b k : Nat} (hk : (digs b).length = k + 2) : Shf b (digs b) (32 - blen ((digs b).getD (k + 1) 0)) k := by
  have hl := limbs_digs b
  have ht := top_pos (trimmed_digs b) (k := k + 1) hk
  have hd := getD_lt hl (k + 1)
  generalize hx : (digs b).getD (k + 1) 0 = x at *
  obtain ⟨j1, j2⟩ := blen_ge (x := x) (by omega) ht
  have j3 := blen_lt (x := x) (by omega)
  have j4 := blen_le (x := x) (n := 32) (by omega) (by decide)
  have hb : b = lv ((digs b).take (k + 1)) + 4294967296 ^ (k + 1) * x := by
    have e : digs b = (digs b).take (k + 2) := by rw [List.take_of_length_le (by omega)]
    have h1 := lv_take_succ (l := digs b) (k := k + 1) (by omega)
    rw [← e, lv_digs, hx] at h1; exact h1
  have hlo := lv_lt (hl.take (k + 1))
  rw [List.length_take_of_le (by omega)] at hlo
  generalize lv ((digs b).take (k + 1)) = y at *
  obtain ⟨t, ht2⟩ : ∃ t, blen x = t + 1 := ⟨blen x - 1, by omega⟩
  rw [ht2] at j2 j3 j4 ⊢
  rw [Nat.add_sub_cancel] at j2
  have p1 : 2 ^ t * 2 ^ (32 - (t + 1)) = 2147483648 := by rw [← Nat.pow_add, show t + (32 - (t + 1)) = 31 by omega]
  have p2 : 2 ^ (t + 1) * 2 ^ (32 - (t + 1)) = 4294967296 := by rw [← Nat.pow_add, show t + 1 + (32 - (t + 1)) = 32 by omega]
  have hp := Nat.two_pow_pos (32 - (t + 1))
  refine ⟨by omega, hl, ?_, ?_⟩
  · rw [← p1, hb]
    calc 2 ^ t * 2 ^ (32 - (t + 1)) * 4294967296 ^ (k + 1) ≤ x * 2 ^ (32 - (t + 1)) * 4294967296 ^ (k + 1) := Nat.mul_le_mul_right _ (Nat.mul_le_mul_right _ j2)
      _ = 4294967296 ^ (k + 1) * x * 2 ^ (32 - (t + 1)) := by rw [Nat.mul_comm, Nat.mul_assoc]
      _ ≤ _ := Nat.mul_le_mul_right _ (Nat.le_add_left _ _)
  · have h1 : b < 4294967296 ^ (k + 1) * (x + 1) := by rw [Nat.mul_add, Nat.mul_one]; omega
    calc b * 2 ^ (32 - (t + 1)) < 4294967296 ^ (k + 1) * (x + 1) * 2 ^ (32 - (t + 1)) := Nat.mul_lt_mul_of_pos_right h1 hp
      _ ≤ 4294967296 ^ (k + 1) * 2 ^ (t + 1) * 2 ^ (32 - (t + 1)) := Nat.mul_le_mul_right _ (Nat.mul_le_mul_left _ j3)
      _ = 4294967296 ^ (k + 2) := by rw [Nat.mul_assoc, p2, ← Nat.pow_succ]
theorem Shf.v {b s k : Nat} {l z : List Nat} (h : Shf b l s k) (hz : Limbs z) (hl : z.length = k + 3) (hv : lv z = b * 2 ^ s) :
    Limbs (z.take (k + 2)) ∧ (z.take (k + 2)).length = k + 2 ∧ lv (z.take (k + 2)) = b * 2 ^ s ∧ 2147483648 ≤ (z.take (k + 2)).getD (k + 1) 0 := by
  have h1 := lv_split z (k + 2) (by omega)
  have h0 : lv (z.drop (k + 2)) = 0 := by
    rcases Nat.eq_zero_or_pos (lv (z.drop (k + 2))) with h' | h'
    · exact h'
    · have := Nat.le_mul_of_pos_right (4294967296 ^ (k + 2)) h'; have := h.hi; omega
  rw [h0, Nat.mul_zero, Nat.add_zero, hv] at h1
  have hlen : (z.take (k + 2)).length = k + 2 := by rw [List.length_take_of_le (by omega)]
  have hL := hz.take (k + 2)
  refine ⟨hL, hlen, h1.symm, ?_⟩
  generalize z.take (k + 2) = v at *
  have h2 := lv_take_succ (l := v) (k := k + 1) (by omega)
  rw [List.take_of_length_le (by omega)] at h2
  have h3 := lv_lt (hL.take (k + 1))
  rw [List.length_take_of_le (by omega)] at h3
  have h4 := h.lo
  rw [h1, h2] at h4
  generalize lv (v.take (k + 1)) = y at *
  generalize v.getD (k + 1) 0 = x at *
  generalize 4294967296 ^ (k + 1) = B at *
  rcases Nat.lt_or_ge x 2147483648 with h5 | h5
  · have h6 : B * x + B ≤ B * 2147483648 := by rw [← Nat.mul_succ]; exact Nat.mul_le_mul_left _ h5
    rw [Nat.mul_comm 2147483648] at h4; omega
  · exact h5
theorem Shf.u {a b s k e : Nat} {l : List Nat} (h : Shf b l s k) (ha : (digs a).length = k + 2 + e) : a * 2 ^ s < b * 2 ^ s * 4294967296 ^ (e + 1) := by
  have h1 := lt_of_digs_len a
  rw [ha] at h1
  have h2 : 2 ^ s ≤ 2147483648 := Nat.pow_le_pow_right (n := 2) (by decide) (show s ≤ 31 by have := h.s32; omega)
  calc a * 2 ^ s < 4294967296 ^ (k + 2 + e) * 2 ^ s := Nat.mul_lt_mul_of_pos_right h1 (Nat.two_pow_pos s)
    _ ≤ 4294967296 ^ (k + 2 + e) * 2147483648 := Nat.mul_le_mul_left _ h2
    _ = 2147483648 * 4294967296 ^ (k + 1) * 4294967296 ^ (e + 1) := by rw [Nat.mul_assoc, ← Nat.pow_add, Nat.mul_comm, show k + 1 + (e + 1) = k + 2 + e by omega]
    _ ≤ b * 2 ^ s * 4294967296 ^ (e + 1) := Nat.mul_le_mul_right _ h.lo
end Tor
end

section
set_option linter.unusedVariables false
set_option linter.unusedSimpArgs false
namespace Tor
open Go Go.RowKit Go.Proofs
theorem nil_nat : VT.le (one (.slice none 0 0)) (natT 0) := VT.le_trans nil_slT (natT_of (l := []) (fun _ h => by cases h) rfl)
theorem cmpN_lt {a b : Nat} : (cmpN a b < 0) = (a < b) := by unfold cmpN; split <;> simp_all <;> (try split) <;> omega
theorem one_limb {b : Nat} (h : (digs b).length = 1) : (digs b).getD 0 0 = b := by
  have h1 := lv_take_succ (l := digs b) (k := 0) (by omega)
  rw [List.take_of_length_le (by omega), lv_digs] at h1
  simpa [lv] using h1.symm
theorem one_nat {v : Nat} (h : v < 4294967296) : VT.le (slT .one 1 fun _ => one (.int .u32 (v : Nat))) (natT v) :=
  VT.le_trans (slT_le' (m := [v].length) (ψ := fun i => one (.int .u32 ([v].getD i 0 : Nat))) rfl (fun q hq => by
    have hq : q < 1 := hq
    have : q = 0 := by omega
    subst this; rfl)) (natT_of (l := [v]) (fun d hd => by simp at hd; omega) (by simp [lv]))
def padL : Nat → Nat → List Nat
  | 0, _ => []
  | n + 1, v => v % 4294967296 :: padL n (v / 4294967296)
theorem padL_len : ∀ n v, (padL n v).length = n
  | 0, _ => rfl
  | n + 1, v => by rw [padL, List.length_cons, padL_len n]
theorem padL_lim : ∀ n v, Limbs (padL n v)
  | 0, _ => fun d hd => by cases hd
  | n + 1, v => fun d hd => by
    rw [padL] at hd
    rcases List.mem_cons.1 hd with rfl | hd
    · exact Nat.mod_lt _ (by decide)
    · exact padL_lim n _ d hd
theorem padL_val : ∀ n v, v < 4294967296 ^ n → lv (padL n v) = v
  | 0, v, h => by simp at h; subst h; rfl
  | n + 1, v, h => by
    have : v / 4294967296 < 4294967296 ^ n := Nat.div_lt_of_lt_mul (by rw [Nat.mul_comm, ← Nat.pow_succ]; exact h)
    rw [padL, lv, padL_val n _ this]; omega
theorem pad_uniq : ∀ {z : List Nat}, Limbs z → z = padL z.length (lv z)
  | [], _ => rfl
  | d :: z, h => by
    have hd := h.head
    have ih := pad_uniq h.tail
    rw [List.length_cons, padL, lv]
    rw [show (d + 4294967296 * lv z) % 4294967296 = d by omega, show (d + 4294967296 * lv z) / 4294967296 = lv z by omega, ← ih]
theorem shift_lt {l : List Nat} {s : Nat} (hl : Limbs l) (hs : s < 32) : lv l * 2 ^ s < 4294967296 ^ (l.length + 1) := by
  rw [Nat.pow_succ]
  have h1 : 2 ^ s ≤ 4294967296 := Nat.pow_le_pow_right (n := 2) (by decide) (show s ≤ 32 by omega)
  exact Nat.lt_of_lt_of_le (Nat.mul_lt_mul_of_pos_right (lv_lt hl) (Nat.two_pow_pos s)) (Nat.mul_le_mul_left _ h1)
def shift0 (l : List Nat) (s : Nat) (hl : Limbs l) (hs : s < 32) : ShiftS l s := ⟨(0, padL (l.length + 1) (lv l * 2 ^ s)), padL_len _ _, padL_lim _ _, padL_val _ _ (shift_lt hl hs)⟩
theorem shiftV_ok (l : List Nat) (s : Nat) (hl : Limbs l) (h1 : l.length ≤ 1099511627776) (hs : s < 32) : Ok Try.prog 103 [limT l, one (.int .i64 (s : Nat))] (slT .one (l.length + 1) (limF (padL (l.length + 1) (lv l * 2 ^ s)))) :=
  (shift_ok l s hl h1 hs).ok fun p => by
    have h := pad_uniq p.2.2.1
    rw [p.2.1, p.2.2.2] at h
    rw [← h]
    exact Ent.sl List.mem_cons_self
theorem take_limF {z : List Nat} {q m : Nat} (h : q < m) : limF z (Int.toNat 0 + q) = limF (z.take m) q := by
  have e : Int.toNat 0 + q = q := Nat.zero_add q
  rw [e]
  unfold limF
  rw [show (z.take m).getD q 0 = z.getD q 0 by simp [List.getD, List.getElem?_take, h]]
theorem shr_upd {br : Option Nat} {T : TypeId} {n i s : Nat} {U : List Nat} (hi : i < n) : Own.le (sliO br T .one n n (upd (fun q => one (.int .u32 ((if q < i then (shrList U s n).getD q 0 else 0 : Nat) : Int))) i (one (.int .u32 (((U.getD (i + 1) 0 * 4294967296 + U.getD i 0) / 2 ^ s % 4294967296 : Nat) : Int)))))
    (sliO br T .one n n (fun q => one (.int .u32 ((if q < i + 1 then (shrList U s n).getD q 0 else 0 : Nat) : Int)))) := sliO_eq (fun q hq => by
  unfold upd
  by_cases h : q = i
  · subst h; rw [if_pos rfl, if_pos (Nat.lt_succ_self q), shr_get U s hi]; rfl
  · rw [if_neg h]
    dsimp only
    by_cases h2 : q < i
    · rw [if_pos h2, if_pos (Nat.lt_succ_of_lt h2)]
    · rw [if_neg h2, if_neg (by omega)])
attribute [local irreducible] Tor.J Tor.PJ Tor.StepO Tor.one Tor.slT Tor.ptrT Tor.aggT Tor.tupT Tor.exT Tor.andT Tor.gT Tor.eP Tor.boxO Tor.sliO Tor.slV Tor.VT.le Tor.Ret Tor.anyT
set_option maxHeartbeats 4000000 in
set_option maxRecDepth 20000 in
theorem divide_ok (a b : Nat) (hb : b ≠ 0) (ha : (digs a).length ≤ 1099511627776) : Ok Try.prog 98 [limT (digs a), limT (digs b)] (tupT [natT (a / b), natT (a % b)]) := by
  have hcl := Clone_ok (digs a) ha
  have hcm := compare_ok a b
  refine Ok.enter Try.func98 rfl Try.ntmps98 rfl (fun w O => ?_)
  by_cases h1 : a < b
  · rw [Nat.div_eq_of_lt h1, Nat.mod_eq_of_lt h1]
    have hlt : cmpN a b < 0 := by rw [cmpN_lt]; exact h1
    refine J_seq ?_
    refine J_reg ?_
    refine st (s_assign rfl) rfl ?_
    refine st (s_assign rfl) rfl ?_
    refine Run.nil ?_
    refine pj_then ?_
    refine J_seq ?_
    refine J_block ?_
    refine J_seq ?_
    refine J_reg ?_
    refine st (s_move rfl) rfl ?_
    refine st (s_move rfl) rfl ?_
    refine st (s_callk (hcm ) rfl ⟨VT.le_refl _, VT.le_refl _, trivial⟩) rfl ?_
    refine st (sT (by assumption) (s_lt rfl rfl)) rfl ?_
    refine st (s_assign rfl) rfl ?_
    refine Run.nil ?_
    refine pj_then ?_
    refine J_cond1 rfl ?_
    refine J_seq ?_
    refine J_reg ?_
    refine st (s_move rfl) rfl ?_
    refine st (s_callk (hcl ) rfl ⟨VT.le_refl _, trivial⟩) rfl ?_
    refine st (s_assign rfl) rfl ?_
    refine st (s_assign rfl) rfl ?_
    refine Run.nil ?_
    refine pj_then ?_
    refine J_ret ?_
    refine pr_block ?_
    refine pr_then ?_
    refine retc2 Try.results98 (.tmp rfl (nil_nat)) (.tmp rfl (natT_digs _))
  · have hlt : ¬ cmpN a b < 0 := by rw [cmpN_lt]; exact h1
    have hlen := digs_len_le' (Nat.le_of_not_lt h1)
    by_cases h2 : (digs a).length ≤ 2
    · have hw1 := word_ok (digs a) (limbs_digs a) h2
      have hw2 := word_ok (digs b) (limbs_digs b) (by omega)
      rw [lv_digs] at hw1 hw2
      have a64 : a < 18446744073709551616 := Nat.lt_of_lt_of_le (lt_of_digs_len a) (Nat.pow_le_pow_right (n := 4294967296) (by decide) h2)
      have b64 : b < 18446744073709551616 := by omega
      have q64 : a / b < 18446744073709551616 := Nat.lt_of_le_of_lt (Nat.div_le_self _ _) a64
      have r64 : a % b < 18446744073709551616 := Nat.lt_of_le_of_lt (Nat.mod_le _ _) a64
      have hk1 := limbs_ok (a / b) q64
      have hk2 := limbs_ok (a % b) r64
      refine J_seq ?_
      refine J_reg ?_
      refine st (s_assign rfl) rfl ?_
      refine st (s_assign rfl) rfl ?_
      refine Run.nil ?_
      refine pj_then ?_
      refine J_seq ?_
      refine J_block ?_
      refine J_seq ?_
      refine J_reg ?_
      refine st (s_move rfl) rfl ?_
      refine st (s_move rfl) rfl ?_
      refine st (s_callk (hcm ) rfl ⟨VT.le_refl _, VT.le_refl _, trivial⟩) rfl ?_
      refine st (sF (by assumption) (s_lt rfl rfl)) rfl ?_
      refine st (s_assign rfl) rfl ?_
      refine Run.nil ?_
      refine pj_then ?_
      refine J_cond0 rfl ?_
      refine J_seq ?_
      refine J_reg ?_
      refine st (s_move rfl) rfl ?_
      refine st (s_len rfl) rfl ?_
      refine st (sT (by omega) (s_le rfl rfl)) rfl ?_
      refine st (s_assign rfl) rfl ?_
      refine Run.nil ?_
      refine pj_then ?_
      refine J_cond1 rfl ?_
      refine J_seq ?_
      refine J_reg ?_
      refine st (s_move rfl) rfl ?_
      refine st (s_callk (hw1 ) rfl ⟨VT.le_refl _, trivial⟩) rfl ?_
      refine st (s_move rfl) rfl ?_
      refine st (s_callk (hw2 ) rfl ⟨VT.le_refl _, trivial⟩) rfl ?_
      refine st (s_assign rfl) rfl ?_
      refine st (s_assign rfl) rfl ?_
      refine Run.nil ?_
      refine pj_then ?_
      refine J_seq ?_
      refine J_regd 9 mixed (by kernel_rfl) (by decide) ?_
      refine st (s_move rfl) rfl ?_
      refine st (s_move rfl) rfl ?_
      refine st (s_quoU rfl rfl (by omega) (by omega)) rfl ?_
      refine st (s_callk (hk1 ) rfl ⟨VT.le_refl _, trivial⟩) rfl ?_
      refine st (s_move rfl) rfl ?_
      refine st (s_move rfl) rfl ?_
      refine st (s_remN _ rfl rfl rfl (by omega)) rfl ?_
      refine st (s_callk (hk2 ) rfl ⟨VT.le_refl _, trivial⟩) rfl ?_
      refine st (s_assign rfl) rfl ?_
      refine Run.nil ?_
      refine st (s_assign rfl) rfl ?_
      refine Run.nil ?_
      refine pj_then ?_
      refine J_ret ?_
      refine pr_block ?_
      refine pr_then ?_
      refine retc2 Try.results98 (.tmp rfl (VT.le_refl _)) (.tmp rfl (VT.le_refl _))
    · by_cases h3 : (digs b).length = 1
      · have hb1 := one_limb h3
        have hd := getD_lt (limbs_digs b) 0
        have hsh := short_ok (digs a) b (limbs_digs a) ha (by omega) (by omega)
        rw [lv_digs] at hsh
        have hr := Nat.mod_lt a (show 0 < b by omega)
        refine J_seq ?_
        refine J_reg ?_
        refine st (s_assign rfl) rfl ?_
        refine st (s_assign rfl) rfl ?_
        refine Run.nil ?_
        refine pj_then ?_
        refine J_seq ?_
        refine J_block ?_
        refine J_seq ?_
        refine J_reg ?_
        refine st (s_move rfl) rfl ?_
        refine st (s_move rfl) rfl ?_
        refine st (s_callk (hcm ) rfl ⟨VT.le_refl _, VT.le_refl _, trivial⟩) rfl ?_
        refine st (sF (by assumption) (s_lt rfl rfl)) rfl ?_
        refine st (s_assign rfl) rfl ?_
        refine Run.nil ?_
        refine pj_then ?_
        refine J_cond0 rfl ?_
        refine J_seq ?_
        refine J_reg ?_
        refine st (s_move rfl) rfl ?_
        refine st (s_len rfl) rfl ?_
        refine st (sF (by omega) (s_le rfl rfl)) rfl ?_
        refine st (s_assign rfl) rfl ?_
        refine Run.nil ?_
        refine pj_then ?_
        refine J_cond0 rfl ?_
        refine J_seq ?_
        refine J_reg ?_
        refine st (s_move rfl) rfl ?_
        refine st (s_len rfl) rfl ?_
        refine st (sT (by omega) (s_eq rfl rfl)) rfl ?_
        refine st (s_assign rfl) rfl ?_
        refine Run.nil ?_
        refine pj_then ?_
        refine J_cond1 rfl ?_
        refine J_seq ?_
        refine J_reg ?_
        refine st (s_move rfl) rfl ?_
        refine st (s_move rfl) rfl ?_
        refine st (s_indexI rfl rfl (by omega) (by omega)) rfl ?_
        refine st (s_load rfl) rfl ?_
        refine st (s_callk (hsh ) rfl ⟨VT.le_refl _, (one_le (by rw [show (digs b).getD (Int.toNat 0) 0 = b from hb1])), trivial⟩) rfl ?_
        refine st (s_move rfl) rfl ?_
        refine st (s_extract rfl rfl) rfl ?_
        refine st (s_extract rfl rfl) rfl ?_
        refine st (s_assign rfl) rfl ?_
        refine st (s_assign rfl) rfl ?_
        refine Run.nil ?_
        refine pj_then ?_
        refine J_seq ?_
        refine J_reg ?_
        refine st (s_move rfl) rfl ?_
        refine st (s_move rfl) rfl ?_
        refine stS1 rfl rfl rfl rfl ?_
        refine st (s_assign rfl) rfl ?_
        refine st (s_assign rfl) rfl ?_
        refine Run.nil ?_
        refine pj_then ?_
        refine J_ret ?_
        refine pr_block ?_
        refine pr_then ?_
        refine retc2 Try.results98 (.tmp rfl (VT.le_refl _)) (.tmp rfl (one_nat (by omega)))
      · have hdb : digs b ≠ [] := fun h => hb (by rw [← lv_digs b, h]; rfl)
        obtain ⟨k, hk⟩ : ∃ k, (digs b).length = k + 2 := ⟨(digs b).length - 2, by have := List.length_pos_iff.2 hdb; omega⟩
        obtain ⟨e, he⟩ : ∃ e, (digs a).length = k + 2 + e := ⟨(digs a).length - (k + 2), by omega⟩
        have hx := getD_lt (limbs_digs b) ((digs b).length - 1)
        have S0 := shf_of hk
        rw [show k + 1 = (digs b).length - 1 by omega] at S0
        have hlz := LZ32_ok ((digs b).getD ((digs b).length - 1) 0) hx
        generalize 32 - blen ((digs b).getD ((digs b).length - 1) 0) = s at S0 hlz
        have s32 := S0.s32
        have hsv := shiftV_ok (digs b) s (limbs_digs b) (by omega) s32
        have hsu := shift_ok (digs a) s (limbs_digs a) ha s32
        refine J_seq ?_
        refine J_reg ?_
        refine st (s_assign rfl) rfl ?_
        refine st (s_assign rfl) rfl ?_
        refine Run.nil ?_
        refine pj_then ?_
        refine J_seq ?_
        refine J_block ?_
        refine J_seq ?_
        refine J_reg ?_
        refine st (s_move rfl) rfl ?_
        refine st (s_move rfl) rfl ?_
        refine st (s_callk (hcm ) rfl ⟨VT.le_refl _, VT.le_refl _, trivial⟩) rfl ?_
        refine st (sF (by assumption) (s_lt rfl rfl)) rfl ?_
        refine st (s_assign rfl) rfl ?_
        refine Run.nil ?_
        refine pj_then ?_
        refine J_cond0 rfl ?_
        refine J_seq ?_
        refine J_reg ?_
        refine st (s_move rfl) rfl ?_
        refine st (s_len rfl) rfl ?_
        refine st (sF (by omega) (s_le rfl rfl)) rfl ?_
        refine st (s_assign rfl) rfl ?_
        refine Run.nil ?_
        refine pj_then ?_
        refine J_cond0 rfl ?_
        refine J_seq ?_
        refine J_reg ?_
        refine st (s_move rfl) rfl ?_
        refine st (s_len rfl) rfl ?_
        refine st (sF (by omega) (s_eq rfl rfl)) rfl ?_
        refine st (s_assign rfl) rfl ?_
        refine Run.nil ?_
        refine pj_then ?_
        refine J_cond0 rfl ?_
        refine J_skip ?_
        refine pn_block ?_
        refine pj_then ?_
        refine J_seq ?_
        refine J_reg ?_
        refine st (s_move rfl) rfl ?_
        refine st (s_move rfl) rfl ?_
        refine st (s_len rfl) rfl ?_
        refine st (s_subN _ 1 rfl rfl (by omega) (by omega)) rfl ?_
        refine st (s_indexIN rfl rfl (by omega)) rfl ?_
        refine st (s_load rfl) rfl ?_
        refine st (s_callk (hlz ) rfl ⟨VT.le_refl _, trivial⟩) rfl ?_
        refine st (s_move rfl) rfl ?_
        refine st (s_len rfl) rfl ?_
        refine st (s_assign rfl) rfl ?_
        refine st (s_assign rfl) rfl ?_
        refine Run.nil ?_
        refine pj_then ?_
        refine J_seq ?_
        refine J_sub (Γ' := [(0, _), (1, _), (4, _), (5, _), (10, _), (11, _)]) (SubG.cons rfl (VT.le_refl _) (SubG.cons rfl (VT.le_refl _) (SubG.cons rfl (VT.le_refl _) (SubG.cons rfl (VT.le_refl _) (SubG.cons rfl (VT.le_refl _) (SubG.cons rfl (VT.le_refl _) (SubG.nil))))))) (SubM.refl _) ?_
        refine J_regM (σ := ShiftS (digs a) s) 2 (shift0 (digs a) s (limbs_digs a) s32) (fun p => one (slV (some p.1.1) ((digs a).length + 1) ((digs a).length + 1))) (fun p => [sliO (some p.1.1) 84 .one ((digs a).length + 1) ((digs a).length + 1) (limF p.1.2)]) mixed (by kernel_rfl) (by decide) ?_
        refine vx rfl (fun s B => s_move rfl) rfl ?_
        refine vx rfl (fun s B => s_move rfl) rfl ?_
        refine vc rfl hsu (fun s => rfl) ⟨VT.le_refl _, VT.le_refl _, trivial⟩ rfl ?_
        refine vx rfl (fun s B => s_move rfl) rfl ?_
        refine vx rfl (fun s B => s_move rfl) rfl ?_
        refine vx rfl (fun s B => s_callk hsv rfl ⟨VT.le_refl _, VT.le_refl _, trivial⟩) rfl ?_
        refine vx rfl (fun s B => s_move rfl) rfl ?_
        refine vx rfl (fun s B => s_move rfl) rfl ?_
        refine vx rfl (fun s B => s_slice rfl rfl rfl rfl (fun _ => rfl) (by omega) (by omega) (by omega) (by omega)) rfl ?_
        refine vd rfl (by kernel_rfl) (fun s B => s_assign rfl) rfl ?_
        refine vx rfl (fun s B => s_assign rfl) rfl ?_
        refine .nil (fun p => ?_)
        obtain ⟨⟨bu, U⟩, hu1, hu2, hu3⟩ := p
        dsimp only at hu1 hu2 hu3 ⊢
        rw [lv_digs] at hu3
        rw [he] at hu1
        rw [lv_digs, hk, he]
        obtain ⟨z, hz⟩ : ∃ z, z = padL (k + 2 + 1) (b * 2 ^ s) := ⟨_, rfl⟩
        have z1 := padL_len (k + 2 + 1) (b * 2 ^ s)
        have z2 := padL_lim (k + 2 + 1) (b * 2 ^ s)
        have z3 := padL_val (k + 2 + 1) (b * 2 ^ s) (Nat.lt_of_lt_of_le S0.hi (Nat.pow_le_pow_right (by decide) (by omega)))
        rw [← hz] at z1 z2 z3 ⊢
        obtain ⟨v1, v2, v3, v4⟩ := S0.v z2 z1 z3
        refine PJ_sub (Γ' := [(0, slT .one (k + 2 + e) (limF (digs a))), (4, _), (5, _), (10, _), (11, one (.int .i64 ((k + 2 : Nat) : Int))), (12, one (slV (some bu) (k + 2 + e + 1) (k + 2 + e + 1))), (13, limT (z.take (k + 2)))]) (.cons rfl (slT_le' he (fun _ _ => rfl)) (.cons rfl (VT.le_refl _) (.cons rfl (VT.le_refl _) (.cons rfl (VT.le_refl _) (.cons rfl (VT.le_refl _) (.cons rfl (VT.le_refl _) (.cons rfl ?_ .nil))))))) (SubM.refl _) ?_
        · exact slT_le' (by rw [v2]; omega) (fun q hq => take_limF (by omega))
        generalize z.take (k + 2) = v at *
        have hV0 : 0 < b * 2 ^ s := Nat.mul_pos (by omega) (Nat.two_pow_pos s)
        have hVn := S0.hi
        have hA := S0.u he
        refine pj_then ?_
        refine J_seq ?_
        refine J_reg ?_
        refine st (s_move rfl) rfl ?_
        refine st (s_len rfl) rfl ?_
        refine st (s_move rfl) rfl ?_
        refine st (s_subN _ _ rfl rfl (by omega) (by omega)) rfl ?_
        refine st (s_addN _ 1 rfl rfl (by omega)) rfl ?_
        refine a_makeSlice (e + 1) (e + 1) rfl rfl (by omega) (by omega) (Nat.le_refl _) rfl rfl (by omega) rfl rfl (fun bz => ?_)
        refine st (s_assign rfl) rfl ?_
        refine Run.nil ?_
        refine pj_then ?_
        refine J_seq ?_
        refine J_seq ?_
        refine J_reg ?_
        refine st (s_move rfl) rfl ?_
        refine st (s_len rfl) rfl ?_
        refine st (s_move rfl) rfl ?_
        refine st (s_subN _ _ rfl rfl (by omega) (by omega)) rfl ?_
        refine st (s_assign rfl) rfl ?_
        refine Run.nil ?_
        refine pj_then ?_
        refine J_block ?_
        refine J_sub (Γ' := [(4, _), (5, _), (10, _), (11, _), (12, _), (13, _), (14, _), (15, _)]) (SubG.cons rfl (VT.le_refl _) (SubG.cons rfl (VT.le_refl _) (SubG.cons rfl (VT.le_refl _) (SubG.cons rfl (VT.le_refl _) (SubG.cons rfl (VT.le_refl _) (SubG.cons rfl (VT.le_refl _) (SubG.cons rfl (VT.le_refl _) (SubG.cons rfl (VT.le_refl _) (SubG.nil))))))))) (SubM.refl _) ?_
        refine J_loopA (σ := List Nat × List Nat × Nat) (Γk := [(4, _), (5, _), (10, _), (11, _), (12, _), (13, _), (14, _)]) (SubG.cons rfl (VT.le_refl _) (SubG.cons rfl (VT.le_refl _) (SubG.cons rfl (VT.le_refl _) (SubG.cons rfl (VT.le_refl _) (SubG.cons rfl (VT.le_refl _) (SubG.cons rfl (VT.le_refl _) (SubG.cons rfl (VT.le_refl _) (SubG.nil)))))))) (fun p => [(15, one (.int .i64 ((p.2.2 : Nat) - 1 : Int)))]) (fun p M0 => ((M0.set 0 (sliO (some bz) 84 .one (e + 1) (e + 1) (limF p.2.1))).set 1 (sliO (some bu) 84 .one (k + 2 + e + 1) (k + 2 + e + 1) (limF p.1)))) (fun p => DivR (b * 2 ^ s) (a * 2 ^ s) (k + 2) e p) (fun p => p.2.2) ((U, List.replicate (e + 1) 0, e + 1)) (DivR.start hu2 hu1 hu3 hA) (by repeat (first | exact SubG.refl _ | exact SubG.nil | refine SubG.cons rfl (VT.le_refl _) ?_ | (refine SubG.cons rfl (one_le ?_) ?_; (congr 1; first | omega | (simp; omega) | simp)))) (.keep (sliO_eq (fun q _ => by unfold limF; rw [getD_replicate0]; rfl)) (.keep (Own.le_refl _) (.nil))) (fun p hp => ?_)
        refine J_norm (Γ' := [(15, _), (4, _), (5, _), (10, _), (11, _), (12, _), (13, _), (14, _)]) (M' := [_, _]) rfl rfl ?_
        obtain ⟨U1, Q, c⟩ := p
        dsimp only at hp ⊢
        have hu1 : U1.length = k + 2 + e + 1 := hp.lu
        have hq1 : Q.length = e + 1 := hp.lq
        have hcl : c ≤ e + 1 := hp.le
        refine J_seq ?_
        refine J_seq ?_
        refine J_reg ?_
        refine st (s_move rfl) rfl ?_
        refine st (s_ge rfl rfl) rfl ?_
        refine Run.nil ?_
        refine pj_then ?_
        cases c with
        | zero =>
          refine J_condF rfl (by omega) ?_
          refine J_exit ?_
          refine px_then ?_
          refine px_then ?_
          refine px_block ?_
          refine pj_then ?_
          refine J_seq ?_
          refine J_reg ?_
          refine st (s_move rfl) rfl ?_
          obtain ⟨f1, f2⟩ := hp.finish (by omega)
          refine a_makeSlice (k + 2) (k + 2) rfl rfl rfl rfl (Nat.le_refl _) rfl rfl (by omega) rfl rfl (fun br => ?_)
          refine st (s_assign rfl) rfl ?_
          refine Run.nil ?_
          refine pj_then ?_
          refine J_seq ?_
          refine J_seq ?_
          refine J_reg ?_
          refine st (s_move rfl) rfl ?_
          refine st (s_move rfl) rfl ?_
          refine Run.nil ?_
          refine pj_then ?_
          refine J_block ?_
          refine J_sub (Γ' := [(4, _), (5, _), (10, _), (12, _), (14, _), (16, _), (102, _), (103, _)]) (SubG.cons rfl (VT.le_refl _) (SubG.cons rfl (VT.le_refl _) (SubG.cons rfl (VT.le_refl _) (SubG.cons rfl (VT.le_refl _) (SubG.cons rfl (VT.le_refl _) (SubG.cons rfl (VT.le_refl _) (SubG.cons rfl (VT.le_refl _) (SubG.cons rfl (VT.le_refl _) (SubG.nil))))))))) (SubM.refl _) ?_
          refine J_loopA (σ := Nat) (Γk := [(4, _), (5, _), (10, _), (12, _), (14, _), (16, _), (102, _)]) (SubG.cons rfl (VT.le_refl _) (SubG.cons rfl (VT.le_refl _) (SubG.cons rfl (VT.le_refl _) (SubG.cons rfl (VT.le_refl _) (SubG.cons rfl (VT.le_refl _) (SubG.cons rfl (VT.le_refl _) (SubG.cons rfl (VT.le_refl _) (SubG.nil)))))))) (fun i => [(103, one (.int .i64 (i : Nat)))]) (fun i M0 => (M0.set 0 (sliO (some br) 84 .one (k + 2) (k + 2) (fun q => one (.int .u32 ((if q < i then (shrList U1 s (k + 2)).getD q 0 else 0 : Nat) : Int)))))) (fun i => i ≤ k + 2) (fun i => k + 2 - i) (0) (Nat.zero_le _) (by repeat (first | exact SubG.refl _ | exact SubG.nil | refine SubG.cons rfl (VT.le_refl _) ?_ | (refine SubG.cons rfl (one_le ?_) ?_; (congr 1; first | omega | (simp; omega) | simp)))) (.keep (Own.le_refl _) (.keep (Own.le_refl _) (.keep (Own.le_refl _) (.nil)))) (fun i hi => ?_)
          refine J_norm (Γ' := [(103, _), (4, _), (5, _), (10, _), (12, _), (14, _), (16, _), (102, _)]) (M' := [_, _, _]) rfl rfl ?_
          refine J_seq ?_
          refine J_reg ?_
          refine st (s_lt rfl rfl) rfl ?_
          refine Run.nil ?_
          refine pj_then ?_
          refine J_seq ?_
          refine J_if rfl (fun hc => ?_) (fun hc => ?_)
          · have hik : i < k + 2 := by omega
            have g0 := getD_lt (show Limbs U1 from hp.limU) i
            have g1 := getD_lt (show Limbs U1 from hp.limU) (i + 1)
            refine J_skip ?_
            refine pj_then ?_
            refine J_seq ?_
            refine J_block ?_
            refine J_seq ?_
            refine J_reg ?_
            refine st (s_move rfl) rfl ?_
            refine st (s_assign rfl) rfl ?_
            refine Run.nil ?_
            refine pj_then ?_
            refine J_regd 18 mixed (by kernel_rfl) (by decide) ?_
            refine st (s_move rfl) rfl ?_
            refine st (s_move rfl) rfl ?_
            refine st (s_move rfl) rfl ?_
            refine st (s_move rfl) rfl ?_
            refine st (s_addN _ 1 rfl rfl (by omega)) rfl ?_
            refine st (s_indexON rfl rfl (by omega)) rfl ?_
            refine st (s_loadE 2 rfl rfl (by omega)) rfl ?_
            refine st (s_toU64 rfl (by omega)) rfl ?_
            refine st (s_shlU (s := 32) rfl rfl (by omega) (by omega)) rfl ?_
            refine st (s_move rfl) rfl ?_
            refine st (s_move rfl) rfl ?_
            refine st (s_indexON rfl rfl (by omega)) rfl ?_
            refine st (s_loadE 2 rfl rfl (by omega)) rfl ?_
            refine st (s_toU64 rfl (by omega)) rfl ?_
            refine st (s_orHL rfl rfl (by omega) (by omega)) rfl ?_
            refine st (s_move rfl) rfl ?_
            refine st (s_shrU rfl rfl (by (show _ < 64; omega))) rfl ?_
            refine st (s_toU32 rfl) rfl ?_
            refine Run.nil ?_
            refine st (s_indexON rfl rfl (by omega)) rfl ?_
            (refine a_storeE 0 rfl rfl rfl ?_ rfl ?_; omega)
            refine Run.nil ?_
            refine pn_block ?_
            refine pj_then ?_
            refine J_reg ?_
            refine st (s_addN _ 1 rfl rfl (by omega)) rfl ?_
            refine st (s_move rfl) rfl ?_
            refine Run.nil ?_
            refine pj_roundM (i + 1) (by assumption) (by omega) (by repeat (first | exact SubG.refl _ | exact SubG.nil | refine SubG.cons rfl (VT.le_refl _) ?_ | (refine SubG.cons rfl (one_le ?_) ?_; (congr 1; first | omega | (simp; omega) | simp)))) (.keep (shr_upd hik) (.keep (Own.le_refl _) (.keep (Own.le_refl _) (.nil))))
          · have hik : i = k + 2 := by omega
            subst hik
            refine J_exit ?_
            refine px_then ?_
            refine px_then ?_
            refine px_block ?_
            refine pj_then ?_
            refine J_seq ?_
            refine J_reg ?_
            refine st (s_move rfl) rfl ?_
            refine st (s_move rfl) rfl ?_
            refine st (s_assign rfl) rfl ?_
            refine st (s_assign rfl) rfl ?_
            refine Run.nil ?_
            refine pj_then ?_
            refine J_ret ?_
            have hlU : lv U1 < 4294967296 ^ (k + 2) := Nat.lt_trans (show lv (U1.drop 0) < _ from hp.lt) hVn
            have hrv : lv (shrList U1 s (k + 2)) = a % b := by rw [shr_val hp.limU s32 (by dsimp only; omega) hlU, f2, Nat.mul_div_cancel _ (Nat.two_pow_pos s)]
            refine PJ_freeze (t := 5) (i := 0) rfl rfl ?_
            refine PJ_freeze (t := 4) (i := 0) rfl rfl ?_
            refine retc2 Try.results98 (.tmp rfl (VT.le_trans (slT_le' (m := Q.length) (ψ := limF Q) hq1.symm (fun _ _ => rfl)) (natT_of hp.limQ f1))) (.tmp rfl (VT.le_trans (slT_le' (m := (shrList U1 s (k + 2)).length) (ψ := limF (shrList U1 s (k + 2))) (shr_len _ _ _).symm (fun q hq => by rw [if_pos hq])) (natT_of (shr_lim _ _ _) hrv)))
        | succ j =>
          obtain ⟨p1, p2, p3, p4⟩ := hp.pre hVn
          have en : ((j + 1 : Nat) : Int) - 1 = (j : Nat) := by omega
          rw [en]
          refine J_condT rfl (by omega) ?_
          refine J_skip ?_
          refine pj_then ?_
          refine J_seq ?_
          refine J_block ?_
          refine J_reg ?_
          refine st (s_move rfl) rfl ?_
          refine st (s_move rfl) rfl ?_
          refine st (s_move rfl) rfl ?_
          refine st (s_move rfl) rfl ?_
          refine st (s_move rfl) rfl ?_
          refine st (s_move rfl) rfl ?_
          refine st (s_addN _ _ rfl rfl (by omega)) rfl ?_
          refine st (s_addN _ 1 rfl rfl (by omega)) rfl ?_
          refine st (s_sliceW rfl rfl rfl (by omega) (by omega) (by omega)) rfl ?_
          refine st (s_move rfl) rfl ?_
          refine a_callI (Min := [sliO (some bu) 84 .one (k + 2 + e + 1) (k + 2 + e + 1) (limF U1)]) (Kp := [sliO (some bz) 84 .one (e + 1) (e + 1) (limF Q)]) (digit_ok bu (k + 2 + e + 1) j (k + 2 + e + 1 - j) k U1 v hp.limU v1 hu1 (by omega) v2 (by omega) v4 (by rw [v3]; exact p4)) rfl ⟨one_le (by rw [show j + (k + 2) + 1 - j = k + 3 by omega]; rfl), VT.le_refl _, trivial⟩ (List.Perm.swap _ _ _) rfl rfl (fun r => ?_)
          obtain ⟨U2, o1, o2, o3⟩ := r
          dsimp only
          refine Run_perm (List.Perm.swap _ _ _) ?_
          refine st (s_indexON rfl rfl (by omega)) rfl ?_
          (refine a_storeE 0 rfl rfl rfl ?_ rfl ?_; omega)
          refine Run.nil ?_
          refine pn_block ?_
          refine pj_then ?_
          refine J_reg ?_
          refine st (s_move rfl) rfl ?_
          refine st (s_sub rfl rfl (wrap_i64 (by omega) (by omega))) rfl ?_
          refine st (s_assign rfl) rfl ?_
          refine Run.nil ?_
          refine pj_roundM ((U2, Q.set j (lv (win U1 j (k + 3)) / lv v), j)) (hp.step hV0 hVn o1 o2 (by rw [o3, v3]) (by rw [v3])) (by (simp only []; omega)) (by repeat (first | exact SubG.refl _ | exact SubG.nil | refine SubG.cons rfl (VT.le_refl _) ?_ | (refine SubG.cons rfl (one_le ?_) ?_; (congr 1; first | omega | (simp; omega) | simp)))) (.keep (lim_setF (by omega) rfl) (.keep (Own.le_refl _) (.nil)))
end Tor
end
