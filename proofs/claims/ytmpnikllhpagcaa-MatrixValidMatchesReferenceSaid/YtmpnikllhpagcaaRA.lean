/-
  torsionref05: Zero, ValidVec on rows of raw integers.
-/
import Derived.Test.YtmpnikllhpagcaaR9
set_option linter.unusedVariables false
set_option linter.unusedSimpArgs false
namespace Tor
open Go Go.RowKit Go.Proofs
/-- A row of integers with any sign and limbs. -/
def rawVecT (v : List (Bool × List Nat)) : VT := slT (.agg 2) v.length (fun i => rawT (v.getD i (false, [])).1 (v.getD i (false, [])).2)
def rawOf (x : Int) : Bool × List Nat := (decide (x < 0), digs x.natAbs)
theorem vecT_raw (v : List Int) : VT.le (vecT v) (rawVecT (v.map rawOf)) := by
  unfold vecT rawVecT
  refine VT.le_trans (slT_le (ψ := fun i => rawT ((v.map rawOf).getD i (false, [])).1 ((v.map rawOf).getD i (false, [])).2) (fun i hi => ?_)) (by rw [List.length_map]; exact VT.le_refl _)
  simp only [List.getD, List.getElem?_map, List.getElem?_eq_getElem hi, Option.map_some, Option.getD_some]
  exact bigT_raw _
theorem trimmed_last : ∀ {l : List Nat}, Trimmed l → 0 < l.length → l.getD (l.length - 1) 0 ≠ 0
  | [], _, h => absurd h (by decide)
  | [d], h, _ => h
  | _ :: d :: l, h, _ => trimmed_last (l := d :: l) h (by simp)
theorem validI_big (x : Int) : validI (rawOf x).1 (rawOf x).2 = true := by
  unfold validI rawOf
  simp only
  split
  · rename_i h
    have e := List.eq_nil_of_length_eq_zero h
    have : x.natAbs = 0 := by rw [← lv_digs x.natAbs, e]; rfl
    have : ¬ x < 0 := by omega
    simp [this]
  · rename_i h
    have := trimmed_last (trimmed_digs x.natAbs) (by omega)
    simpa using this
theorem sgnI_zero (x : Int) : sgnI x = 0 ↔ x = 0 := by
  unfold sgnI
  constructor
  · intro h; split at h
    · assumption
    · split at h <;> omega
  · intro h; rw [if_pos h]
theorem takeAll {α : Type} {p : α → Bool} {v : List α} {d : α} {i : Nat} (h : (v.take i).all p = true) (hi : i < v.length) (he : p (v.getD i d) = true) : (v.take (i + 1)).all p = true := by
  rw [List.take_add_one, List.all_append, h, List.getElem?_eq_getElem hi]
  simp only [List.getD, List.getElem?_eq_getElem hi, Option.getD_some] at he
  simp [he]
theorem notAll {α : Type} {p : α → Bool} {v : List α} {d : α} {i : Nat} (hi : i < v.length) (he : p (v.getD i d) = false) : v.all p = false := by
  simp only [List.getD, List.getElem?_eq_getElem hi, Option.getD_some] at he
  rw [List.all_eq_false]; exact ⟨_, List.getElem_mem hi, by simp [he]⟩
attribute [local irreducible] Tor.J Tor.PJ Tor.StepO Tor.one Tor.slT Tor.ptrT Tor.aggT Tor.tupT Tor.exT Tor.andT Tor.gT Tor.eP Tor.boxO Tor.sliO Tor.slV Tor.VT.le Tor.Ret Tor.anyT
attribute [local irreducible] bigT rawT
set_option maxHeartbeats 1000000 in
theorem rValidVec_ok (v : List (Bool × List Nat)) (hv : ∀ p ∈ v, p.2.length ≤ 4398046511104) : Ok Try.prog 55 [rawVecT v] (one (.bool (v.all fun p => validI p.1 p.2))) := by
  unfold rawVecT
  refine Ok.enter Try.func55 rfl Try.ntmps55 rfl (fun w O => ?_)
  refine J_fact (t := 0) rfl (fun _ _ => slT_bound) (fun hb => ?_)
  refine J_seq ?_
  refine J_reg ?_
  refine st (s_assign rfl) rfl ?_
  refine Run.nil ?_
  refine pj_then ?_
  refine J_seq ?_
  refine J_seq ?_
  refine J_reg ?_
  refine st (s_assign rfl) rfl ?_
  refine Run.nil ?_
  refine pj_then ?_
  refine J_block ?_
  refine J_loop (σ := Nat) (fun i => [(0, rawVecT v), (3, one (.int .i64 (i : Nat)))]) (fun _ => []) (fun i => i ≤ v.length ∧ (v.take i).all (fun p => validI p.1 p.2) = true) (fun i => v.length - i) 0 ⟨Nat.zero_le _, rfl⟩ (by repeat (first | exact SubG.nil | refine SubG.cons rfl (VT.le_refl _) ?_ | (refine SubG.cons rfl (one_le ?_) ?_; (congr 1; first | omega | (simp; omega) | simp)))) (SubM.refl _) (fun i ⟨hi, ht⟩ => ?_)
  unfold rawVecT
  refine J_seq ?_
  refine J_seq ?_
  refine J_reg ?_
  refine st (s_move rfl) rfl ?_
  refine st (s_move rfl) rfl ?_
  refine st (s_len rfl) rfl ?_
  refine st (s_lt rfl rfl) rfl ?_
  refine Run.nil ?_
  refine pj_then ?_
  refine J_cond rfl (fun hc => ?_) (fun hc => ?_) <;> simp at hc
  · have hm : (v.getD i (false, [])).2.length ≤ 4398046511104 := by
      simp only [List.getD, List.getElem?_eq_getElem hc, Option.getD_some]
      exact hv _ (List.getElem_mem hc)
    refine J_skip ?_
    refine pj_then ?_
    refine J_seq ?_
    refine J_block ?_
    refine J_seq ?_
    refine J_reg ?_
    refine st (s_move rfl) rfl ?_
    refine st (s_move rfl) rfl ?_
    (refine st (s_indexIN rfl rfl ?_) rfl ?_; omega)
    refine st (s_load rfl) rfl ?_
    refine st (s_callk (rValid_ok _ _ hm) rfl ⟨VT.le_refl _, trivial⟩) rfl ?_
    refine st (s_not rfl) rfl ?_
    refine Run.nil ?_
    refine pj_then ?_
    refine J_cond rfl (fun hc2 => ?_) (fun hc2 => ?_)
    · refine J_seq ?_
      refine J_reg ?_
      refine st (s_assign rfl) rfl ?_
      refine Run.nil ?_
      refine pj_then ?_
      refine J_ret ?_
      refine pr_block ?_
      refine pr_then ?_
      refine pr_then ?_
      refine pr_block ?_
      refine pr_then ?_
      refine retc1 Try.results55 (.tmp rfl (one_le ?_))
      rw [notAll (d := (false, [])) hc (by simpa using hc2)]
    · refine J_skip ?_
      refine pn_block ?_
      refine pj_then ?_
      refine J_reg ?_
      refine st (s_move rfl) rfl ?_
      (refine st (s_add rfl rfl (wrap_i64 ?_ ?_)) rfl ?_; omega; omega)
      refine st (s_assign rfl) rfl ?_
      refine Run.nil ?_
      exact pj_round (s := i) (i + 1) ⟨by omega, takeAll (d := (false, [])) ht hc (by simpa using hc2)⟩ (by show v.length - (i + 1) < v.length - i; omega) (by repeat (first | exact SubG.nil | refine SubG.cons rfl (VT.le_refl _) ?_ | (refine SubG.cons rfl (one_le ?_) ?_; (congr 1; first | omega | (simp; omega) | simp)))) (SubM.refl _)
  · refine J_exit ?_
    refine px_then ?_
    refine px_then ?_
    refine px_block ?_
    refine pj_then ?_
    refine J_seq ?_
    refine J_reg ?_
    refine st (s_assign rfl) rfl ?_
    refine Run.nil ?_
    refine pj_then ?_
    refine J_ret ?_
    refine retc1 Try.results55 (.tmp rfl (one_le ?_))
    rw [List.take_of_length_le (by omega)] at ht
    rw [ht]
theorem rZero_ok (v : List Int) : Ok Try.prog 37 [vecT v] (one (.bool (v.all fun x => decide (x = 0)))) := by
  unfold vecT
  refine Ok.enter Try.func37 rfl Try.ntmps37 rfl (fun w O => ?_)
  refine J_fact (t := 0) rfl (fun _ _ => slT_bound) (fun hb => ?_)
  refine J_seq ?_
  refine J_reg ?_
  refine st (s_assign rfl) rfl ?_
  refine Run.nil ?_
  refine pj_then ?_
  refine J_seq ?_
  refine J_seq ?_
  refine J_reg ?_
  refine st (s_assign rfl) rfl ?_
  refine Run.nil ?_
  refine pj_then ?_
  refine J_block ?_
  refine J_loop (σ := Nat) (fun i => [(0, vecT v), (3, one (.int .i64 (i : Nat)))]) (fun _ => []) (fun i => i ≤ v.length ∧ (v.take i).all (fun x => decide (x = 0)) = true) (fun i => v.length - i) 0 ⟨Nat.zero_le _, rfl⟩ (by repeat (first | exact SubG.nil | refine SubG.cons rfl (VT.le_refl _) ?_ | (refine SubG.cons rfl (one_le ?_) ?_; (congr 1; first | omega | (simp; omega) | simp)))) (SubM.refl _) (fun i ⟨hi, ht⟩ => ?_)
  unfold vecT
  refine J_seq ?_
  refine J_seq ?_
  refine J_reg ?_
  refine st (s_move rfl) rfl ?_
  refine st (s_move rfl) rfl ?_
  refine st (s_len rfl) rfl ?_
  refine st (s_lt rfl rfl) rfl ?_
  refine Run.nil ?_
  refine pj_then ?_
  refine J_cond rfl (fun hc => ?_) (fun hc => ?_) <;> simp at hc
  · refine J_skip ?_
    refine pj_then ?_
    refine J_seq ?_
    refine J_block ?_
    refine J_seq ?_
    refine J_reg ?_
    refine st (s_move rfl) rfl ?_
    refine st (s_move rfl) rfl ?_
    (refine st (s_indexIN rfl rfl ?_) rfl ?_; omega)
    refine st (s_load rfl) rfl ?_
    refine st (s_callk (rSign_ok (decide (v.getD i 0 < 0)) (v.getD i 0).natAbs) rfl ⟨bigT_sg _, trivial⟩) rfl ?_
    rw [sv_big]
    refine st (s_ne rfl rfl) rfl ?_
    refine Run.nil ?_
    refine pj_then ?_
    have hs : ∀ x : Int, sgnI x = 0 ↔ x = 0 := sgnI_zero
    refine J_cond rfl (fun hc2 => ?_) (fun hc2 => ?_) <;> simp only [decide_eq_true_eq, decide_eq_false_iff_not, ne_eq, Decidable.not_not, hs] at hc2
    · refine J_seq ?_
      refine J_reg ?_
      refine st (s_assign rfl) rfl ?_
      refine Run.nil ?_
      refine pj_then ?_
      refine J_ret ?_
      refine pr_block ?_
      refine pr_then ?_
      refine pr_then ?_
      refine pr_block ?_
      refine pr_then ?_
      refine retc1 Try.results37 (.tmp rfl (one_le ?_))
      rw [notAll (d := 0) hc (decide_eq_false hc2)]
    · refine J_skip ?_
      refine pn_block ?_
      refine pj_then ?_
      refine J_reg ?_
      refine st (s_move rfl) rfl ?_
      (refine st (s_add rfl rfl (wrap_i64 ?_ ?_)) rfl ?_; omega; omega)
      refine st (s_assign rfl) rfl ?_
      refine Run.nil ?_
      exact pj_round (s := i) (i + 1) ⟨by omega, takeAll (d := 0) ht hc (decide_eq_true hc2)⟩ (by show v.length - (i + 1) < v.length - i; omega) (by repeat (first | exact SubG.nil | refine SubG.cons rfl (VT.le_refl _) ?_ | (refine SubG.cons rfl (one_le ?_) ?_; (congr 1; first | omega | (simp; omega) | simp)))) (SubM.refl _)
  · refine J_exit ?_
    refine px_then ?_
    refine px_then ?_
    refine px_block ?_
    refine pj_then ?_
    refine J_seq ?_
    refine J_reg ?_
    refine st (s_assign rfl) rfl ?_
    refine Run.nil ?_
    refine pj_then ?_
    refine J_ret ?_
    refine retc1 Try.results37 (.tmp rfl (one_le ?_))
    rw [List.take_of_length_le (by omega)] at ht
    rw [ht]
end Tor
