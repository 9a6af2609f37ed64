/-
  Contracts of package integer's functions on limbs.
-/
import Derived.Test.YtmpnikllhpagcaaN1
set_option linter.unusedVariables false
set_option linter.unusedSimpArgs false
namespace Tor
open Go Go.RowKit Go.Proofs

/-- A row of limbs, read-only. -/
abbrev limT (l : List Nat) : VT := slT .one l.length (fun i => one (.int .u32 (l.getD i 0)))
/-- Limbs of a value, perhaps with zeros at the end. -/
def natT (v : Nat) : VT := exT fun l : List Nat => andT (Limbs l ∧ lv l = v) (limT l)
/-- The same, of a modest length. -/
def natS (v : Nat) : VT := exT fun l : List Nat => andT (Limbs l ∧ lv l = v ∧ l.length ≤ 4398046511104) (limT l)
/-- An integer. -/
def bigT (x : Int) : VT := aggT 2 [(0, .one, one (.bool (decide (x < 0)))), (1, .one, limT (digs x.natAbs))]

instance {x : Int} : Flat (bigT x) (.agg 2) := by unfold bigT; infer_instance
theorem natS_of {l : List Nat} {v : Nat} (h : Limbs l) (hv : lv l = v) (hl : l.length ≤ 4398046511104) : VT.le (limT l) (natS v) := le_exT l (le_andT ⟨h, hv, hl⟩ (VT.le_refl _))
theorem natS_T (v : Nat) : VT.le (natS v) (natT v) := exT_le fun l => andT_le fun h => le_exT l (le_andT ⟨h.1, h.2.1⟩ (VT.le_refl _))
theorem natT_of {l : List Nat} {v : Nat} (h : Limbs l) (hv : lv l = v) : VT.le (limT l) (natT v) := le_exT l (le_andT ⟨h, hv⟩ (VT.le_refl _))
theorem natT_digs (n : Nat) : VT.le (limT (digs n)) (natT n) := natT_of (limbs_digs n) (lv_digs n)
theorem limT_eq {l l' : List Nat} (h : l = l') : VT.le (limT l) (limT l') := h ▸ VT.le_refl _

theorem bigT_of {neg : Bool} {v : Nat} (h : v ≠ 0) : VT.le (aggT 2 [(0, .one, one (.bool neg)), (1, .one, limT (digs v))]) (bigT (if neg then -(v : Int) else v)) := by
  refine aggT_le (fun q hq => ?_)
  simp only [List.mem_cons, List.not_mem_nil, or_false] at hq
  rcases hq with rfl | rfl
  · have e : decide ((if neg then -(v : Int) else v) < 0) = neg := by cases neg <;> simp <;> omega
    exact ⟨_, List.mem_cons_self, le_eq (by rw [e])⟩
  · refine ⟨_, List.mem_cons_of_mem _ List.mem_cons_self, limT_eq ?_⟩
    cases neg <;> simp
theorem bigT_zero : VT.le (aggT 2 [(0, .one, one (.bool false)), (1, .one, one (.slice none 0 0))]) (bigT 0) := by
  refine aggT_le (fun q hq => ?_)
  simp only [List.mem_cons, List.not_mem_nil, or_false] at hq
  rcases hq with rfl | rfl
  · exact ⟨_, List.mem_cons_self, le_eq (by simp)⟩
  · exact ⟨_, List.mem_cons_of_mem _ List.mem_cons_self, nil_slT⟩
theorem bigT_eq {x y : Int} (h : x = y) : VT.le (bigT x) (bigT y) := h ▸ VT.le_refl _

attribute [local irreducible] Tor.J Tor.PJ Tor.StepO Tor.one Tor.slT Tor.ptrT Tor.aggT Tor.tupT Tor.exT Tor.andT Tor.gT Tor.eP Tor.boxO Tor.sliO Tor.slV Tor.VT.le Tor.Ret Tor.anyT
theorem trim_ok (v : Nat) : Ok Try.prog 93 [natT v] (limT (digs v)) := by
  refine Ok.enter Try.func93 rfl Try.ntmps93 rfl (fun w O => ?_)
  refine J_ex (t := 0) rfl (fun l => J_and (t := 0) rfl (fun ⟨hL, hv⟩ => J_fact (t := 0) rfl (fun _ _ => slT_bound) (fun hb => ?_)))
  subst hv
  refine J_seq ?_
  refine J_reg ?_
  refine st (s_assign rfl) rfl ?_
  refine Run.nil ?_
  refine pj_then ?_
  refine J_scope ?_
  refine J_seq ?_
  refine J_reg ?_
  refine st (s_move rfl) rfl ?_
  refine st (s_len rfl) rfl ?_
  refine st (s_assign rfl) rfl ?_
  refine Run.nil ?_
  refine pj_then ?_
  refine J_seq ?_
  refine J_label ?_
  refine pj_then ?_
  refine J_seq ?_
  refine J_block ?_
  refine J_loop (σ := Nat) (fun n => [(0, limT l), (3, one (.int .i64 n))]) (fun _ => []) (fun n => n ≤ l.length ∧ trimN l n = trimN l l.length) (fun n => n) l.length ⟨Nat.le_refl _, rfl⟩ (by repeat (first | exact SubG.nil | refine SubG.cons rfl (VT.le_refl _) ?_ | (refine SubG.cons rfl (one_le ?_) ?_; (congr 1; first | omega | (simp; omega) | simp)))) (SubM.refl _) (fun n ⟨hn, ht⟩ => ?_)
  have hd := take_trimN hL
  refine J_seq ?_
  refine J_seq ?_
  refine J_reg ?_
  refine st (s_move rfl) rfl ?_
  refine st (s_gt rfl rfl) rfl ?_
  refine Run.nil ?_
  refine pj_then ?_
  refine J_cond rfl (fun hc => ?_) (fun hc => ?_) <;> simp at hc
  · obtain ⟨n, rfl⟩ : ∃ m, n = m + 1 := ⟨n - 1, by omega⟩
    refine J_skip ?_
    refine pj_then ?_
    refine J_block ?_
    refine J_seq ?_
    refine J_reg ?_
    refine st (s_move rfl) rfl ?_
    refine st (s_move rfl) rfl ?_
    (refine st (s_sub rfl rfl (wrap_i64 ?_ ?_)) rfl ?_; omega; omega)
    (refine st (s_indexI rfl rfl ?_ ?_) rfl ?_; omega; omega)
    refine st (s_load rfl) rfl ?_
    refine Run.nil ?_
    refine pj_then ?_
    refine J_block ?_
    refine J_seq ?_
    refine J_reg ?_
    refine st (s_eq rfl rfl) rfl ?_
    refine st (s_assign rfl) rfl ?_
    refine Run.nil ?_
    refine pj_then ?_
    refine J_cond rfl (fun hc => ?_) (fun hc => ?_) <;> simp at hc
    · refine J_reg ?_
      refine st (s_move rfl) rfl ?_
      (refine st (s_sub rfl rfl (wrap_i64 ?_ ?_)) rfl ?_; omega; omega)
      refine st (s_assign rfl) rfl ?_
      refine Run.nil ?_
      refine pn_block ?_
      refine pn_block ?_
      have h0 : l.getD n 0 = 0 := by simpa using hc
      refine pj_round n ⟨by omega, by rw [← ht, trimN, if_pos h0]⟩ (by omega) (by repeat (first | exact SubG.nil | refine SubG.cons rfl (VT.le_refl _) ?_ | (refine SubG.cons rfl (one_le ?_) ?_; (congr 1; first | omega | (simp; omega) | simp)))) (SubM.refl _)
    · refine J_exit ?_
      refine px_block_ne rfl ?_
      refine px_block_ne rfl ?_
      refine px_then ?_
      refine px_block ?_
      refine pj_then ?_
      refine J_seq ?_
      refine J_reg ?_
      refine st (s_move rfl) rfl ?_
      refine st (s_move rfl) rfl ?_
      refine st (s_move rfl) rfl ?_
      (refine st (s_slice rfl rfl rfl rfl (fun _ => rfl) ?_ ?_ ?_ ?_) rfl ?_; omega; omega; omega; omega)
      refine st (s_assign rfl) rfl ?_
      refine Run.nil ?_
      refine pj_then ?_
      refine J_ret ?_
      refine pr_scope ?_
      have h0 : ¬ l.getD n 0 = 0 := by simpa using hc
      rw [← ht, trimN, if_neg h0] at hd
      refine retc1 Try.results93 (.tmp rfl (VT.le_trans (slT_le' ?_ ?_) (limT_eq hd)))
      · simp; omega
      · intro i hi; simp at hi ⊢; rw [List.getElem?_take_of_lt (by omega)]
  · subst hc
    refine J_exit ?_
    refine px_then ?_
    refine px_then ?_
    refine px_block ?_
    refine pj_then ?_
    refine J_seq ?_
    refine J_reg ?_
    refine st (s_move rfl) rfl ?_
    refine st (s_move rfl) rfl ?_
    refine st (s_move rfl) rfl ?_
    (refine st (s_slice rfl rfl rfl rfl (fun _ => rfl) ?_ ?_ ?_ ?_) rfl ?_; omega; omega; omega; omega)
    refine st (s_assign rfl) rfl ?_
    refine Run.nil ?_
    refine pj_then ?_
    refine J_ret ?_
    refine pr_scope ?_
    rw [← ht, trimN] at hd
    refine retc1 Try.results93 (.tmp rfl (VT.le_trans (slT_le' ?_ ?_) (limT_eq hd)))
    · simp
    · intro i hi; simp at hi
end Tor
