/-
  torsionref05: Ints.
-/
import Derived.Test.YtmpnikllhpagcaaM2
set_option linter.unusedVariables false
set_option linter.unusedSimpArgs false
namespace Tor
open Go Go.RowKit Go.Proofs
/-- A list of numbers of one kind. -/
def numT (k : IntKind) (l : List Int) : VT := slT .one l.length (fun i => one (.int k (l.getD i 0)))
theorem sv_some {sv : Option Nat} {r : Nat} (h : sv = none → r = 0) (hr : 0 < r) : ∃ b, sv = some b := by
  cases sv with
  | none => have := h rfl; omega
  | some b => exact ⟨b, rfl⟩
theorem toNat_mul_add (i c j : Nat) : ((i : Int) * c + j).toNat = i * c + j := by
  have : ((i : Int) * c + j) = ((i * c + j : Nat) : Int) := by simp
  rw [this, Int.toNat_natCast]
/-- What is filled in up to the place (i, j). -/
def fillF (f : Nat → Int) (c i j : Nat) : Nat → Nat → Int := fun q k => if q < i ∨ (q = i ∧ k < j) then f (q * c + k) else 0
theorem getD_mem {l : List Int} {i : Nat} {p : Int → Prop} (h : ∀ x ∈ l, p x) (h0 : p 0) : p (l.getD i 0) := by
  rcases Nat.lt_or_ge i l.length with hi | hi
  · simp only [List.getD, List.getElem?_eq_getElem hi, Option.getD_some]; exact h _ (List.getElem_mem hi)
  · simp only [List.getD, List.getElem?_eq_none hi, Option.getD_none]; exact h0
theorem upd_fill {T : TypeId} {c : Nat} {bs : List Nat} {f : Nat → Int} {i j : Nat} (x : Int) (hx : x = f (i * c + j)) :
    Own.le (rowsO T (.agg 2) c bs (upd2 (fun q k => bigT (fillF f c i j q k)) i j (bigT x))) (rowsO T (.agg 2) c bs (fun q k => bigT (fillF f c i (j + 1) q k))) := by
  subst hx
  refine rowsO_eq fun q k hq hk => ?_
  unfold upd2 fillF
  by_cases h : q = i ∧ k = j
  · obtain ⟨rfl, rfl⟩ := h; simp
  · rw [if_neg h]
    have e : (q < i ∨ q = i ∧ k < j + 1) ↔ (q < i ∨ q = i ∧ k < j) := by omega
    simp only [e]
attribute [local irreducible] Tor.J Tor.PJ Tor.StepO Tor.one Tor.slT Tor.ptrT Tor.aggT Tor.tupT Tor.exT Tor.andT Tor.gT Tor.eP Tor.boxO Tor.sliO Tor.slV Tor.VT.le Tor.Ret Tor.anyT
attribute [local irreducible] bigT Tor.rowsO
set_option maxHeartbeats 2000000 in
theorem rInts_ok (r c : Nat) (l : List Int) (hr0 : r ≤ 1048576) (hc0 : c ≤ 1048576) (hl : ∀ x ∈ l, -9223372036854775808 ≤ x ∧ x ≤ 9223372036854775807) : Ok Try.prog 52 [one (.int .i64 r), one (.int .i64 c), numT .i64 l] (matF r c (fun i j => l.getD (i * c + j) 0)) := by
  unfold numT
  refine Ok.enter Try.func52 rfl Try.ntmps52 rfl (fun w O => ?_)
  refine J_seq ?_
  refine J_reg ?_
  refine a_allocS (T := 33) rfl rfl rfl (fun b => ?_)
  refine Run.nil ?_
  refine pj_then ?_
  refine J_seq ?_
  refine J_reg ?_
  refine st (s_move rfl) rfl ?_
  refine st (s_move rfl) rfl ?_
  refine a_callM (rNew_ok r c hr0 hc0) rfl ⟨VT.le_refl _, VT.le_refl _, trivial⟩ rfl rfl (fun s => ?_)
  obtain ⟨⟨bs, sv1, cap1⟩, hlen, hsv⟩ := s
  simp only at hlen hsv
  unfold newT
  refine a_allocS (T := 33) rfl rfl rfl (fun b => ?_)
  refine a_storeW 0 rfl rfl rfl rfl ?_
  refine Run.nil ?_
  refine pj_then ?_
  refine J_seq ?_
  refine J_seq ?_
  refine J_reg ?_
  refine st (s_assign rfl) rfl ?_
  refine Run.nil ?_
  refine pj_then ?_
  refine J_block ?_
  rename_i b2
  refine J_loop (σ := Nat) (fun i => [(0, one (.int .i64 r)), (1, one (.int .i64 c)), (2, slT .one l.length (fun i => one (.int .i64 (l.getD i 0)))), (6, one (.pointer (some ⟨b2, 0, none⟩))), (7, one (.pointer (some ⟨b, 0, none⟩))), (8, one (.int .i64 (i : Nat)))])
    (fun i => [boxO b 33 3 [(0, .one, one (.int .i64 r)), (1, .one, one (.int .i64 c)), (2, .one, one (slV sv1 r cap1))], outO sv1 cap1 r c bs, ownR c bs (fillF (fun n => l.getD n 0) c i 0),
      boxO b2 33 3 (zeroC #[Value.int IntKind.i64 0, Value.int IntKind.i64 0, Value.slice none 0 0] [(0, Lay.one), (1, Lay.one), (2, Lay.one)])])
    (fun i => i ≤ r) (fun i => r - i) 0 (Nat.zero_le _) (by repeat (first | exact SubG.nil | refine SubG.cons rfl (VT.le_refl _) ?_ | (refine SubG.cons rfl (one_le ?_) ?_; (congr 1; first | omega | (simp; omega) | simp)))) (.keep (Own.le_refl _) (.keep (Own.le_refl _) (.keep (ownR_le fun i j hi hj => by simp [fillF]) (SubM.refl _)))) (fun i hi => ?_)
  refine J_seq ?_
  refine J_seq ?_
  refine J_reg ?_
  refine st (s_move rfl) rfl ?_
  refine st (s_move rfl) rfl ?_
  refine st (s_lt rfl rfl) rfl ?_
  refine Run.nil ?_
  refine pj_then ?_
  refine J_cond rfl (fun hc => ?_) (fun hc => ?_) <;> simp at hc
  · have hir : i < r := by omega
    obtain ⟨bo, rfl⟩ := sv_some hsv (by omega)
    refine J_skip ?_
    refine pj_then ?_
    refine J_seq ?_
    refine J_block ?_
    refine J_seq ?_
    refine J_reg ?_
    refine st (s_assign rfl) rfl ?_
    refine Run.nil ?_
    refine pj_then ?_
    refine J_block ?_
    refine J_loop (σ := Nat) (fun j => [(0, one (.int .i64 r)), (1, one (.int .i64 c)), (2, slT .one l.length (fun i => one (.int .i64 (l.getD i 0)))), (6, one (.pointer (some ⟨b2, 0, none⟩))), (7, one (.pointer (some ⟨b, 0, none⟩))), (8, one (.int .i64 (i : Nat))), (9, one (.int .i64 (j : Nat)))])
      (fun j => [boxO b 33 3 [(0, .one, one (.int .i64 r)), (1, .one, one (.int .i64 c)), (2, .one, one (slV (some bo) r cap1))], outO (some bo) cap1 r c bs, ownR c bs (fillF (fun n => l.getD n 0) c i j),
      boxO b2 33 3 (zeroC #[Value.int IntKind.i64 0, Value.int IntKind.i64 0, Value.slice none 0 0] [(0, Lay.one), (1, Lay.one), (2, Lay.one)])])
      (fun j => j ≤ c) (fun j => c - j) 0 (Nat.zero_le _) (by repeat (first | exact SubG.nil | refine SubG.cons rfl (VT.le_refl _) ?_ | (refine SubG.cons rfl (one_le ?_) ?_; (congr 1; first | omega | (simp; omega) | simp)))) (SubM.refl _) (fun j hj => ?_)
    have hm : i * c ≤ 1048576 * 1048576 := Nat.mul_le_mul (by omega) hc0
    have hm2 : (i : Int) * c ≤ 1099511627776 := by omega
    have hm3 : 0 ≤ (i : Int) * c := by have := Nat.zero_le (i * c); omega
    refine J_seq (J_seq ?_)
    refine J_join (σ := Unit) (fun _ => [(0, one (.int .i64 r)), (1, one (.int .i64 c)), (2, slT .one l.length (fun i => one (.int .i64 (l.getD i 0)))), (6, one (.pointer (some ⟨b2, 0, none⟩))), (7, one (.pointer (some ⟨b, 0, none⟩))), (8, one (.int .i64 (i : Nat))), (9, one (.int .i64 (j : Nat))), (30, one (.bool (decide (j < c ∧ i * c + j < l.length))))])
      (fun _ => [boxO b 33 3 [(0, .one, one (.int .i64 r)), (1, .one, one (.int .i64 c)), (2, .one, one (slV (some bo) r cap1))], outO (some bo) cap1 r c bs, ownR c bs (fillF (fun n => l.getD n 0) c i j),
      boxO b2 33 3 (zeroC #[Value.int IntKind.i64 0, Value.int IntKind.i64 0, Value.slice none 0 0] [(0, Lay.one), (1, Lay.one), (2, Lay.one)])]) (fun _ => True) ?_ (fun _ _ => ?_)
    · refine J_reg ?_
      refine st (s_move rfl) rfl ?_
      refine st (s_move rfl) rfl ?_
      refine st (s_lt rfl rfl) rfl ?_
      refine st (s_move rfl) rfl ?_
      refine bsel (t := 21) rfl (fun b h1 => ?_)
      rw [h1]
      cases b
      · simp at h1
        refine sg0 rfl rfl rfl rfl ?_
        refine sg0 rfl rfl rfl rfl ?_
        refine sg0 rfl rfl rfl rfl ?_
        refine sg0 rfl rfl rfl rfl ?_
        refine sg0 rfl rfl rfl rfl ?_
        refine sg0 rfl rfl rfl rfl ?_
        refine sg0 rfl rfl rfl rfl ?_
        refine sg0 rfl rfl rfl rfl ?_
        refine st (s_pickF rfl rfl) rfl ?_
        refine Run.nil ?_
        refine pj_cut () trivial (.cons rfl (VT.le_refl _) (.cons rfl (VT.le_refl _) (.cons rfl (VT.le_refl _) (.cons rfl (VT.le_refl _) (.cons rfl (VT.le_refl _) (.cons rfl (VT.le_refl _) (.cons rfl (VT.le_refl _) (.cons rfl (one_le ?_) .nil)))))))) (SubM.refl _)
        congr 1; symm; rw [decide_eq_false_iff_not]; omega
      · simp at h1
        refine sg1 rfl rfl (s_move rfl) rfl ?_
        refine sg1 rfl rfl (s_move rfl) rfl ?_
        (refine sg1 rfl rfl (s_mul rfl rfl (wrap_i64 ?_ ?_)) rfl ?_; omega; omega)
        refine sg1 rfl rfl (s_move rfl) rfl ?_
        (refine sg1 rfl rfl (s_add rfl rfl (wrap_i64 ?_ ?_)) rfl ?_; omega; omega)
        refine sg1 rfl rfl (s_move rfl) rfl ?_
        refine sg1 rfl rfl (s_len rfl) rfl ?_
        refine sg1 rfl rfl (s_lt rfl rfl) rfl ?_
        refine st (s_pickT rfl rfl) rfl ?_
        refine Run.nil ?_
        refine pj_cut () trivial (.cons rfl (VT.le_refl _) (.cons rfl (VT.le_refl _) (.cons rfl (VT.le_refl _) (.cons rfl (VT.le_refl _) (.cons rfl (VT.le_refl _) (.cons rfl (VT.le_refl _) (.cons rfl (VT.le_refl _) (.cons rfl (one_le ?_) .nil)))))))) (SubM.refl _)
        congr 1; rw [decide_eq_decide]
        have : ((i * c : Nat) : Int) = (i : Int) * c := by simp
        omega
    · refine pj_then ?_
      refine J_cond rfl (fun hc2 => ?_) (fun hc2 => ?_) <;> simp only [decide_eq_true_eq, decide_eq_false_iff_not] at hc2
      · have hm4 : ((i * c : Nat) : Int) = (i : Int) * c := by simp
        refine J_skip ?_
        refine pj_then ?_
        refine J_seq ?_
        refine J_block ?_
        refine J_regd 16 mixed (by kernel_rfl) (by decide) ?_
        refine st (s_fieldAddr rfl) rfl ?_
        refine st (s_loadB 0 rfl rfl rfl) rfl ?_
        refine st (s_move rfl) rfl ?_
        (refine st (s_indexON rfl rfl ?_) rfl ?_; omega)
        (refine st (s_loadE 1 rfl rfl ?_) rfl ?_; omega)
        refine st (s_move rfl) rfl ?_
        refine st (s_move rfl) rfl ?_
        refine st (s_move rfl) rfl ?_
        refine st (s_move rfl) rfl ?_
        (refine st (s_mul rfl rfl (wrap_i64 ?_ ?_)) rfl ?_; omega; omega)
        refine st (s_move rfl) rfl ?_
        (refine st (s_add rfl rfl (wrap_i64 ?_ ?_)) rfl ?_; omega; omega)
        (refine st (s_indexIN rfl rfl ?_) rfl ?_; omega)
        refine st (s_load rfl) rfl ?_
        have hv := getD_mem (i := ((i : Int) * c + j).toNat) hl (by decide)
        refine st (s_callk (rOf_ok _ hv.1 hv.2) rfl ⟨VT.le_refl _, trivial⟩) rfl ?_
        (refine st (s_indexON rfl rfl ?_) rfl ?_; omega)
        refine Run.nil ?_
        (refine a_storeR 2 rfl rfl rfl (getq ?_) ?_ rfl ?_; omega; omega)
        refine Run.nil ?_
        refine pn_block ?_
        refine pj_then ?_
        refine J_reg ?_
        refine st (s_move rfl) rfl ?_
        (refine st (s_add rfl rfl (wrap_i64 ?_ ?_)) rfl ?_; omega; omega)
        refine st (s_assign rfl) rfl ?_
        refine Run.nil ?_
        refine pj_round (s := j) (j + 1) (show _ from by omega) (by omega) (by repeat (first | exact SubG.nil | refine SubG.cons rfl (VT.le_refl _) ?_ | (refine SubG.cons rfl (one_le ?_) ?_; (congr 1; first | omega | (simp; omega) | simp)))) (.keep (Own.le_refl _) (.keep (Own.le_refl _) (.keep (upd_fill _ (by rw [toNat_mul_add])) (SubM.refl _))))
      · refine J_exit ?_
        refine px_then ?_
        refine px_then ?_
        refine px_block ?_
        refine pn_block ?_
        refine pj_then ?_
        refine J_reg ?_
        refine st (s_move rfl) rfl ?_
        (refine st (s_add rfl rfl (wrap_i64 ?_ ?_)) rfl ?_; omega; omega)
        refine st (s_assign rfl) rfl ?_
        refine Run.nil ?_
        refine pj_round (s := i) (i + 1) (show _ from by omega) (by omega) (by repeat (first | exact SubG.nil | refine SubG.cons rfl (VT.le_refl _) ?_ | (refine SubG.cons rfl (one_le ?_) ?_; (congr 1; first | omega | (simp; omega) | simp)))) (.keep (Own.le_refl _) (.keep (Own.le_refl _) (.keep (ownR_le fun q k hq hk => ?_) (SubM.refl _))))
        unfold fillF
        by_cases h : q < i ∨ (q = i ∧ k < j)
        · rw [if_pos h, if_pos (by omega)]
        · rw [if_neg h]
          by_cases h2 : q = i
          · subst h2; rw [if_pos (by omega)]
            have : l.length ≤ q * c + k := by omega
            simp [List.getD, List.getElem?_eq_none this]
          · rw [if_neg (by omega)]
  · have hin : i = r := by omega
    subst hin
    refine J_exit ?_
    refine px_then ?_
    refine px_then ?_
    refine px_block ?_
    refine pj_then ?_
    refine J_seq ?_
    refine J_reg ?_
    refine st (s_loadW 0 rfl rfl) rfl ?_
    refine a_storeW 3 rfl rfl rfl rfl ?_
    refine Run.nil ?_
    refine pj_then ?_
    refine J_ret ?_
    have hperm : ∀ (x y z u : Own), [x, y, z, u].Perm ([y, z] ++ [x, u]) := fun x y z u => (List.Perm.swap y x _).trans (List.Perm.cons y (List.Perm.swap z x _))
    refine PJ_open [outO sv1 cap1 i c bs, ownR c bs (fillF (fun n => l.getD n 0) c i 0)] (hperm _ _ _ _) (.keep (EntO.refl _) (.keep (EntO.box (newT_open hlen ⟨by simp, by simp, by simp⟩)) .nil)) (EntG.refl _) ?_
    refine retc1 Try.results52 (.cellW 1 rfl rfl ?_)
    exact matF_le fun a b ha hb => by simp [fillF, ha]
end Tor
