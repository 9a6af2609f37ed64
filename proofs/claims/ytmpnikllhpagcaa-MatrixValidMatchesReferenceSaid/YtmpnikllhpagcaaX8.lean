/-
  package matrix: Pick.
-/
import Derived.Test.YtmpnikllhpagcaaX7
set_option linter.unusedVariables false
set_option linter.unusedSimpArgs false
namespace Tor
open Go Go.RowKit Go.Proofs
/-- Some index is negative or not below n. -/
def outs (n : Nat) (l : List Int) : Bool := l.any fun x => decide (x < 0 ∨ (n : Int) ≤ x)
theorem outs_at {n : Nat} {l : List Int} (h : outs n l = false) {i : Nat} (hi : i < l.length) : 0 ≤ l.getD i 0 ∧ l.getD i 0 < n := by
  have := List.any_eq_false.1 h (l.getD i 0) (by simp only [List.getD, List.getElem?_eq_getElem hi, Option.getD_some]; exact List.getElem_mem hi)
  simp only [decide_eq_true_eq] at this; omega
/-- The picked elements. -/
def pickF (l m : List Int) (F : Nat → Nat → Int) : Nat → Nat → Int := fun i j => F (l.getD i 0).toNat (m.getD j 0).toNat
theorem getD_cast {l : List Int} {n i : Nat} (h : outs n l = false) (hi : i < l.length) : ∃ k : Nat, k < n ∧ l.getD i 0 = (k : Int) := ⟨(l.getD i 0).toNat, by have := outs_at h hi; omega, by have := outs_at h hi; omega⟩
/-- What is filled in up to the place (i, j), row by row. -/
def fill2 (F : Nat → Nat → Int) (i j : Nat) : Nat → Nat → Int := fun q k => if q < i ∨ (q = i ∧ k < j) then F q k else 0
theorem upd_fill2 {T : TypeId} {c : Nat} {bs : List Nat} {F : Nat → Nat → Int} {i j : Nat} (x : Int) (hx : x = F i j) :
    Own.le (rowsO T (.agg 2) c bs (upd2 (fun q k => bigT (fill2 F i j q k)) i j (bigT x))) (rowsO T (.agg 2) c bs (fun q k => bigT (fill2 F i (j + 1) q k))) := by
  subst hx
  refine rowsO_eq fun q k hq hk => ?_
  unfold upd2 fill2
  by_cases h : q = i ∧ k = j
  · obtain ⟨rfl, rfl⟩ := h; simp
  · rw [if_neg h]
    have e : (q < i ∨ q = i ∧ k < j + 1) ↔ (q < i ∨ q = i ∧ k < j) := by omega
    simp only [e]
theorem next_fill2 {c : Nat} {bs : List Nat} {F : Nat → Nat → Int} {i : Nat} : Own.le (ownR c bs (fill2 F i c)) (ownR c bs (fill2 F (i + 1) 0)) := by
  refine ownR_le fun q k hq hk => ?_
  unfold fill2
  have e : (q < i ∨ q = i ∧ k < c) ↔ (q < i + 1 ∨ q = i + 1 ∧ k < 0) := by omega
  simp only [e]
attribute [local irreducible] Tor.J Tor.PJ Tor.StepO Tor.one Tor.slT Tor.ptrT Tor.aggT Tor.tupT Tor.exT Tor.andT Tor.gT Tor.eP Tor.boxO Tor.sliO Tor.slV Tor.VT.le Tor.Ret Tor.anyT
attribute [local irreducible] bigT Tor.rowsO
set_option maxHeartbeats 8000000 in
theorem Pick_ok (r c : Nat) (F : Nat → Nat → Int) (l m : List Int) (hl : l.length ≤ 1048576) (hm : m.length ≤ 1048576) (hF : ∀ i j, small (F i j)) :
    Ok Try.prog 25 [matF r c F, numT .i64 l, numT .i64 m] (resT (!(outs r l || outs c m)) 1 l.length m.length (pickF l m F)) := by
  unfold resT matF numT
  refine Ok.enter Try.func25 rfl Try.ntmps25 rfl (fun w O => ?_)
  have hcl : ∀ (n : Nat) (l : List Int), ∀ x ∈ l, Callable Try.prog (cloT 63 [capT (n : Int)]) [one (.int .i64 x)] (one (.bool (decide (x < 0 ∨ (n : Int) ≤ x)))) := fun n l x hx => Callable.clo (Pick11_ok x n)
  have hcont : ∀ (n : Nat) (l : List Int), Ok Try.prog 64 [slT .one l.length (fun i => one (.int .i64 (l.getD i 0))), cloT 63 [capT (n : Int)]] (one (.bool (outs n l))) := fun n l => ContainsFunc_ok l _ _ (hcl n l)
  refine J_seq ?_
  refine J_reg ?_
  refine a_boxS rfl rfl (ltN rfl) (fun b => ?_)
  refine a_allocS (T := 33) rfl rfl rfl (fun b => ?_)
  refine st (s_assign rfl) rfl ?_
  refine Run.nil ?_
  refine pj_then ?_
  refine J_seq ?_
  refine J_reg ?_
  refine st (s_assign rfl) rfl ?_
  refine Run.nil ?_
  refine pj_then ?_
  refine J_seq ?_
  refine J_seq ?_
  refine J_reg ?_
  refine st (s_loadW 1 rfl rfl) rfl ?_
  rename_i ba
  refine st (s_callk (matValidF_ok r c F) rfl ⟨VT.le_refl _, trivial⟩) rfl ?_
  refine st (s_not rfl) rfl ?_
  refine st (s_move rfl) rfl ?_
  refine sg1 rfl rfl (s_move rfl) rfl ?_
  refine sg1 rfl rfl (s_move rfl) rfl ?_
  refine sg1 rfl rfl (s_fieldAddr rfl) rfl ?_
  refine sg1 rfl rfl (s_loadB 1 rfl rfl rfl) rfl ?_
  refine sg1 rfl rfl (s_callF (Callable.fn (Pick1_ok (r : Int))) rfl rfl ⟨VT.le_refl _, trivial⟩) rfl ?_
  refine sg1 rfl rfl (s_callk (hcont r l) rfl ⟨VT.le_refl _, VT.le_refl _, trivial⟩) rfl ?_
  refine st (s_pickF rfl rfl) rfl ?_
  refine st (s_move rfl) rfl ?_
  refine bsel (t := 25) rfl (fun o1 h1 => ?_)
  rw [h1]
  cases o1
  · refine sg1 rfl rfl (s_move rfl) rfl ?_
    refine sg1 rfl rfl (s_move rfl) rfl ?_
    refine sg1 rfl rfl (s_fieldAddr rfl) rfl ?_
    refine sg1 rfl rfl (s_loadB 1 rfl rfl rfl) rfl ?_
    refine sg1 rfl rfl (s_callF (Callable.fn (Pick1_ok (c : Int))) rfl rfl ⟨VT.le_refl _, trivial⟩) rfl ?_
    refine sg1 rfl rfl (s_callk (hcont c m) rfl ⟨VT.le_refl _, VT.le_refl _, trivial⟩) rfl ?_
    refine st (s_pickF rfl rfl) rfl ?_
    refine Run.nil ?_
    refine pj_then ?_
    refine J_cond rfl (fun h2 => ?_) (fun h2 => ?_)
    · refine J_seq ?_
      refine J_reg ?_
      refine stB rfl rfl rfl ?_
      refine BuildK.nil ?_
      refine a_storeW 0 rfl rfl rfl rfl ?_
      refine st (s_assign rfl) rfl ?_
      refine Run.nil ?_
      refine pj_then ?_
      refine J_ret ?_
      refine pr_then ?_
      refine retc2 Try.results25 (.cellW 0 rfl rfl ?_) (.tmp rfl (one_le ?_))
      · rw [h2]; simp only [Bool.or_true, Bool.not_true, Bool.false_eq_true, if_false]; exact zero_mat _
      · rw [h2]; simp
    · refine J_skip ?_
      refine pj_then ?_
      refine J_seq ?_
      refine J_reg ?_
      refine st (s_move rfl) rfl ?_
      refine st (s_len rfl) rfl ?_
      refine st (s_move rfl) rfl ?_
      refine st (s_len rfl) rfl ?_
      refine a_callM (New_ok l.length m.length hl hm) rfl ⟨VT.le_refl _, VT.le_refl _, trivial⟩ rfl rfl (fun s => ?_)
      obtain ⟨⟨bs, sv1, cap1⟩, hlen, hsv⟩ := s
      simp only at hlen hsv
      unfold newT
      refine a_allocS (T := 33) rfl rfl rfl (fun b => ?_)
      refine a_storeW 0 rfl rfl rfl rfl ?_
      refine Run.nil ?_
      refine pj_then ?_
      refine J_seq ?_
      refine J_seq ?_
      refine J_reg ?_
      refine st (s_move rfl) rfl ?_
      refine st (s_len rfl) rfl ?_
      refine st (s_move rfl) rfl ?_
      refine Run.nil ?_
      refine pj_then ?_
      refine J_block ?_
      rename_i b6
      refine J_loop (σ := Nat) (fun i => [(2, slT .one m.length (fun i => one (.int .i64 (m.getD i 0)))), (3, one (.pointer (some ⟨ba, 0, none⟩))), (6, one (.pointer (some ⟨b6, 0, none⟩))), (9, one (.pointer (some ⟨b, 0, none⟩))), (39, slT .one l.length (fun i => one (.int .i64 (l.getD i 0)))), (40, one (.int .i64 l.length)), (41, one (.int .i64 (i : Nat)))])
        (fun i => [boxO b 33 3 [(0, .one, one (.int .i64 l.length)), (1, .one, one (.int .i64 m.length)), (2, .one, one (slV sv1 l.length cap1))], outO sv1 cap1 l.length m.length bs, ownR m.length bs (fill2 (pickF l m F) i 0),
          boxO b6 33 3 (zeroC #[Value.int IntKind.i64 0, Value.int IntKind.i64 0, Value.slice none 0 0] [(0, Lay.one), (1, Lay.one), (2, Lay.one)]),
          boxO ba 33 3 [(0, .one, one (.int .i64 r)), (1, .one, one (.int .i64 c)), (2, .one, slT .one r (fun i => rowF c (F i)))]])
        (fun i => i ≤ l.length) (fun i => l.length - i) 0 (Nat.zero_le _) (by repeat (first | exact SubG.nil | refine SubG.cons rfl (VT.le_refl _) ?_ | (refine SubG.cons rfl (one_le ?_) ?_; (congr 1; first | omega | (simp; omega) | simp)))) (.keep (Own.le_refl _) (.keep (Own.le_refl _) (.keep (ownR_le fun i j hi hj => by simp [fill2]) (SubM.refl _)))) (fun i hi => ?_)
      refine J_seq ?_
      refine J_reg ?_
      refine st (s_lt rfl rfl) rfl ?_
      refine Run.nil ?_
      refine pj_then ?_
      refine J_seq ?_
      refine J_cond rfl (fun hc => ?_) (fun hc => ?_) <;> simp only [decide_eq_true_eq, decide_eq_false_iff_not, Int.ofNat_lt] at hc
      · obtain ⟨bo, rfl⟩ := sv_some hsv (by omega)
        obtain ⟨x, hx, ex⟩ := getD_cast h1 hc
        refine J_skip ?_
        refine pj_then ?_
        refine J_seq ?_
        refine J_block ?_
        refine J_seq ?_
        refine J_reg ?_
        refine st (s_move rfl) rfl ?_
        (refine st (s_indexIN rfl rfl ?_) rfl ?_; omega)
        refine st (s_load rfl) rfl ?_
        refine st (s_assign rfl) rfl ?_
        refine st (s_assign rfl) rfl ?_
        refine Run.nil ?_
        refine pj_then ?_
        refine J_seq ?_
        refine J_reg ?_
        refine st (s_move rfl) rfl ?_
        refine st (s_len rfl) rfl ?_
        refine st (s_move rfl) rfl ?_
        refine Run.nil ?_
        refine pj_then ?_
        refine J_block ?_
        rw [ex]
        skip
        refine J_loop (σ := Nat) (fun j => [(2, slT .one m.length (fun i => one (.int .i64 (m.getD i 0)))), (3, one (.pointer (some ⟨ba, 0, none⟩))), (6, one (.pointer (some ⟨b6, 0, none⟩))), (9, one (.pointer (some ⟨b, 0, none⟩))), (10, one (.int .i64 (i : Nat))), (11, one (.int .i64 (x : Nat))), (39, slT .one l.length (fun i => one (.int .i64 (l.getD i 0)))), (40, one (.int .i64 l.length)), (41, one (.int .i64 (i : Nat))), (46, slT .one m.length (fun i => one (.int .i64 (m.getD i 0)))), (47, one (.int .i64 m.length)), (48, one (.int .i64 (j : Nat)))])
          (fun j => [boxO b 33 3 [(0, .one, one (.int .i64 l.length)), (1, .one, one (.int .i64 m.length)), (2, .one, one (slV (some bo) l.length cap1))], outO (some bo) cap1 l.length m.length bs, ownR m.length bs (fill2 (pickF l m F) i j),
          boxO b6 33 3 (zeroC #[Value.int IntKind.i64 0, Value.int IntKind.i64 0, Value.slice none 0 0] [(0, Lay.one), (1, Lay.one), (2, Lay.one)]),
          boxO ba 33 3 [(0, .one, one (.int .i64 r)), (1, .one, one (.int .i64 c)), (2, .one, slT .one r (fun i => rowF c (F i)))]])
          (fun j => j ≤ m.length) (fun j => m.length - j) 0 (Nat.zero_le _) (by repeat (first | exact SubG.nil | refine SubG.cons rfl (VT.le_refl _) ?_ | (refine SubG.cons rfl (one_le ?_) ?_; (congr 1; first | omega | (simp; omega) | simp)))) (SubM.refl _) (fun j hj => ?_)
        refine J_seq ?_
        refine J_reg ?_
        refine st (s_lt rfl rfl) rfl ?_
        refine Run.nil ?_
        refine pj_then ?_
        refine J_seq ?_
        refine J_cond rfl (fun hc2 => ?_) (fun hc2 => ?_) <;> simp only [decide_eq_true_eq, decide_eq_false_iff_not, Int.ofNat_lt] at hc2
        · obtain ⟨y, hy, ey⟩ := getD_cast h2 hc2
          refine J_skip ?_
          refine pj_then ?_
          refine J_seq ?_
          refine J_block ?_
          refine J_seq ?_
          refine J_reg ?_
          refine st (s_move rfl) rfl ?_
          (refine st (s_indexIN rfl rfl ?_) rfl ?_; omega)
          refine st (s_load rfl) rfl ?_
          refine st (s_assign rfl) rfl ?_
          refine st (s_assign rfl) rfl ?_
          refine Run.nil ?_
          refine pj_then ?_
          rw [ey]
          skip
          refine J_regd 16 mixed (by kernel_rfl) (by decide) ?_
          unfold rowF
          refine st (s_fieldAddr rfl) rfl ?_
          refine st (s_loadB 0 rfl rfl rfl) rfl ?_
          refine st (s_move rfl) rfl ?_
          (refine st (s_indexON rfl rfl ?_) rfl ?_; omega)
          (refine st (s_loadE 1 rfl rfl ?_) rfl ?_; omega)
          refine st (s_move rfl) rfl ?_
          refine st (s_fieldAddr rfl) rfl ?_
          refine st (s_loadB 4 rfl rfl rfl) rfl ?_
          refine st (s_move rfl) rfl ?_
          (refine st (s_indexIN rfl rfl ?_) rfl ?_; omega)
          refine st (s_load rfl) rfl ?_
          refine st (s_move rfl) rfl ?_
          (refine st (s_indexIN rfl rfl ?_) rfl ?_; omega)
          refine st (s_load rfl) rfl ?_
          refine st (s_callk (own_ok (F x y) (hF x y)) rfl ⟨VT.le_refl _, trivial⟩) rfl ?_
          (refine st (s_indexON rfl rfl ?_) rfl ?_; omega)
          refine Run.nil ?_
          (refine a_storeR 2 rfl rfl rfl (getq ?_) ?_ rfl ?_; omega; omega)
          refine Run.nil ?_
          refine pn_block ?_
          refine pj_then ?_
          refine J_reg ?_
          (refine st (s_add rfl rfl (wrap_i64 ?_ ?_)) rfl ?_; omega; omega)
          refine st (s_move rfl) rfl ?_
          refine Run.nil ?_
          refine pj_round (s := j) (j + 1) (show _ from by omega) (by show m.length - (j + 1) < m.length - j; omega) (by repeat (first | exact SubG.nil | refine SubG.cons rfl (VT.le_refl _) ?_ | (refine SubG.cons rfl (one_le ?_) ?_; (congr 1; first | omega | (simp; omega) | simp)))) (.keep (Own.le_refl _) (.keep (Own.le_refl _) (.keep (upd_fill2 _ ?_) (SubM.refl _))))
          unfold pickF; rw [ex, ey]; rfl
        · have hjm : j = m.length := by omega
          subst hjm
          refine J_exit ?_
          refine px_then ?_
          refine px_then ?_
          refine px_block ?_
          refine pn_block ?_
          refine pj_then ?_
          refine J_reg ?_
          (refine st (s_add rfl rfl (wrap_i64 ?_ ?_)) rfl ?_; omega; omega)
          refine st (s_move rfl) rfl ?_
          refine Run.nil ?_
          exact pj_round (s := i) (i + 1) (show _ from by omega) (by show l.length - (i + 1) < l.length - i; omega) (by repeat (first | exact SubG.nil | refine SubG.cons rfl (VT.le_refl _) ?_ | (refine SubG.cons rfl (one_le ?_) ?_; (congr 1; first | omega | (simp; omega) | simp)))) (.keep (Own.le_refl _) (.keep (Own.le_refl _) (.keep next_fill2 (SubM.refl _))))
      · have hin : i = l.length := by omega
        subst hin
        refine J_exit ?_
        refine px_then ?_
        refine px_then ?_
        refine px_block ?_
        refine pj_then ?_
        refine J_seq ?_
        refine J_reg ?_
        refine st (s_loadW 0 rfl rfl) rfl ?_
        refine a_storeW 3 rfl rfl rfl rfl ?_
        refine st (s_assign rfl) rfl ?_
        refine Run.nil ?_
        refine pj_then ?_
        refine J_ret ?_
        have hperm : ∀ (x y z u t : Own), [x, y, z, u, t].Perm ([y, z] ++ [x, u, t]) := fun x y z u t => (List.Perm.swap y x _).trans (List.Perm.cons y (List.Perm.swap z x _))
        refine PJ_open [outO sv1 cap1 l.length m.length bs, ownR m.length bs (fill2 (pickF l m F) l.length 0)] (hperm _ _ _ _ _) (.keep (EntO.refl _) (.keep (EntO.box (newT_open hlen ⟨by simp, by simp, by simp⟩)) (.keep (EntO.refl _) .nil))) (EntG.refl _) ?_
        refine retc2 Try.results25 (.cellW 1 rfl rfl ?_) (.tmp rfl (one_le ?_))
        · rw [h2]; simp only [h1, Bool.or_self, Bool.not_false, if_true]; exact matF_le fun a b ha hb => by simp [fill2, ha]
        · rw [h2]; simp [h1]
  · refine sg0 rfl rfl rfl rfl ?_
    refine sg0 rfl rfl rfl rfl ?_
    refine sg0 rfl rfl rfl rfl ?_
    refine sg0 rfl rfl rfl rfl ?_
    refine sg0 rfl rfl rfl rfl ?_
    refine sg0 rfl rfl rfl rfl ?_
    refine st (s_pickT rfl rfl) rfl ?_
    refine Run.nil ?_
    refine pj_then ?_
    refine J_cond rfl (fun h2 => ?_) (fun h2 => ?_)
    · refine J_seq ?_
      refine J_reg ?_
      refine stB rfl rfl rfl ?_
      refine BuildK.nil ?_
      refine a_storeW 0 rfl rfl rfl rfl ?_
      refine st (s_assign rfl) rfl ?_
      refine Run.nil ?_
      refine pj_then ?_
      refine J_ret ?_
      refine pr_then ?_
      refine retc2 Try.results25 (.cellW 0 rfl rfl ?_) (.tmp rfl (one_le ?_))
      · simp only [Bool.true_or, Bool.not_true, Bool.false_eq_true, if_false]; exact zero_mat _
      · simp
    · cases h2
end Tor
