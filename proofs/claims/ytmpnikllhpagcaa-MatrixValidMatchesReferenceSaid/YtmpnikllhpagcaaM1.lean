/-
  torsionref05: New, a matrix whose rows the caller may write.
-/
import Derived.Test.YtmpnikllhpagcaaFwC
import Derived.Test.YtmpnikllhpagcaaRB
set_option linter.unusedVariables false
set_option linter.unusedSimpArgs false
namespace Tor
open Go Go.RowKit Go.Proofs
/-- The rows of a matrix by a function. -/
def tab (r c : Nat) (F : Nat → Nat → Int) : List (List Int) := (List.range r).map fun i => (List.range c).map (F i)
@[simp] theorem tab_length (r c : Nat) (F : Nat → Nat → Int) : (tab r c F).length = r := by simp [tab]
theorem tab_row {r c i : Nat} (F : Nat → Nat → Int) (hi : i < r) : (tab r c F).getD i [] = (List.range c).map (F i) := by simp [tab, List.getD, hi]
theorem row_at {c j : Nat} (f : Nat → Int) (hj : j < c) : ((List.range c).map f).getD j 0 = f j := by simp [List.getD, hj]
theorem tab_congr {r c : Nat} {F G : Nat → Nat → Int} (h : ∀ i j, i < r → j < c → F i j = G i j) : tab r c F = tab r c G := by
  unfold tab
  refine List.map_congr_left fun i hi => List.map_congr_left fun j hj => ?_
  exact h i j (List.mem_range.1 hi) (List.mem_range.1 hj)
theorem tab_inj {r c : Nat} {F G : Nat → Nat → Int} (h : tab r c F = tab r c G) {i j : Nat} (hi : i < r) (hj : j < c) : F i j = G i j := by
  have h1 := congrArg (fun l => l.getD i []) h
  simp only [tab_row _ hi] at h1
  have h2 := congrArg (fun l => l.getD j 0) h1
  simpa only [row_at _ hj] using h2
/-- A row of numbers, by a function. -/
def rowF (c : Nat) (f : Nat → Int) : VT := slT (.agg 2) c (fun j => bigT (f j))
theorem rowF_vec (c : Nat) (f : Nat → Int) : VT.le (rowF c f) (vecT ((List.range c).map f)) := by
  unfold rowF vecT
  refine VT.le_trans (slT_le (ψ := fun j => bigT (((List.range c).map f).getD j 0)) (fun j hj => ?_)) (le_eq (by simp))
  rw [row_at f hj]; exact VT.le_refl _
theorem vec_rowF (c : Nat) (f : Nat → Int) : VT.le (vecT ((List.range c).map f)) (rowF c f) := by
  unfold rowF vecT
  refine VT.le_trans (le_eq (φ := _) (ψ := slT (.agg 2) c (fun j => bigT (((List.range c).map f).getD j 0))) (by simp)) (slT_le fun j hj => ?_)
  rw [row_at f hj]; exact VT.le_refl _
/-- A matrix by a function. -/
def matF (r c : Nat) (F : Nat → Nat → Int) : VT := aggT 3 [(0, .one, one (.int .i64 r)), (1, .one, one (.int .i64 c)), (2, .one, slT .one r (fun i => rowF c (F i)))]
theorem matF_mat (r c : Nat) (F : Nat → Nat → Int) : VT.le (matF r c F) (matT r c (tab r c F)) := by
  unfold matF matT rowsT
  refine aggT_le (fun q hq => ?_)
  rcases List.mem_cons.1 hq with rfl | hq
  · exact ⟨_, List.mem_cons_self, VT.le_refl _⟩
  rcases List.mem_cons.1 hq with rfl | hq
  · exact ⟨_, List.mem_cons_of_mem _ List.mem_cons_self, VT.le_refl _⟩
  rcases List.mem_cons.1 hq with rfl | hq
  · refine ⟨_, List.mem_cons_of_mem _ (List.mem_cons_of_mem _ List.mem_cons_self), VT.le_trans (slT_le (ψ := fun i => vecT ((tab r c F).getD i [])) (fun i hi => ?_)) (le_eq (by simp))⟩
    rw [tab_row F hi]; exact rowF_vec _ _
  · cases hq
theorem matF_le {r c : Nat} {F G : Nat → Nat → Int} (h : ∀ i j, i < r → j < c → F i j = G i j) : VT.le (matF r c F) (matF r c G) := by
  unfold matF
  refine aggT_le (fun q hq => ?_)
  rcases List.mem_cons.1 hq with rfl | hq
  · exact ⟨_, List.mem_cons_self, VT.le_refl _⟩
  rcases List.mem_cons.1 hq with rfl | hq
  · exact ⟨_, List.mem_cons_of_mem _ List.mem_cons_self, VT.le_refl _⟩
  rcases List.mem_cons.1 hq with rfl | hq
  · refine ⟨_, List.mem_cons_of_mem _ (List.mem_cons_of_mem _ List.mem_cons_self), slT_le fun i hi => slT_le fun j hj => le_eq (by rw [h i j hi hj])⟩
  · cases hq
theorem zero_big : VT.le (one (.agg #[.bool false, .slice none 0 0])) (bigT 0) := by
  intro v h e
  have e : v = .agg #[.bool false, .slice none 0 0] := e
  subst e
  refine ⟨_, rfl, rfl, by simp [Value.oneCell'], fun q hq => ?_⟩
  rcases List.mem_cons.1 hq with rfl | hq
  · exact ⟨.bool false, rfl, rfl⟩
  · rcases List.mem_cons.1 hq with rfl | hq
    · exact ⟨.slice none 0 0, rfl, ⟨none, 0, rfl, Nat.le_refl _, by decide, fun i hi => absurd hi (Nat.not_lt_zero _)⟩⟩
    · cases hq
theorem sliO_none {sv : Option Nat} {T : TypeId} {L : Lay} {cap n : Nat} {φ : Nat → VT} {g h : Hp} (hp : (sliO sv T L cap n φ).p g h) (he : sv = none) : n = 0 := by
  obtain ⟨h1, h2, h3, _⟩ := hp; have := h3 he; omega
theorem getq {bs : List Nat} {i : Nat} (h : i < bs.length) : bs[i]? = some (bs.getD i 0) := by simp [List.getD, h]
/-- The slice of own rows. -/
def outO (sv : Option Nat) (cap r c : Nat) (bs : List Nat) : Own := sliO sv 35 .one cap r (fun q => one (slV (some (bs.getD q 0)) c c))
/-- The own rows. -/
def ownR (c : Nat) (bs : List Nat) (F : Nat → Nat → Int) : Own := rowsO 29 (.agg 2) c bs (fun q k => bigT (F q k))
theorem ownR_le {c : Nat} {bs : List Nat} {F G : Nat → Nat → Int} (h : ∀ i j, i < bs.length → j < c → F i j = G i j) : Own.le (ownR c bs F) (ownR c bs G) := rowsO_eq fun i j hi hj => by rw [h i j hi hj]
/-- What New gives: a matrix, its slice of rows and its rows. -/
abbrev NewS (r : Nat) := {s : List Nat × Option Nat × Nat // s.1.length = r ∧ (s.2.1 = none → r = 0)}
def newT (r c : Nat) (s : NewS r) : VT := aggT 3 [(0, .one, one (.int .i64 r)), (1, .one, one (.int .i64 c)), (2, .one, one (slV s.1.2.1 r s.1.2.2))]
theorem newT_open {r c : Nat} {sv : Option Nat} {cap : Nat} {bs : List Nat} {F : Nat → Nat → Int} {cs : Comps} (hb : bs.length = r) (hc : (0, Lay.one, one (.int .i64 r)) ∈ cs ∧ (1, Lay.one, one (.int .i64 c)) ∈ cs ∧ (2, Lay.one, one (slV sv r cap)) ∈ cs) :
    EntC [outO sv cap r c bs, ownR c bs F] cs [(0, .one, one (.int .i64 r)), (1, .one, one (.int .i64 c)), (2, .one, slT .one r (fun i => rowF c (F i)))] := by
  refine .cons hc.1 (Ent.refl _) (.cons hc.2.1 (Ent.refl _) (.cons hc.2.2 ?_ .nil))
  refine Ent.slE List.mem_cons_self fun q hq => ?_
  exact Ent.row (List.mem_cons_of_mem _ List.mem_cons_self) (getq (by omega))
attribute [local irreducible] Tor.J Tor.PJ Tor.StepO Tor.one Tor.slT Tor.ptrT Tor.aggT Tor.tupT Tor.exT Tor.andT Tor.gT Tor.eP Tor.boxO Tor.sliO Tor.slV Tor.VT.le Tor.Ret Tor.anyT
attribute [local irreducible] Tor.rowsO
set_option maxHeartbeats 2000000 in
theorem rNew_ok (r c : Nat) (hr : r ≤ 1048576) (hc : c ≤ 1048576) : OkM Try.prog 28 [one (.int .i64 r), one (.int .i64 c)] (newT r c) (fun s => [outO s.1.2.1 s.1.2.2 r c s.1.1, ownR c s.1.1 (fun _ _ => 0)]) := by
  refine OkM.enter Try.func28 rfl Try.ntmps28 rfl (fun w O => ?_)
  refine J_seq ?_
  refine J_reg ?_
  refine a_allocS (T := 33) rfl rfl rfl (fun b => ?_)
  refine Run.nil ?_
  refine pj_then ?_
  refine J_seq ?_
  refine J_reg ?_
  refine stSO (n := 0) rfl rfl rfl rfl rfl ?_
  refine PartsK.nil (fun b => ?_)
  refine st (s_assign rfl) rfl ?_
  refine Run.nil ?_
  refine pj_then ?_
  refine J_seq ?_
  refine J_seq ?_
  refine J_reg ?_
  refine st (s_assign rfl) rfl ?_
  refine Run.nil ?_
  refine pj_then ?_
  refine J_block ?_
  rename_i bc
  refine J_conv (ConvM.rows0 (T := 29) (L := .agg 2) (c := c) (φ := fun _ _ => bigT 0) _) ?_
  refine J_loop (σ := List Nat × Option Nat × Nat) (fun s => [(0, one (.int .i64 r)), (1, one (.int .i64 c)), (4, one (.pointer (some ⟨bc, 0, none⟩))), (5, one (slV s.2.1 s.1.length s.2.2)), (6, one (.int .i64 s.1.length))])
    (fun s => [sliO s.2.1 35 .one s.2.2 s.1.length (fun q => one (slV (some (s.1.getD q 0)) c c)), boxO bc 33 3 (zeroC #[Value.int IntKind.i64 0, Value.int IntKind.i64 0, Value.slice none 0 0] [(0, Lay.one), (1, Lay.one), (2, Lay.one)]), ownR c s.1 (fun _ _ => 0)])
    (fun s => s.1.length ≤ r) (fun s => r - s.1.length) ([], some b, 0) (Nat.zero_le _) (by repeat (first | exact SubG.nil | refine SubG.cons rfl (VT.le_refl _) ?_ | (refine SubG.cons rfl (one_le ?_) ?_; (congr 1; first | omega | (simp; omega) | simp)))) (.keep (sliO_eq (fun q hq => by omega)) (SubM.refl _)) (fun s hk => ?_)
  obtain ⟨bs, sv0, cap0⟩ := s
  simp only at hk ⊢
  refine J_seq ?_
  refine J_seq ?_
  refine J_reg ?_
  refine st (s_move rfl) rfl ?_
  refine st (s_move rfl) rfl ?_
  refine st (s_lt rfl rfl) rfl ?_
  refine Run.nil ?_
  refine pj_then ?_
  refine J_cond rfl (fun hc => ?_) (fun hc => ?_) <;> simp at hc
  · refine J_skip ?_
    refine pj_then ?_
    refine J_seq ?_
    refine J_block ?_
    refine J_reg ?_
    refine st (s_move rfl) rfl ?_
    refine st (s_move rfl) rfl ?_
    refine a_makeSlice c c rfl rfl rfl rfl (Nat.le_refl _) rfl rfl (by omega) rfl rfl (fun bz => ?_)
    refine stS1 rfl rfl rfl rfl ?_
    (refine a_append 1 rfl rfl rfl (leN rfl) ?_ ?_ rfl (ltN rfl) (fun sv cap => ?_); omega; omega)
    refine st (s_assign rfl) rfl ?_
    refine Run.nil ?_
    refine pn_block ?_
    refine pj_then ?_
    refine J_reg ?_
    refine st (s_move rfl) rfl ?_
    (refine st (s_add rfl rfl (wrap_i64 ?_ ?_)) rfl ?_; omega; omega)
    refine st (s_assign rfl) rfl ?_
    refine Run.nil ?_
    refine PJ_conv (ConvM.row (k := 2) rfl) ?_
    refine pj_round (s := (bs, sv0, cap0)) (bs ++ [bz], sv, cap) (by simp; omega) (by simp; omega) (.cons rfl (VT.le_refl _) (.cons rfl (VT.le_refl _) (.cons rfl (VT.le_refl _) (.cons rfl (slV_len (by simp)) (.cons rfl (one_le (by simp)) .nil))))) ?_
    refine .keep (sliO_len (by simp) (fun q hq => ?_)) (.keep (Own.le_refl _) (.keep (rowsO_le fun i j hi hj => ?_) .nil))
    · by_cases h : q < bs.length
      · rw [if_pos h]; simp [List.getElem?_append_left h]
      · have : q = bs.length := by omega
        subst this; rw [if_neg h]; simp
    · simp only
      split
      · exact VT.le_refl _
      · exact zero_big
  · have hlen : bs.length = r := by omega
    subst hlen
    refine J_factM (i := 0) (F := sv0 = none → bs.length = 0) rfl (fun g h hp he => sliO_none hp he) (fun hF => ?_)
    refine J_exit ?_
    refine px_then ?_
    refine px_then ?_
    refine px_block ?_
    refine pj_then ?_
    refine J_seq ?_
    refine J_reg ?_
    refine st (s_move rfl) rfl ?_
    refine st (s_move rfl) rfl ?_
    refine st (s_move rfl) rfl ?_
    refine stB rfl rfl rfl ?_
    refine BuildK.cons rfl rfl rfl ?_
    refine BuildK.cons rfl rfl rfl ?_
    refine BuildK.cons rfl rfl rfl ?_
    refine BuildK.nil ?_
    refine a_storeW 1 rfl rfl rfl rfl ?_
    refine Run.nil ?_
    refine pj_then ?_
    refine J_ret ?_
    refine retM1 ⟨(bs, sv0, cap0), rfl, hF⟩ Try.results28 (.cellW 1 rfl rfl (VT.le_refl _)) ?_
    exact .keep (Own.le_refl _) (.drop (SubM.refl _))
end Tor
