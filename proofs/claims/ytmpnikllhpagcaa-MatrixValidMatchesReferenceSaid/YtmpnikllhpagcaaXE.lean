/-
  torsionlaw05: MatrixValidMatchesReference answers true.
-/
import Derived.Test.YtmpnikllhpagcaaXC
import Derived.Test.YtmpnikllhpagcaaXD
import Derived.Test.YtmpnikllhpagcaaFwI
set_option linter.unusedVariables false
set_option linter.unusedSimpArgs false
namespace Tor
open Go Go.RowKit Go.Proofs
/-- Three small numbers. -/
def w3T (w0 w1 w2 : Int) : VT := aggT 3 [(0, .one, one (.int .i8 w0)), (1, .one, one (.int .i8 w1)), (2, .one, one (.int .i8 w2))]
theorem tmod2 (x : Int) : -2 < x.tmod 2 ∧ x.tmod 2 < 2 := ⟨by
  have := Int.tmod_lt_of_pos (-x) (show (0 : Int) < 2 by decide)
  rw [Int.neg_tmod] at this; omega, Int.tmod_lt_of_pos x (by decide)⟩
theorem u8mod8 (x : Int) : ∃ k : Nat, k < 8 ∧ (IntKind.u8.wrap x).tmod 8 = (k : Int) := by
  rw [wrap_u8, Int.tmod_eq_emod_of_nonneg (by omega)]
  exact ⟨(x % 256 % 8).toNat, by omega, by omega⟩
/-- Rows of raw integers by a function. -/
abbrev RawF := Nat → Nat → Bool × List Nat
def rawOwn (c : Nat) (bs : List Nat) (H : RawF) : Own := rowsO 29 (.agg 2) c bs (fun q k => rawT (H q k).1 (H q k).2)
def okRaw (H : RawF) : Prop := ∀ q k, (H q k).2.length ≤ 4398046511104
def rowsL (r : Nat) (n : Nat → Nat) (H : RawF) : List RawV := (List.range r).map fun q => (List.range (n q)).map (H q)
theorem rowsL_ok {r : Nat} {n : Nat → Nat} {H : RawF} (hH : okRaw H) : ∀ v ∈ rowsL r n H, ∀ p ∈ v, p.2.length ≤ 4398046511104 := fun v hv p hp => by
  simp only [rowsL, List.mem_map, List.mem_range] at hv
  obtain ⟨q, _, rfl⟩ := hv
  simp only [List.mem_map, List.mem_range] at hp
  obtain ⟨k, _, rfl⟩ := hp
  exact hH q k
theorem rowRaw (n : Nat) (f : Nat → Bool × List Nat) : VT.le (slT (.agg 2) n (fun k => rawT (f k).1 (f k).2)) (rawVecT ((List.range n).map f)) := by
  unfold rawVecT
  refine VT.le_trans (slT_le (ψ := fun k => rawT (((List.range n).map f).getD k (false, [])).1 (((List.range n).map f).getD k (false, [])).2) (fun k hk => ?_)) (le_eq (by simp))
  have e : ((List.range n).map f).getD k (false, []) = f k := by simp [List.getD, hk]
  rw [e]; exact VT.le_refl _
theorem rowsL_le (r : Nat) (n : Nat → Nat) (H : RawF) (φ : Nat → VT) (h : ∀ q, q < r → VT.le (φ q) (rawVecT ((List.range (n q)).map (H q)))) : VT.le (slT .one r φ) (rawRowsT (rowsL r n H)) := by
  unfold rawRowsT
  refine VT.le_trans (slT_le (ψ := fun q => rawVecT ((rowsL r n H).getD q [])) (fun q hq => ?_)) (le_eq (by simp [rowsL]))
  have e : (rowsL r n H).getD q [] = (List.range (n q)).map (H q) := by simp [rowsL, List.getD, hq]
  rw [e]; exact h q hq
theorem blks_split : ∀ {M : Mem} {k : Nat} {o o' : Own} {b0 : Nat}, M[k]? = some o → o.bl = b0 :: o'.bl → (blks M).Perm (b0 :: blks (M.set k o'))
  | [], _, _, _, _, h, _ => by simp at h
  | x :: M, 0, o, o', b0, h, e => by
    simp at h; subst h
    show (x.bl ++ blks M).Perm (b0 :: (o'.bl ++ blks M))
    rw [e]; exact List.Perm.refl _
  | x :: M, k + 1, o, o', b0, h, e => by
    simp at h
    show (x.bl ++ blks M).Perm (b0 :: (x.bl ++ blks (M.set k o')))
    exact ((blks_split h e).append_left _).trans List.perm_middle
/-- The first of the own rows is taken out. -/
theorem ConvM.split {M : Mem} {T : TypeId} {L : Lay} {c b0 k : Nat} {bs : List Nat} {φ : Nat → Nat → VT} (hM : M[k]? = some (rowsO T L c (b0 :: bs) φ)) :
    ConvM M (sliO (some b0) T L c c (φ 0) :: M.set k (rowsO T L c bs (fun q => φ (q + 1)))) := by
  refine ⟨blks_split (o' := rowsO T L c bs (fun q => φ (q + 1))) hM rfl, fun g h H o ho => ?_⟩
  have h0 := H _ (List.mem_of_getElem? hM)
  rcases List.mem_cons.1 ho with rfl | ho
  · exact h0 0 b0 rfl
  · obtain ⟨j, hj⟩ := List.mem_iff_getElem?.1 ho
    rw [List.getElem?_set] at hj
    by_cases e : k = j
    · subst e
      have hlt := (List.getElem?_eq_some_iff.1 hM).1
      simp [hlt] at hj; subst hj
      intro q b' hq
      exact h0 (q + 1) b' (by simpa using hq)
    · simp [e] at hj
      exact H o (List.mem_of_getElem? hj)
theorem dig_ok (l : List Int) (n : Nat) : (rawOf (dig l n)).2.length ≤ 4398046511104 := by
  have h := tmod10 (l.getD n 0)
  have : (digs (dig l n).natAbs).length ≤ 1 := digs_len_le (by unfold dig; omega)
  unfold rawOf; simp only; omega
/-- The element that is exchanged. -/
def putH (H : RawF) (i : Nat) (x : Bool × List Nat) : RawF := fun q k => if q = i ∧ k = 0 then x else H q k
attribute [local irreducible] Tor.J Tor.PJ Tor.StepO Tor.one Tor.slT Tor.ptrT Tor.aggT Tor.tupT Tor.exT Tor.andT Tor.gT Tor.eP Tor.boxO Tor.sliO Tor.slV Tor.VT.le Tor.Ret Tor.anyT
attribute [local irreducible] bigT Tor.rowsO
set_option maxHeartbeats 8000000 in
theorem validLaw_ok (r c : Nat) (l : List Int) (w0 w1 w2 : Int) (neg : Bool) (lv : List Nat) : Ok Try.prog 3 [rawInT r c l, w3T w0 w1 w2, rawT neg lv] (one (.bool true)) := by
  unfold w3T rawT
  refine Ok.enter Try.func3 rfl Try.ntmps3 rfl (fun w O => ?_)
  unfold rawInT
  refine J_seq ?_
  refine J_reg ?_
  refine a_boxS rfl rfl (ltN rfl) (fun b => ?_)
  refine a_boxS rfl rfl (ltN rfl) (fun b => ?_)
  refine a_boxS rfl rfl (ltN rfl) (fun b => ?_)
  refine st (s_assign rfl) rfl ?_
  refine Run.nil ?_
  refine pj_then ?_
  refine J_seq ?_
  refine J_reg ?_
  refine st (s_callk sanity_ok rfl trivial) rfl ?_
  refine st (s_assign rfl) rfl ?_
  refine Run.nil ?_
  refine pj_then ?_
  refine J_seq ?_
  refine J_reg ?_
  refine st (s_loadW 2 rfl rfl) rfl ?_
  refine a_callM (rMadeM_ok r c l) rfl ⟨VT.le_refl _, trivial⟩ rfl rfl (fun s => ?_)
  obtain ⟨⟨bs, sv1, cap1⟩, hlen, hsv⟩ := s
  simp only at hlen hsv
  unfold newT
  have hr5 : r % 5 < 5 := Nat.mod_lt _ (by decide)
  have hc5 : c % 5 < 5 := Nat.mod_lt _ (by decide)
  generalize hR : r % 5 = R at *
  generalize hC : c % 5 = C at *
  refine a_allocS (T := 33) rfl rfl rfl (fun b => ?_)
  refine a_storeW 0 rfl rfl rfl rfl ?_
  refine Run.nil ?_
  refine pj_then ?_
  refine J_seq ?_
  refine J_seq ?_
  refine J_reg ?_
  refine st (s_fieldAddr rfl) rfl ?_
  refine st (s_loadB 3 rfl rfl rfl) rfl ?_
  refine st (s_len rfl) rfl ?_
  refine st (s_gt rfl rfl) rfl ?_
  refine Run.nil ?_
  refine pj_then ?_
  refine J_cond rfl (fun hc => ?_) (fun hc => ?_) <;> simp only [decide_eq_true_eq, decide_eq_false_iff_not] at hc
  · refine J_seq ?_
    refine J_reg ?_
    refine st (s_move rfl) rfl ?_
    refine st (s_assign rfl) rfl ?_
    refine Run.nil ?_
    refine pj_then ?_
    refine J_ret ?_
    refine pr_then ?_
    exact retc1 Try.results3 (.tmp rfl (VT.le_refl _))
  · have ht0 := tmod2 w0
    have ht1 := tmod2 w1
    obtain ⟨k, hk8, hk⟩ := u8mod8 w2
    refine J_skip ?_
    refine pj_then ?_
    refine J_seq ?_
    refine J_reg ?_
    refine st (s_fieldAddr rfl) rfl ?_
    refine st (s_loadB 0 rfl rfl rfl) rfl ?_
    refine st (s_indexBC 0 _ rfl rfl (ltN rfl)) rfl ?_
    refine st (s_loadB 4 rfl rfl rfl) rfl ?_
    refine st (s_rem rfl rfl (by decide) rfl) rfl ?_
    (refine st (s_toI64 rfl ?_ ?_) rfl ?_; omega; omega)
    (refine st (s_add rfl rfl (wrap_i64 ?_ ?_)) rfl ?_; omega; omega)
    refine st (s_fieldAddr rfl) rfl ?_
    refine a_storeB 0 rfl rfl rfl rfl rfl (leN rfl) rfl ?_
    refine Run.nil ?_
    refine pj_then ?_
    refine J_seq ?_
    refine J_reg ?_
    refine st (s_fieldAddr rfl) rfl ?_
    refine st (s_loadB 0 rfl rfl rfl) rfl ?_
    refine st (s_indexBC 1 _ rfl rfl (ltN rfl)) rfl ?_
    refine st (s_loadB 4 rfl rfl rfl) rfl ?_
    refine st (s_rem rfl rfl (by decide) rfl) rfl ?_
    (refine st (s_toI64 rfl ?_ ?_) rfl ?_; omega; omega)
    (refine st (s_add rfl rfl (wrap_i64 ?_ ?_)) rfl ?_; omega; omega)
    refine st (s_fieldAddr rfl) rfl ?_
    refine a_storeB 0 rfl rfl rfl rfl rfl (leN rfl) rfl ?_
    refine Run.nil ?_
    refine pj_then ?_
    refine J_seq ?_
    refine J_reg ?_
    refine st (s_indexBC 2 _ rfl rfl (ltN rfl)) rfl ?_
    refine st (s_loadB 4 rfl rfl rfl) rfl ?_
    refine st (s_conv rfl rfl) rfl ?_
    refine st (s_rem rfl rfl (by decide) rfl) rfl ?_
    rw [hk]
    (refine st (s_toI64 rfl ?_ ?_) rfl ?_; omega; omega)
    refine st (s_assign rfl) rfl ?_
    refine Run.nil ?_
    refine pj_then ?_
    rename_i b3 b4 b5
    have hd : okRaw (fun q k => rawOf (madeF c l q k)) := fun q k => dig_ok l _
    refine J_seq ?_
    refine J_join (σ := RawF) (fun _ => [(4, one (.pointer (some ⟨b4, 0, none⟩))), (7, one (.bool true)), (8, one (.pointer (some ⟨b, 0, none⟩)))])
      (fun H => [boxO b 33 3 [(0, .one, one (.int .i64 (R + w0.tmod 2))), (1, .one, one (.int .i64 (C + w1.tmod 2))), (2, .one, one (slV sv1 R cap1))], outO sv1 cap1 R C bs, rawOwn C bs H, boxO b4 26 3 [(0, .one, one (.int .i8 w0)), (1, .one, one (.int .i8 w1)), (2, .one, one (.int .i8 w2))]])
      okRaw ?_ (fun H hH => ?_)
    · have hcut : ∀ (Γ : Ctx) (M : Mem) (Q : Exit → Act → World → Prop), True := fun _ _ _ => trivial
      refine J_seq ?_
      refine J_reg ?_
      refine st (s_move rfl) rfl ?_
      refine st (s_fieldAddr rfl) rfl ?_
      refine st (s_loadB 0 rfl rfl rfl) rfl ?_
      refine st (s_lenO rfl) rfl ?_
      refine st (s_lt rfl rfl) rfl ?_
      refine st (s_move rfl) rfl ?_
      refine bsel (t := 43) rfl (fun b1 h1 => ?_)
      rw [h1]
      cases b1
      · refine sg0 rfl rfl rfl rfl ?_
        refine sg0 rfl rfl rfl rfl ?_
        refine sg0 rfl rfl rfl rfl ?_
        refine sg0 rfl rfl rfl rfl ?_
        refine sg0 rfl rfl rfl rfl ?_
        refine sg0 rfl rfl rfl rfl ?_
        refine sg0 rfl rfl rfl rfl ?_
        refine st (s_pickF rfl rfl) rfl ?_
        refine Run.nil ?_
        refine pj_then ?_
        refine J_cond rfl (fun h2 => ?_) (fun h2 => ?_)
        · cases h2
        · refine J_skip ?_
          exact pj_cut _ hd (by repeat (first | exact SubG.nil | refine SubG.cons rfl (VT.le_refl _) ?_ | (refine SubG.cons rfl (one_le ?_) ?_; (congr 1; first | omega | (simp; omega) | simp)))) (.keep (Own.le_refl _) (.keep (Own.le_refl _) (.keep (rowsO_le fun q k hq hk => bigT_raw _) (.drop (.keep (Own.le_refl _) (.drop .nil))))))
      · simp at h1
        obtain ⟨bo, rfl⟩ := sv_some hsv (by omega)
        refine sg1 rfl rfl (s_fieldAddr rfl) rfl ?_
        refine sg1 rfl rfl (s_loadB 0 rfl rfl rfl) rfl ?_
        refine sg1 rfl rfl (s_move rfl) rfl ?_
        (refine sg1 rfl rfl (s_indexON rfl rfl ?_) rfl ?_; omega)
        (refine sg1 rfl rfl (s_loadE 1 rfl rfl ?_) rfl ?_; omega)
        refine sg1 rfl rfl (s_lenO rfl) rfl ?_
        refine sg1 rfl rfl (s_gt rfl rfl) rfl ?_
        refine st (s_pickT rfl rfl) rfl ?_
        refine Run.nil ?_
        refine pj_then ?_
        refine J_cond rfl (fun h2 => ?_) (fun h2 => ?_) <;> simp only [decide_eq_true_eq, decide_eq_false_iff_not] at h2
        · skip
          refine J_regd 7 mixed (by kernel_rfl) (by decide) ?_
          refine st (s_fieldAddr rfl) rfl ?_
          refine st (s_loadB 0 rfl rfl rfl) rfl ?_
          refine st (s_move rfl) rfl ?_
          (refine st (s_indexON rfl rfl ?_) rfl ?_; omega)
          (refine st (s_loadE 1 rfl rfl ?_) rfl ?_; omega)
          refine st (s_loadW 3 rfl rfl) rfl ?_
          (refine st (s_indexO rfl rfl ?_ ?_) rfl ?_; omega; omega)
          refine Run.nil ?_
          refine a_storeR 2 rfl rfl rfl (getq (bs := bs) (i := k) (by omega)) (by show (0 : Int).toNat < C; simp; omega) rfl ?_
          refine Run.nil ?_
          refine pj_cut (putH (fun q k => rawOf (madeF c l q k)) k (neg, lv)) (fun q k' => ?_) (by repeat (first | exact SubG.nil | refine SubG.cons rfl (VT.le_refl _) ?_ | (refine SubG.cons rfl (one_le ?_) ?_; (congr 1; first | omega | (simp; omega) | simp)))) (.keep (Own.le_refl _) (.keep (Own.le_refl _) (.keep (rowsO_le fun q k' hq hk' => ?_) (.drop (.keep (Own.le_refl _) (.drop .nil))))))
          · unfold putH
            split
            · simp only; omega
            · exact hd q k'
          · unfold upd2 putH
            by_cases h : q = k ∧ k' = 0
            · rw [if_pos (by simpa using h), if_pos h]; exact VT.le_refl _
            · rw [if_neg (by simpa using h), if_neg h]; exact bigT_raw _
        · refine J_skip ?_
          exact pj_cut _ hd (by repeat (first | exact SubG.nil | refine SubG.cons rfl (VT.le_refl _) ?_ | (refine SubG.cons rfl (one_le ?_) ?_; (congr 1; first | omega | (simp; omega) | simp)))) (.keep (Own.le_refl _) (.keep (Own.le_refl _) (.keep (rowsO_le fun q k hq hk => bigT_raw _) (.drop (.keep (Own.le_refl _) (.drop .nil))))))
    · refine pj_then ?_
      refine J_seq ?_
      refine J_join (σ := List RawV) (fun _ => [(7, one (.bool true)), (8, one (.pointer (some ⟨b, 0, none⟩)))])
        (fun L => [boxO b 33 3 [(0, .one, one (.int .i64 (R + w0.tmod 2))), (1, .one, one (.int .i64 (C + w1.tmod 2))), (2, .one, rawRowsT L)]])
        (fun L => (∀ v ∈ L, ∀ p ∈ v, p.2.length ≤ 4398046511104) ∧ L.length ≤ 5) ?_ (fun L hL => ?_)
      · have hopen : ∀ {Γ : Ctx} {Q : Exit → Act → World → Prop} {b4' : Own}, PJ ⟨w, O, [], 87⟩ [] Γ [boxO b 33 3 [(0, .one, one (.int .i64 (R + w0.tmod 2))), (1, .one, one (.int .i64 (C + w1.tmod 2))), (2, .one, rawRowsT (rowsL R (fun _ => C) H))], b4'] .normal Q →
            PJ ⟨w, O, [], 87⟩ [] Γ [boxO b 33 3 [(0, .one, one (.int .i64 (R + w0.tmod 2))), (1, .one, one (.int .i64 (C + w1.tmod 2))), (2, .one, one (slV sv1 R cap1))], outO sv1 cap1 R C bs, rawOwn C bs H, b4'] .normal Q := fun {Γ Q b4'} h => by
          have hperm : ∀ (x y z u : Own), [x, y, z, u].Perm ([y, z] ++ [x, u]) := fun x y z u => (List.Perm.swap y x _).trans (List.Perm.cons y (List.Perm.swap z x _))
          refine PJ_open [outO sv1 cap1 R C bs, rawOwn C bs H] (hperm _ _ _ _) (.keep (EntO.box (.cons List.mem_cons_self (Ent.refl _) (.cons (List.mem_cons_of_mem _ List.mem_cons_self) (Ent.refl _) (.cons (List.mem_cons_of_mem _ (List.mem_cons_of_mem _ List.mem_cons_self)) ((Ent.slE List.mem_cons_self (fun q hq => Ent.row (List.mem_cons_of_mem _ List.mem_cons_self) (getq (by omega)))).then (rowsL_le R (fun _ => C) H _ (fun q hq => rowRaw C (H q)))) .nil)))) (.keep (EntO.refl _) .nil)) (EntG.refl _) h
        have hfin : (∀ v ∈ rowsL R (fun _ => C) H, ∀ p ∈ v, p.2.length ≤ 4398046511104) ∧ (rowsL R (fun _ => C) H).length ≤ 5 := ⟨rowsL_ok hH, by simp [rowsL]; omega⟩
        refine J_seq ?_
        refine J_reg ?_
        refine st (s_indexBC 2 _ rfl rfl (ltN rfl)) rfl ?_
        refine st (s_loadB 3 rfl rfl rfl) rfl ?_
        refine st (s_lt rfl rfl) rfl ?_
        refine st (s_move rfl) rfl ?_
        refine bsel (t := 63) rfl (fun b1 h1 => ?_)
        rw [h1]
        cases b1
        · refine sg0 rfl rfl rfl rfl ?_
          refine sg0 rfl rfl rfl rfl ?_
          refine sg0 rfl rfl rfl rfl ?_
          refine sg0 rfl rfl rfl rfl ?_
          refine st (s_pickF rfl rfl) rfl ?_
          refine Run.nil ?_
          refine pj_then ?_
          refine J_cond rfl (fun h2 => ?_) (fun h2 => ?_)
          · cases h2
          · refine J_skip ?_
            exact hopen (pj_cut _ hfin (by repeat (first | exact SubG.nil | refine SubG.cons rfl (VT.le_refl _) ?_ | (refine SubG.cons rfl (one_le ?_) ?_; (congr 1; first | omega | (simp; omega) | simp)))) (.keep (Own.le_refl _) (.drop .nil)))
        · refine sg1 rfl rfl (s_fieldAddr rfl) rfl ?_
          refine sg1 rfl rfl (s_loadB 0 rfl rfl rfl) rfl ?_
          refine sg1 rfl rfl (s_lenO rfl) rfl ?_
          refine sg1 rfl rfl (s_gt rfl rfl) rfl ?_
          refine st (s_pickT rfl rfl) rfl ?_
          refine Run.nil ?_
          refine pj_then ?_
          refine J_cond rfl (fun h2 => ?_) (fun h2 => ?_) <;> simp only [decide_eq_true_eq, decide_eq_false_iff_not] at h2
          · obtain ⟨bo, rfl⟩ := sv_some hsv (by omega)
            obtain ⟨b0, bs', rfl⟩ : ∃ b0 bs', bs = b0 :: bs' := by
              cases bs with
              | nil => simp at hlen; omega
              | cons b0 bs' => exact ⟨b0, bs', rfl⟩
            refine J_conv (ConvM.split (k := 2) rfl) ?_
            refine J_regd 9 mixed (by kernel_rfl) (by decide) ?_
            refine st (s_fieldAddr rfl) rfl ?_
            refine st (s_loadB 1 rfl rfl rfl) rfl ?_
            refine st (s_fieldAddr rfl) rfl ?_
            refine st (s_loadB 1 rfl rfl rfl) rfl ?_
            (refine st (s_indexO rfl rfl ?_ ?_) rfl ?_; omega; omega)
            (refine st (s_loadE 2 rfl rfl ?_) rfl ?_; omega)
            refine st (s_callk (rOf_ok 1 (by decide) (by decide)) rfl ⟨VT.le_refl _, trivial⟩) rfl ?_
            refine stS1 rfl rfl rfl rfl ?_
            refine st (s_appendG 0 rfl rfl rfl (leN rfl) ?_ ?_ ?_) rfl ?_
            · omega
            · omega
            · omega
            refine Run.nil ?_
            (refine st (s_indexO rfl rfl ?_ ?_) rfl ?_; omega; omega)
            (refine a_storeE 2 rfl rfl rfl ?_ rfl ?_; omega)
            refine Run.nil ?_
            have hperm : ∀ (x y z u t : Own), [x, y, z, u, t].Perm ([z, u] ++ [x, y, t]) := fun x y z u t => (List.perm_append_comm (l₁ := [x, y]) (l₂ := [z, u])).append_right [t]
            refine PJ_open [sliO (some bo) 35 .one cap1 R (upd (fun q => one (slV (some ((b0 :: bs').getD q 0)) C C)) 0 (slT (.agg 2) (C + 1) (fun q => if q < C then rawT (H 0 q).1 (H 0 q).2 else bigT 1))),
                rowsO 29 (.agg 2) C bs' (fun q k => rawT (H (q + 1) k).1 (H (q + 1) k).2)] (hperm _ _ _ _ _)
              (.keep (EntO.refl _) (.keep (EntO.box (cs' := [(0, .one, one (.int .i64 (R + w0.tmod 2))), (1, .one, one (.int .i64 (C + w1.tmod 2))), (2, .one, rawRowsT (rowsL R (fun q => if q = 0 then C + 1 else C) (fun q k => if q = 0 ∧ k = C then rawOf 1 else H q k)))])
                (.cons List.mem_cons_self (Ent.refl _) (.cons (List.mem_cons_of_mem _ List.mem_cons_self) (Ent.refl _) (.cons (List.mem_cons_of_mem _ (List.mem_cons_of_mem _ List.mem_cons_self))
                  ((Ent.slE (ψ := fun q => if q = 0 then slT (.agg 2) (C + 1) (fun k => if k < C then rawT (H 0 k).1 (H 0 k).2 else bigT 1) else slT (.agg 2) C (fun k => rawT (H q k).1 (H q k).2)) List.mem_cons_self (fun q hq => ?_)).then (rowsL_le R (fun q => if q = 0 then C + 1 else C) (fun q k => if q = 0 ∧ k = C then rawOf 1 else H q k) _ (fun q hq => ?_))) .nil)))) (.keep (EntO.refl _) .nil))) (EntG.refl _) ?_
            · unfold upd
              rcases q with _ | q
              · rw [if_pos rfl, if_pos rfl]; exact Ent.refl _
              · rw [if_neg (by omega), if_neg (by omega)]
                have hq2 : q < bs'.length := by simp at hlen; omega
                exact Ent.row (φ := fun q k => rawT (H (q + 1) k).1 (H (q + 1) k).2) (i := q) (List.mem_cons_of_mem _ List.mem_cons_self) (by simp [List.getD, hq2])
            · rcases q with _ | q
              · rw [if_pos rfl, if_pos rfl]
                refine VT.le_trans (slT_le (ψ := fun k => rawT ((fun k => if (0 : Nat) = 0 ∧ k = C then rawOf 1 else H 0 k) k).1 ((fun k => if (0 : Nat) = 0 ∧ k = C then rawOf 1 else H 0 k) k).2) (fun k hk => ?_)) (rowRaw _ _)
                by_cases h : k < C
                · have e : (if (0 : Nat) = 0 ∧ k = C then rawOf 1 else H 0 k) = H 0 k := if_neg (by omega)
                  rw [if_pos h]
                  show VT.le _ (rawT (if (0 : Nat) = 0 ∧ k = C then rawOf 1 else H 0 k).1 (if (0 : Nat) = 0 ∧ k = C then rawOf 1 else H 0 k).2)
                  rw [e]; exact VT.le_refl _
                · have e : (if (0 : Nat) = 0 ∧ k = C then rawOf 1 else H 0 k) = rawOf 1 := if_pos (by omega)
                  rw [if_neg h]
                  show VT.le _ (rawT (if (0 : Nat) = 0 ∧ k = C then rawOf 1 else H 0 k).1 (if (0 : Nat) = 0 ∧ k = C then rawOf 1 else H 0 k).2)
                  rw [e]; exact bigT_raw 1
              · rw [if_neg (by omega), if_neg (by omega)]
                refine VT.le_trans (slT_le (ψ := fun k => rawT ((fun k => if q + 1 = 0 ∧ k = C then rawOf 1 else H (q + 1) k) k).1 ((fun k => if q + 1 = 0 ∧ k = C then rawOf 1 else H (q + 1) k) k).2) (fun k hk => ?_)) (rowRaw _ _)
                simp only [if_neg (show ¬ (q + 1 = 0 ∧ k = C) by omega)]
                exact VT.le_refl _
            · refine pj_cut _ ⟨rowsL_ok (fun q k => ?_), by simp [rowsL]; omega⟩ (by repeat (first | exact SubG.nil | refine SubG.cons rfl (VT.le_refl _) ?_ | (refine SubG.cons rfl (one_le ?_) ?_; (congr 1; first | omega | (simp; omega) | simp)))) (.drop (.keep (Own.le_refl _) (.drop .nil)))
              split
              · decide
              · exact hH q k
          · refine J_skip ?_
            exact hopen (pj_cut _ hfin (by repeat (first | exact SubG.nil | refine SubG.cons rfl (VT.le_refl _) ?_ | (refine SubG.cons rfl (one_le ?_) ?_; (congr 1; first | omega | (simp; omega) | simp)))) (.keep (Own.le_refl _) (.drop .nil)))
      · refine pj_then ?_
        refine J_seq ?_
        refine J_regU mixed (by kernel_rfl) (by kernel_rfl) ?_
        refine ux (fun B => s_loadW 0 rfl rfl) rfl rfl ?_
        refine ux (fun B => s_callk (matValid_ok (R + w0.tmod 2) (C + w1.tmod 2) L) rfl ⟨VT.le_refl _, trivial⟩) rfl rfl ?_
        refine ux (fun B => s_loadW 0 rfl rfl) rfl rfl ?_
        refine ux (fun B => s_callk (rValidMat_ok (R + w0.tmod 2) (C + w1.tmod 2) L (by omega) hL.1) rfl ⟨VT.le_refl _, trivial⟩) rfl rfl ?_
        generalize validM (R + w0.tmod 2) (C + w1.tmod 2) L = vb
        refine ux (fun B => s_eqB rfl rfl) rfl rfl ?_
        refine ux (fun B => s_move rfl) rfl rfl ?_
        rw [beq_self_eq_true]
        refine ug1 rfl rfl (fun B => s_move rfl) rfl rfl ?_
        refine ux (fun B => s_pickT rfl rfl) rfl rfl ?_
        refine ux (fun B => s_assign rfl) rfl rfl ?_
        refine RunU.nil (fun γ => ?_); simp only [ptrG, boxM, List.map_cons, List.map_nil, List.cons_append, List.nil_append]
        refine pj_then ?_
        refine J_ret ?_
        exact retc1 Try.results3 (.tmp rfl (VT.le_refl _))
end Tor
