/-
  Proofs that laws of this seat return true for every input, and that their arguments read afterwards as before.
  No condition.
-/
import Derived.Test.YtinfobmidgammaaEB7
import Derived.Test.YtinfobmidgammaaRows
section
set_option linter.unusedVariables false
set_option linter.unusedSimpArgs false
namespace Tor
open Go Go.RowKit Go.Proofs
theorem lz1 {x : Int} (h : x.natAbs ≤ 4294967295) : lz 1 x := digs_len_le (k := 1) (by omega)
theorem prod_abs {n : Nat} {F G : Nat → Nat → Int} (hn : n ≤ 4) (hF : ∀ i j, (F i j).natAbs ≤ 9) (hG : ∀ i j, (G i j).natAbs ≤ 9) (i j : Nat) : lz 1 (mulF n F G i j) := lz1 (by
  have h := sumF_abs (B := 81) (f := fun k => F i k * G k j) (fun k => by
    rw [Int.natAbs_mul]
    exact Nat.mul_le_mul (hF i k) (hG k j)) n
  have h2 : n * 81 ≤ 4 * 81 := Nat.mul_le_mul_right _ hn
  show (sumF n (fun k => F i k * G k j)).natAbs ≤ _
  omega)
section
variable {P : Program} {E : Env} {ops : Array Oper}
theorem entry3 {D : List Deferred} {dead : List Nat} {x y z : Nat} {Γ1 Γ Γa Γb Γc Γd Γe Γf Γg Γh : Ctx} {M1 M : Mem} {f n : Nat} {rem : List Nat} (hr : List.range' n (ops.size - n) = rem)
    (ha : SubG Γ Γa) (ha' : ((x :: y :: z :: dead).all fun i => match dstOf ops i with | some d => (look Γa d).isNone | none => true) = true)
    (hb : SubG Γ Γb) (hb' : ((x :: y :: dead).all fun i => match dstOf ops i with | some d => (look Γb d).isNone | none => true) = true)
    (hc : SubG Γ Γc) (hc' : ((x :: z :: dead).all fun i => match dstOf ops i with | some d => (look Γc d).isNone | none => true) = true)
    (hd : SubG Γ Γd) (hd' : ((x :: dead).all fun i => match dstOf ops i with | some d => (look Γd d).isNone | none => true) = true)
    (he : SubG Γ Γe) (he' : ((y :: z :: dead).all fun i => match dstOf ops i with | some d => (look Γe d).isNone | none => true) = true)
    (hf : SubG Γ Γf) (hf' : ((y :: dead).all fun i => match dstOf ops i with | some d => (look Γf d).isNone | none => true) = true)
    (hg : SubG Γ Γg) (hg' : ((z :: dead).all fun i => match dstOf ops i with | some d => (look Γg d).isNone | none => true) = true)
    (hh : SubG Γ Γh) (hh' : (dead.all fun i => match dstOf ops i with | some d => (look Γh d).isNone | none => true) = true)
    (h1 : GameP P E ops D dead Γ1 M1 f (x :: y :: z :: rem) Γa M) (h2 : GameP P E ops D dead Γ1 M1 f (x :: y :: rem) Γb M) (h3 : GameP P E ops D dead Γ1 M1 f (x :: z :: rem) Γc M) (h4 : GameP P E ops D dead Γ1 M1 f (x :: rem) Γd M)
    (h5 : GameP P E ops D dead Γ1 M1 f (y :: z :: rem) Γe M) (h6 : GameP P E ops D dead Γ1 M1 f (y :: rem) Γf M) (h7 : GameP P E ops D dead Γ1 M1 f (z :: rem) Γg M) (h8 : GameP P E ops D dead Γ1 M1 f rem Γh M) : EntryP P E ops D dead Γ1 M1 f n [x, y, z] Γ M := fun S hS => by
  have hS' : S = [x, y, z] ∨ S = [x, y] ∨ S = [x, z] ∨ S = [x] ∨ S = [y, z] ∨ S = [y] ∨ S = [z] ∨ S = [] := by simpa [subsL] using hS
  rcases hS' with rfl | rfl | rfl | rfl | rfl | rfl | rfl | rfl
  · exact ⟨Γa, ha, ha', hr ▸ h1⟩
  · exact ⟨Γb, hb, hb', hr ▸ h2⟩
  · exact ⟨Γc, hc, hc', hr ▸ h3⟩
  · exact ⟨Γd, hd, hd', hr ▸ h4⟩
  · exact ⟨Γe, he, he', hr ▸ h5⟩
  · exact ⟨Γf, hf, hf', hr ▸ h6⟩
  · exact ⟨Γg, hg, hg', hr ▸ h7⟩
  · exact ⟨Γh, hh, hh', hr ▸ h8⟩
end
def w2D (a b : Nat) : VT := aggT 2 [(0, .one, one (.int .u8 (a : Int))), (1, .one, one (.int .u8 (b : Int)))]
theorem row_swp {sv : Option Nat} {cap n i k : Nat} {F : Nat → Nat → Int} : Own.le (sliO sv 44 .one cap n (upd (upd (fun q => rowF n (F q)) i (rowF n (F k))) k (rowF n (F i)))) (sliO sv 44 .one cap n (fun q => rowF n (swp i k F q))) := sliO_eq fun q _ => by
  unfold upd swp
  by_cases h1 : q = k
  · rw [if_pos h1]
    by_cases h2 : q = i
    · rw [if_pos h2, ← h1, ← h2]
    · rw [if_neg h2, if_pos h1]
  · rw [if_neg h1]
    by_cases h2 : q = i
    · rw [if_pos h2, if_pos h2]
    · rw [if_neg h2, if_neg h2, if_neg h1]
theorem perm3 (a b c : Own) (l : Mem) : (a :: b :: c :: l).Perm ([c] ++ (a :: b :: l)) := (List.Perm.cons a (List.Perm.swap c b _)).trans (List.Perm.swap c a _)
theorem perm2 (a b : Own) (l : Mem) : (a :: b :: l).Perm ([b] ++ (a :: l)) := List.Perm.swap b a _
theorem rows_read {bs : List Nat} {sv : Option Nat} {cap n : Nat} {F : Nat → Nat → Int} (hb : bs.length = n) : EntO [ownR n bs (fun i j => F i j * 1)] (sliO sv 44 .one cap n (fun q => one (slV (some (bs.getD q 0)) n n))) (sliO sv 44 .one cap n (fun q => rowF n (F q))) := EntO.sl fun q hq => by
  have h : Ent [ownR n bs (fun i j => F i j * 1)] (one (slV (some (bs.getD q 0)) n n)) (slT (.agg 2) n (fun k => bigT (F q k * 1))) := Ent.row (φ := fun q k => bigT (F q k * 1)) List.mem_cons_self (getq (by omega))
  have e : slT (.agg 2) n (fun k => bigT (F q k * 1)) = rowF n (F q) := by unfold rowF; simp only [Int.mul_one]
  rw [e] at h; exact h
theorem box_read {b bo cap n : Nat} {F : Nat → Nat → Int} : EntO [sliO (some bo) 44 .one cap n (fun q => rowF n (F q))] (boxO b 29 3 [(0, .one, one (.int .i64 n)), (1, .one, one (.int .i64 n)), (2, .one, one (slV (some bo) n cap))]) (boxO b 29 3 [(0, .one, one (.int .i64 n)), (1, .one, one (.int .i64 n)), (2, .one, slT .one n (fun i => rowF n (F i)))]) :=
  EntO.box (EntC.cons (k := 0) (L := .one) (φ := one (.int .i64 n)) (lookC_mem rfl) (Ent.refl _) (EntC.cons (k := 1) (L := .one) (φ := one (.int .i64 n)) (lookC_mem rfl) (Ent.refl _) (EntC.cons (k := 2) (L := .one) (φ := one (slV (some bo) n cap)) (lookC_mem rfl) (Ent.slE List.mem_cons_self fun q hq => Ent.refl _) EntC.nil)))
attribute [local irreducible] Tor.J Tor.PJ Tor.StepO Tor.one Tor.slT Tor.ptrT Tor.aggT Tor.tupT Tor.exT Tor.andT Tor.gT Tor.eP Tor.boxO Tor.sliO Tor.slV Tor.VT.le Tor.Ret Tor.anyT Tor.mapO Tor.metT Tor.xO
attribute [local irreducible] bigT rowF
set_option maxRecDepth 100000 in
set_option maxHeartbeats 8000000 in
theorem determinantsLaw_ok (r c : Nat) (l : List Int) (r' c' : Nat) (l' : List Int) (w0 w1 : Nat) (hw0 : w0 < 256) (hw1 : w1 < 256) : Ok Try.prog 3 [rawInT r c l, rawInT r' c' l', w2D w0 w1] (one (.bool true)) := by
  have hsq := rSquare_ok r c l
  have hr : r % 5 ≤ 4 := by omega
  generalize hF : (fun i j => dig l (i * (r % 5) + j)) = F at *
  have aF : ∀ i j, (F i j).natAbs ≤ 9 := fun i j => by rw [← hF]; exact dig_abs _ _
  have mF : ∀ i j, mod4 (F i j) := fun i j => by rw [← hF]; exact mod4_dig _ _
  generalize r % 5 = n at *
  have hfi := rFilled_ok n n l' (by omega) (by omega)
  generalize hG : (fun i j => dig l' (i * n + j)) = G at *
  have aG : ∀ i j, (G i j).natAbs ≤ 9 := fun i j => by rw [← hG]; exact dig_abs _ _
  have mG : ∀ i j, mod4 (G i j) := fun i j => by rw [← hG]; exact mod4_dig _ _
  have lF : ∀ i j, lz 1 (F i j) := fun i j => lz1 (Nat.le_trans (aF i j) (by decide))
  have lG : ∀ i j, lz 1 (G i j) := fun i j => lz1 (Nat.le_trans (aG i j) (by decide))
  have hsan := sanity_ok
  have he := elim04 hr
  have hD1 := Det_ok n F 1 (by omega) he lF
  have hD2 := Det_ok n G 1 (by omega) he lG
  have hPr := rProduct_ok n n F n G (by omega) (by omega) (by omega) mF mG
  have hD3 := Det_ok n (mulF n F G) 1 (by omega) he (prod_abs hr aF aG)
  rw [detZ_mul] at hD3
  have hTr := rTranspose_ok n n F (by omega) (by omega)
  have hD4 := Det_ok n (fun i j => F j i) 1 (by omega) he (fun i j => lF j i)
  rw [detZ_tr] at hD4
  have hRk := Rank_ok n n F 1 (by omega) (by omega) he he lF
  have hnew := detZ_new (n := n) (F := F)
  have hrl := Lin.newL_le n n (fun i j => F j i) n
  generalize Lin.newL n n (fun i j => F j i) n = rows at *
  generalize Lin.newL n n F n = cols at *
  have hsw : ∀ p q : Nat, p < n → q < n → Ok Try.prog 8 [matF n n (swp p q F)] (tupT [bigT (if p = q then Lin.detZ n F else -Lin.detZ n F), one (.int .i64 0)]) := fun p q hp hq => by
    have h := Det_ok n (swp p q F) 1 (by omega) he (fun i j => by unfold swp; split; exact lF _ _; split; exact lF _ _; exact lF _ _)
    by_cases hpq : p = q
    · rw [if_pos hpq]; subst hpq; rw [swp_self] at h ⊢; exact h
    · rw [if_neg hpq, ← detZ_swp hpq hp hq]; exact h
  have hsF : ∀ i j, small (F i j) := fun i j => (lF i j).small (by decide)
  have hCo := rCopiedM_ok n n F (by omega) (by omega) hsF
  have hs1 : small (Lin.detZ n F) := (det_lz he lF).small (by decide)
  have hs2 : small (Lin.detZ n G) := (det_lz he lG).small (by decide)
  generalize Lin.detZ n F = d at *
  generalize Lin.detZ n G = f at *
  clear hF hG aF aG mF mG he lF lG
  have hV1 := rValidI_ok d hs1
  have hV2 := rValidI_ok f hs2
  have hMul := rMulI_ok d f hs1 hs2
  have hNeg := rNegI_ok d hs1
  have hSa : ∀ x : Int, Ok Try.prog 15 [bigT x, bigT x] (one (.bool true)) := fun x => by
    have h := rSame_ok x x
    rw [decide_eq_true rfl] at h; exact h
  have hSg := rSignI_ok d
  have hz := sgnI_zero d
  generalize sgnI d = sg at *
  unfold matF pivT pivF w2D at *
  refine Ok.enter Try.func3 rfl Try.ntmps3 rfl (fun w O => ?_)
  by_cases hn : 1 < n
  · have hi := Nat.mod_lt w0 (show 0 < n by omega)
    have hj := Nat.mod_lt w1 (show 0 < n by omega)
    refine J_seq ?_
    refine J_reg ?_
    refine a_boxS rfl rfl (ltN rfl) (fun b3 => ?_)
    refine a_boxS rfl rfl (ltN rfl) (fun b4 => ?_)
    refine a_boxS rfl rfl (ltN rfl) (fun b5 => ?_)
    refine st (s_assign rfl) rfl ?_
    refine Run.nil ?_
    refine pj_then ?_
    refine J_seq ?_
    refine J_reg ?_
    refine st (s_callk (hsan ) rfl trivial) rfl ?_
    refine st (s_assign rfl) rfl ?_
    refine Run.nil ?_
    refine pj_then ?_
    refine J_seq ?_
    refine J_reg ?_
    refine st (s_loadW 2 rfl rfl) rfl ?_
    refine st (s_callk (hsq ) rfl ⟨VT.le_refl _, trivial⟩) rfl ?_
    refine a_allocS (T := 29) rfl rfl rfl (fun b8 => ?_)
    refine a_storeW 0 rfl rfl rfl rfl ?_
    refine Run.nil ?_
    refine pj_then ?_
    refine J_seq ?_
    refine J_reg ?_
    refine st (s_fieldAddr rfl) rfl ?_
    refine st (s_loadB 0 rfl rfl rfl) rfl ?_
    refine st (s_fieldAddr rfl) rfl ?_
    refine st (s_loadB 0 rfl rfl rfl) rfl ?_
    refine st (s_fieldAddr rfl) rfl ?_
    refine st (s_loadB 2 rfl rfl rfl) rfl ?_
    refine st (s_callk (hfi ) rfl ⟨VT.le_refl _, VT.le_refl _, VT.le_refl _, trivial⟩) rfl ?_
    refine a_allocS (T := 29) rfl rfl rfl (fun b9 => ?_)
    refine a_storeW 0 rfl rfl rfl rfl ?_
    refine Run.nil ?_
    refine pj_then ?_
    refine J_seq ?_
    refine J_reg ?_
    refine st (s_loadW 1 rfl rfl) rfl ?_
    refine st (s_callk (hD1 ) rfl ⟨VT.le_refl _, trivial⟩) rfl ?_
    refine st (s_move rfl) rfl ?_
    refine st (s_extract rfl rfl) rfl ?_
    refine st (s_extract rfl rfl) rfl ?_
    refine a_alloc (T := 34) rfl (ltN rfl) (fun b10 => ?_)
    refine a_storeB 0 rfl rfl rfl rfl rfl (leN rfl) rfl ?_
    refine st (s_assign rfl) rfl ?_
    refine Run.nil ?_
    refine pj_then ?_
    refine J_seq ?_
    refine J_reg ?_
    refine st (s_loadW 1 rfl rfl) rfl ?_
    refine st (s_callk (hD2 ) rfl ⟨VT.le_refl _, trivial⟩) rfl ?_
    refine st (s_move rfl) rfl ?_
    refine st (s_extract rfl rfl) rfl ?_
    refine st (s_extract rfl rfl) rfl ?_
    refine a_alloc (T := 34) rfl (ltN rfl) (fun b12 => ?_)
    refine a_storeB 0 rfl rfl rfl rfl rfl (leN rfl) rfl ?_
    refine st (s_assign rfl) rfl ?_
    refine Run.nil ?_
    refine pj_then ?_
    refine J_seq ?_
    refine J_reg ?_
    refine st (s_loadW 3 rfl rfl) rfl ?_
    refine st (s_loadW 2 rfl rfl) rfl ?_
    refine st (s_callk (hPr ) rfl ⟨VT.le_refl _, VT.le_refl _, trivial⟩) rfl ?_
    refine st (s_callk (hD3 ) rfl ⟨VT.le_refl _, trivial⟩) rfl ?_
    refine st (s_move rfl) rfl ?_
    refine st (s_extract rfl rfl) rfl ?_
    refine st (s_extract rfl rfl) rfl ?_
    refine a_alloc (T := 34) rfl (ltN rfl) (fun b14 => ?_)
    refine a_storeB 0 rfl rfl rfl rfl rfl (leN rfl) rfl ?_
    refine st (s_assign rfl) rfl ?_
    refine Run.nil ?_
    refine pj_then ?_
    refine J_seq ?_
    refine J_reg ?_
    refine st (s_loadW 4 rfl rfl) rfl ?_
    refine st (s_callk (hTr ) rfl ⟨VT.le_refl _, trivial⟩) rfl ?_
    refine st (s_callk (hD4 ) rfl ⟨VT.le_refl _, trivial⟩) rfl ?_
    refine st (s_move rfl) rfl ?_
    refine st (s_extract rfl rfl) rfl ?_
    refine st (s_extract rfl rfl) rfl ?_
    refine a_alloc (T := 34) rfl (ltN rfl) (fun b16 => ?_)
    refine a_storeB 0 rfl rfl rfl rfl rfl (leN rfl) rfl ?_
    refine st (s_assign rfl) rfl ?_
    refine Run.nil ?_
    refine pj_then ?_
    refine J_seq ?_
    refine J_reg ?_
    refine st (s_loadW 5 rfl rfl) rfl ?_
    refine st (s_callk (hRk ) rfl ⟨VT.le_refl _, trivial⟩) rfl ?_
    refine st (s_move rfl) rfl ?_
    refine st (s_extract rfl rfl) rfl ?_
    refine st (s_extract rfl rfl) rfl ?_
    refine st (s_assign rfl) rfl ?_
    refine st (s_assign rfl) rfl ?_
    refine Run.nil ?_
    refine pj_then ?_
    refine J_seq ?_
    refine J_seq ?_
    refine J_reg ?_
    refine st (s_move rfl) rfl ?_
    refine st (sF (by omega) (s_ne rfl rfl)) rfl ?_
    refine st (s_move rfl) rfl ?_
    refine sg1 rfl rfl (s_move rfl) rfl ?_
    refine sg1 rfl rfl (sF (by omega) (s_ne rfl rfl)) rfl ?_
    refine st (s_pickF rfl rfl) rfl ?_
    refine st (s_move rfl) rfl ?_
    refine sg1 rfl rfl (s_move rfl) rfl ?_
    refine sg1 rfl rfl (sF (by omega) (s_ne rfl rfl)) rfl ?_
    refine st (s_pickF rfl rfl) rfl ?_
    refine st (s_move rfl) rfl ?_
    refine sg1 rfl rfl (s_move rfl) rfl ?_
    refine sg1 rfl rfl (sF (by omega) (s_ne rfl rfl)) rfl ?_
    refine st (s_pickF rfl rfl) rfl ?_
    refine st (s_move rfl) rfl ?_
    refine sg1 rfl rfl (s_loadB 3 rfl rfl rfl) rfl ?_
    refine sg1 rfl rfl (s_callk (hV1 ) rfl ⟨VT.le_refl _, trivial⟩) rfl ?_
    refine sg1 rfl rfl (s_not rfl) rfl ?_
    refine st (s_pickF rfl rfl) rfl ?_
    refine st (s_move rfl) rfl ?_
    refine sg1 rfl rfl (s_loadB 2 rfl rfl rfl) rfl ?_
    refine sg1 rfl rfl (s_callk (hV2 ) rfl ⟨VT.le_refl _, trivial⟩) rfl ?_
    refine sg1 rfl rfl (s_not rfl) rfl ?_
    refine st (s_pickF rfl rfl) rfl ?_
    refine Run.nil ?_
    refine pj_then ?_
    refine J_cond0 rfl ?_
    refine J_skip ?_
    refine pj_then ?_
    refine J_seq ?_
    refine J_seq ?_
    refine J_reg ?_
    refine st (s_fieldAddr rfl) rfl ?_
    refine st (s_loadB 5 rfl rfl rfl) rfl ?_
    refine st (sT (by omega) (s_gt rfl rfl)) rfl ?_
    refine Run.nil ?_
    refine pj_then ?_
    refine J_cond1 rfl ?_
    refine J_seq ?_
    refine J_regd 13 mixed (by kernel_rfl) (by decide) ?_
    refine st (s_indexBC 0 _ rfl rfl (ltN rfl)) rfl ?_
    refine st (s_loadB 6 rfl rfl rfl) rfl ?_
    refine st (s_toI64 rfl (by omega) (by omega)) rfl ?_
    refine st (s_fieldAddr rfl) rfl ?_
    refine st (s_loadB 5 rfl rfl rfl) rfl ?_
    refine st (s_remN _ rfl rfl rfl (by omega)) rfl ?_
    refine st (s_indexBC 1 _ rfl rfl (ltN rfl)) rfl ?_
    refine st (s_loadB 6 rfl rfl rfl) rfl ?_
    refine st (s_toI64 rfl (by omega) (by omega)) rfl ?_
    refine st (s_fieldAddr rfl) rfl ?_
    refine st (s_loadB 5 rfl rfl rfl) rfl ?_
    refine st (s_remN _ rfl rfl rfl (by omega)) rfl ?_
    refine st (s_assign rfl) rfl ?_
    refine Run.nil ?_
    refine st (s_assign rfl) rfl ?_
    refine Run.nil ?_
    refine pj_then ?_
    refine J_seq ?_
    refine J_reg ?_
    refine st (s_loadW 5 rfl rfl) rfl ?_
    refine a_callM (hCo ) rfl ⟨VT.le_refl _, trivial⟩ rfl rfl (fun s104 => ?_)
    refine a_allocS (T := 29) rfl rfl rfl (fun b22 => ?_)
    refine a_storeW 0 rfl rfl rfl rfl ?_
    refine Run.nil ?_
    refine pj_then ?_
    refine J_seq ?_
    obtain ⟨⟨bs, sv1, cap1⟩, hlen, hsv⟩ := s104
    dsimp only at hlen hsv
    obtain ⟨bo, rfl⟩ := sv_some hsv (by omega)
    unfold newT outO
    dsimp only
    generalize w0 % n = i at *
    generalize w1 % n = k at *
    have hsw := hsw i k hi hj
    refine J_open [ownR n bs (fun i j => F i j * 1)] (perm3 _ _ _ _) (.keep (EntO.refl _) (.keep (rows_read hlen) (EntM.refl _))) (EntG.refl _) ?_
    apply J_regG (Γ1 := [(22, _), (20, _), (21, _), (10, _), (12, _), (14, _), (16, _), (18, _), (7, _), (8, _)]) (M1 := [_, _, _, _, _, _, _, _, _, _, _]) 17 6 [3, 4, 5] [] mixed (by kernel_rfl) (by decide)
    · refine st (s_fieldAddr rfl) rfl ?_
      refine st (s_loadB 0 rfl rfl rfl) rfl ?_
      refine st (s_move rfl) rfl ?_
      refine st (s_fieldAddr rfl) rfl ?_
      refine st (s_loadB 0 rfl rfl rfl) rfl ?_
      refine st (s_move rfl) rfl ?_
      refine st (s_fieldAddr rfl) rfl ?_
      refine st (s_loadB 0 rfl rfl rfl) rfl ?_
      refine st (s_move rfl) rfl ?_
      refine st (s_indexON rfl rfl (by omega)) rfl ?_
      refine st (s_loadE 1 rfl rfl (by omega)) rfl ?_
      refine st (s_fieldAddr rfl) rfl ?_
      refine st (s_loadB 0 rfl rfl rfl) rfl ?_
      refine st (s_move rfl) rfl ?_
      refine st (s_indexON rfl rfl (by omega)) rfl ?_
      refine st (s_loadE 1 rfl rfl (by omega)) rfl ?_
      refine st (s_indexON rfl rfl (by omega)) rfl ?_
      refine Run.nil ?_
      refine entry3 (Γa := [(22, _), (20, _), (21, _), (10, _), (12, _), (14, _), (16, _), (18, _), (7, _), (8, _), (121, _), (115, _), (120, _)]) (Γb := [(22, _), (20, _), (21, _), (10, _), (12, _), (14, _), (16, _), (18, _), (7, _), (8, _), (121, _), (115, _), (120, _), (110, _)]) (Γc := [(22, _), (20, _), (21, _), (10, _), (12, _), (14, _), (16, _), (18, _), (7, _), (8, _), (121, _), (115, _), (120, _), (109, _)]) (Γd := [(22, _), (20, _), (21, _), (10, _), (12, _), (14, _), (16, _), (18, _), (7, _), (8, _), (121, _), (115, _), (120, _), (109, _), (110, _)]) (Γe := [(22, _), (20, _), (21, _), (10, _), (12, _), (14, _), (16, _), (18, _), (7, _), (8, _), (121, _), (115, _), (120, _), (108, _)]) (Γf := [(22, _), (20, _), (21, _), (10, _), (12, _), (14, _), (16, _), (18, _), (7, _), (8, _), (121, _), (115, _), (120, _), (108, _), (110, _)]) (Γg := [(22, _), (20, _), (21, _), (10, _), (12, _), (14, _), (16, _), (18, _), (7, _), (8, _), (121, _), (115, _), (120, _), (109, _)]) (Γh := [(22, _), (20, _), (21, _), (10, _), (12, _), (14, _), (16, _), (18, _), (7, _), (8, _), (121, _), (115, _), (120, _), (109, _), (110, _)]) (rem := [17, 18, 19]) rfl (by repeat (first | exact SubG.nil | refine SubG.cons rfl (VT.le_refl _) ?_)) rfl (by repeat (first | exact SubG.nil | refine SubG.cons rfl (VT.le_refl _) ?_)) rfl (by repeat (first | exact SubG.nil | refine SubG.cons rfl (VT.le_refl _) ?_)) rfl (by repeat (first | exact SubG.nil | refine SubG.cons rfl (VT.le_refl _) ?_)) rfl (by repeat (first | exact SubG.nil | refine SubG.cons rfl (VT.le_refl _) ?_)) rfl (by repeat (first | exact SubG.nil | refine SubG.cons rfl (VT.le_refl _) ?_)) rfl (by repeat (first | exact SubG.nil | refine SubG.cons rfl (VT.le_refl _) ?_)) rfl (by repeat (first | exact SubG.nil | refine SubG.cons rfl (VT.le_refl _) ?_)) rfl ?_ ?_ ?_ ?_ ?_ ?_ ?_ ?_
      · refine game_three (r1 := [4, 5, 17, 18, 19]) (r2 := [3, 4, 17, 18, 19]) (r3 := [3, 4, 5, 18, 19]) (i := 3) (j := 5) (k := 17) (by kernel_rfl) rfl rfl rfl rfl rfl rfl ?_ ?_ ?_ DeadOk.nil
        refine st (s_fieldAddr rfl) rfl ?_
        refine Run.nil ?_
        refine ⟨rfl, ?_⟩
        refine game_three (r1 := [5, 17, 18, 19]) (r2 := [4, 17, 18, 19]) (r3 := [4, 5, 18, 19]) (i := 4) (j := 5) (k := 17) (by kernel_rfl) rfl rfl rfl rfl rfl rfl ?_ ?_ ?_ DeadOk.nil
        refine st (s_loadB 0 rfl rfl rfl) rfl ?_
        refine Run.nil ?_
        refine ⟨rfl, ?_⟩
        refine game_two (rem' := [17, 18, 19]) (rem'' := [5, 18, 19]) (i := 5) (j := 17) (by kernel_rfl) rfl rfl rfl rfl ?_ ?_ DeadOk.nil
        refine st (s_move rfl) rfl ?_
        refine Run.nil ?_
        refine ⟨rfl, ?_⟩
        refine game_one (rem' := [18, 19]) (i := 17) (by kernel_rfl) rfl rfl ?_ DeadOk.nil
        (refine a_storeE 1 rfl rfl rfl ?_ rfl ?_; omega)
        refine Run.nil ?_
        refine ⟨rfl, ?_⟩
        refine game_one (rem' := [19]) (i := 18) (by kernel_rfl) rfl rfl ?_ DeadOk.nil
        refine st (s_indexON rfl rfl (by omega)) rfl ?_
        refine Run.nil ?_
        refine ⟨rfl, ?_⟩
        refine game_one (rem' := []) (i := 19) (by kernel_rfl) rfl rfl ?_ DeadOk.nil
        (refine a_storeE 1 rfl rfl rfl ?_ rfl ?_; omega)
        refine Run.nil ?_
        refine ⟨rfl, ?_⟩
        refine game_end (by repeat (first | exact SubG.nil | refine SubG.cons rfl (VT.le_refl _) ?_)) (SubM.refl _) DeadOk.nil
        (refine a_storeE 1 rfl rfl rfl ?_ rfl ?_; omega)
        refine Run.nil ?_
        refine ⟨rfl, ?_⟩
        refine game_one (rem' := [18, 19]) (i := 5) (by kernel_rfl) rfl rfl ?_ DeadOk.nil
        refine st (s_move rfl) rfl ?_
        refine Run.nil ?_
        refine ⟨rfl, ?_⟩
        refine game_one (rem' := [19]) (i := 18) (by kernel_rfl) rfl rfl ?_ DeadOk.nil
        refine st (s_indexON rfl rfl (by omega)) rfl ?_
        refine Run.nil ?_
        refine ⟨rfl, ?_⟩
        refine game_one (rem' := []) (i := 19) (by kernel_rfl) rfl rfl ?_ DeadOk.nil
        (refine a_storeE 1 rfl rfl rfl ?_ rfl ?_; omega)
        refine Run.nil ?_
        refine ⟨rfl, ?_⟩
        refine game_end (by repeat (first | exact SubG.nil | refine SubG.cons rfl (VT.le_refl _) ?_)) (SubM.refl _) DeadOk.nil
        refine st (s_move rfl) rfl ?_
        refine Run.nil ?_
        refine ⟨rfl, ?_⟩
        refine game_two (rem' := [17, 18, 19]) (rem'' := [4, 18, 19]) (i := 4) (j := 17) (by kernel_rfl) rfl rfl rfl rfl ?_ ?_ DeadOk.nil
        refine st (s_loadB 0 rfl rfl rfl) rfl ?_
        refine Run.nil ?_
        refine ⟨rfl, ?_⟩
        refine game_one (rem' := [18, 19]) (i := 17) (by kernel_rfl) rfl rfl ?_ DeadOk.nil
        (refine a_storeE 1 rfl rfl rfl ?_ rfl ?_; omega)
        refine Run.nil ?_
        refine ⟨rfl, ?_⟩
        refine game_one (rem' := [19]) (i := 18) (by kernel_rfl) rfl rfl ?_ DeadOk.nil
        refine st (s_indexON rfl rfl (by omega)) rfl ?_
        refine Run.nil ?_
        refine ⟨rfl, ?_⟩
        refine game_one (rem' := []) (i := 19) (by kernel_rfl) rfl rfl ?_ DeadOk.nil
        (refine a_storeE 1 rfl rfl rfl ?_ rfl ?_; omega)
        refine Run.nil ?_
        refine ⟨rfl, ?_⟩
        refine game_end (by repeat (first | exact SubG.nil | refine SubG.cons rfl (VT.le_refl _) ?_)) (SubM.refl _) DeadOk.nil
        (refine a_storeE 1 rfl rfl rfl ?_ rfl ?_; omega)
        refine Run.nil ?_
        refine ⟨rfl, ?_⟩
        refine game_one (rem' := [18, 19]) (i := 4) (by kernel_rfl) rfl rfl ?_ DeadOk.nil
        refine st (s_loadB 0 rfl rfl rfl) rfl ?_
        refine Run.nil ?_
        refine ⟨rfl, ?_⟩
        refine game_one (rem' := [19]) (i := 18) (by kernel_rfl) rfl rfl ?_ DeadOk.nil
        refine st (s_indexON rfl rfl (by omega)) rfl ?_
        refine Run.nil ?_
        refine ⟨rfl, ?_⟩
        refine game_one (rem' := []) (i := 19) (by kernel_rfl) rfl rfl ?_ DeadOk.nil
        (refine a_storeE 1 rfl rfl rfl ?_ rfl ?_; omega)
        refine Run.nil ?_
        refine ⟨rfl, ?_⟩
        refine game_end (by repeat (first | exact SubG.nil | refine SubG.cons rfl (VT.le_refl _) ?_)) (SubM.refl _) DeadOk.nil
        (refine a_storeE 1 rfl rfl rfl ?_ rfl ?_; omega)
        refine Run.nil ?_
        refine ⟨rfl, ?_⟩
        refine game_two (rem' := [5, 18, 19]) (rem'' := [4, 18, 19]) (i := 4) (j := 5) (by kernel_rfl) rfl rfl rfl rfl ?_ ?_ DeadOk.nil
        refine st (s_loadB 0 rfl rfl rfl) rfl ?_
        refine Run.nil ?_
        refine ⟨rfl, ?_⟩
        refine game_one (rem' := [18, 19]) (i := 5) (by kernel_rfl) rfl rfl ?_ DeadOk.nil
        refine st (s_move rfl) rfl ?_
        refine Run.nil ?_
        refine ⟨rfl, ?_⟩
        refine game_one (rem' := [19]) (i := 18) (by kernel_rfl) rfl rfl ?_ DeadOk.nil
        refine st (s_indexON rfl rfl (by omega)) rfl ?_
        refine Run.nil ?_
        refine ⟨rfl, ?_⟩
        refine game_one (rem' := []) (i := 19) (by kernel_rfl) rfl rfl ?_ DeadOk.nil
        (refine a_storeE 1 rfl rfl rfl ?_ rfl ?_; omega)
        refine Run.nil ?_
        refine ⟨rfl, ?_⟩
        refine game_end (by repeat (first | exact SubG.nil | refine SubG.cons rfl (VT.le_refl _) ?_)) (SubM.refl _) DeadOk.nil
        refine st (s_move rfl) rfl ?_
        refine Run.nil ?_
        refine ⟨rfl, ?_⟩
        refine game_one (rem' := [18, 19]) (i := 4) (by kernel_rfl) rfl rfl ?_ DeadOk.nil
        refine st (s_loadB 0 rfl rfl rfl) rfl ?_
        refine Run.nil ?_
        refine ⟨rfl, ?_⟩
        refine game_one (rem' := [19]) (i := 18) (by kernel_rfl) rfl rfl ?_ DeadOk.nil
        refine st (s_indexON rfl rfl (by omega)) rfl ?_
        refine Run.nil ?_
        refine ⟨rfl, ?_⟩
        refine game_one (rem' := []) (i := 19) (by kernel_rfl) rfl rfl ?_ DeadOk.nil
        (refine a_storeE 1 rfl rfl rfl ?_ rfl ?_; omega)
        refine Run.nil ?_
        refine ⟨rfl, ?_⟩
        refine game_end (by repeat (first | exact SubG.nil | refine SubG.cons rfl (VT.le_refl _) ?_)) (SubM.refl _) DeadOk.nil
        refine st (s_move rfl) rfl ?_
        refine Run.nil ?_
        refine ⟨rfl, ?_⟩
        refine game_two (rem' := [4, 17, 18, 19]) (rem'' := [3, 4, 18, 19]) (i := 3) (j := 17) (by kernel_rfl) rfl rfl rfl rfl ?_ ?_ DeadOk.nil
        refine st (s_fieldAddr rfl) rfl ?_
        refine Run.nil ?_
        refine ⟨rfl, ?_⟩
        refine game_two (rem' := [17, 18, 19]) (rem'' := [4, 18, 19]) (i := 4) (j := 17) (by kernel_rfl) rfl rfl rfl rfl ?_ ?_ DeadOk.nil
        refine st (s_loadB 0 rfl rfl rfl) rfl ?_
        refine Run.nil ?_
        refine ⟨rfl, ?_⟩
        refine game_one (rem' := [18, 19]) (i := 17) (by kernel_rfl) rfl rfl ?_ DeadOk.nil
        (refine a_storeE 1 rfl rfl rfl ?_ rfl ?_; omega)
        refine Run.nil ?_
        refine ⟨rfl, ?_⟩
        refine game_one (rem' := [19]) (i := 18) (by kernel_rfl) rfl rfl ?_ DeadOk.nil
        refine st (s_indexON rfl rfl (by omega)) rfl ?_
        refine Run.nil ?_
        refine ⟨rfl, ?_⟩
        refine game_one (rem' := []) (i := 19) (by kernel_rfl) rfl rfl ?_ DeadOk.nil
        (refine a_storeE 1 rfl rfl rfl ?_ rfl ?_; omega)
        refine Run.nil ?_
        refine ⟨rfl, ?_⟩
        refine game_end (by repeat (first | exact SubG.nil | refine SubG.cons rfl (VT.le_refl _) ?_)) (SubM.refl _) DeadOk.nil
        (refine a_storeE 1 rfl rfl rfl ?_ rfl ?_; omega)
        refine Run.nil ?_
        refine ⟨rfl, ?_⟩
        refine game_one (rem' := [18, 19]) (i := 4) (by kernel_rfl) rfl rfl ?_ DeadOk.nil
        refine st (s_loadB 0 rfl rfl rfl) rfl ?_
        refine Run.nil ?_
        refine ⟨rfl, ?_⟩
        refine game_one (rem' := [19]) (i := 18) (by kernel_rfl) rfl rfl ?_ DeadOk.nil
        refine st (s_indexON rfl rfl (by omega)) rfl ?_
        refine Run.nil ?_
        refine ⟨rfl, ?_⟩
        refine game_one (rem' := []) (i := 19) (by kernel_rfl) rfl rfl ?_ DeadOk.nil
        (refine a_storeE 1 rfl rfl rfl ?_ rfl ?_; omega)
        refine Run.nil ?_
        refine ⟨rfl, ?_⟩
        refine game_end (by repeat (first | exact SubG.nil | refine SubG.cons rfl (VT.le_refl _) ?_)) (SubM.refl _) DeadOk.nil
        (refine a_storeE 1 rfl rfl rfl ?_ rfl ?_; omega)
        refine Run.nil ?_
        refine ⟨rfl, ?_⟩
        refine game_one (rem' := [4, 18, 19]) (i := 3) (by kernel_rfl) rfl rfl ?_ DeadOk.nil
        refine st (s_fieldAddr rfl) rfl ?_
        refine Run.nil ?_
        refine ⟨rfl, ?_⟩
        refine game_one (rem' := [18, 19]) (i := 4) (by kernel_rfl) rfl rfl ?_ DeadOk.nil
        refine st (s_loadB 0 rfl rfl rfl) rfl ?_
        refine Run.nil ?_
        refine ⟨rfl, ?_⟩
        refine game_one (rem' := [19]) (i := 18) (by kernel_rfl) rfl rfl ?_ DeadOk.nil
        refine st (s_indexON rfl rfl (by omega)) rfl ?_
        refine Run.nil ?_
        refine ⟨rfl, ?_⟩
        refine game_one (rem' := []) (i := 19) (by kernel_rfl) rfl rfl ?_ DeadOk.nil
        (refine a_storeE 1 rfl rfl rfl ?_ rfl ?_; omega)
        refine Run.nil ?_
        refine ⟨rfl, ?_⟩
        refine game_end (by repeat (first | exact SubG.nil | refine SubG.cons rfl (VT.le_refl _) ?_)) (SubM.refl _) DeadOk.nil
        (refine a_storeE 1 rfl rfl rfl ?_ rfl ?_; omega)
        refine Run.nil ?_
        refine ⟨rfl, ?_⟩
        refine game_two (rem' := [4, 5, 18, 19]) (rem'' := [3, 4, 18, 19]) (i := 3) (j := 5) (by kernel_rfl) rfl rfl rfl rfl ?_ ?_ DeadOk.nil
        refine st (s_fieldAddr rfl) rfl ?_
        refine Run.nil ?_
        refine ⟨rfl, ?_⟩
        refine game_two (rem' := [5, 18, 19]) (rem'' := [4, 18, 19]) (i := 4) (j := 5) (by kernel_rfl) rfl rfl rfl rfl ?_ ?_ DeadOk.nil
        refine st (s_loadB 0 rfl rfl rfl) rfl ?_
        refine Run.nil ?_
        refine ⟨rfl, ?_⟩
        refine game_one (rem' := [18, 19]) (i := 5) (by kernel_rfl) rfl rfl ?_ DeadOk.nil
        refine st (s_move rfl) rfl ?_
        refine Run.nil ?_
        refine ⟨rfl, ?_⟩
        refine game_one (rem' := [19]) (i := 18) (by kernel_rfl) rfl rfl ?_ DeadOk.nil
        refine st (s_indexON rfl rfl (by omega)) rfl ?_
        refine Run.nil ?_
        refine ⟨rfl, ?_⟩
        refine game_one (rem' := []) (i := 19) (by kernel_rfl) rfl rfl ?_ DeadOk.nil
        (refine a_storeE 1 rfl rfl rfl ?_ rfl ?_; omega)
        refine Run.nil ?_
        refine ⟨rfl, ?_⟩
        refine game_end (by repeat (first | exact SubG.nil | refine SubG.cons rfl (VT.le_refl _) ?_)) (SubM.refl _) DeadOk.nil
        refine st (s_move rfl) rfl ?_
        refine Run.nil ?_
        refine ⟨rfl, ?_⟩
        refine game_one (rem' := [18, 19]) (i := 4) (by kernel_rfl) rfl rfl ?_ DeadOk.nil
        refine st (s_loadB 0 rfl rfl rfl) rfl ?_
        refine Run.nil ?_
        refine ⟨rfl, ?_⟩
        refine game_one (rem' := [19]) (i := 18) (by kernel_rfl) rfl rfl ?_ DeadOk.nil
        refine st (s_indexON rfl rfl (by omega)) rfl ?_
        refine Run.nil ?_
        refine ⟨rfl, ?_⟩
        refine game_one (rem' := []) (i := 19) (by kernel_rfl) rfl rfl ?_ DeadOk.nil
        (refine a_storeE 1 rfl rfl rfl ?_ rfl ?_; omega)
        refine Run.nil ?_
        refine ⟨rfl, ?_⟩
        refine game_end (by repeat (first | exact SubG.nil | refine SubG.cons rfl (VT.le_refl _) ?_)) (SubM.refl _) DeadOk.nil
        refine st (s_move rfl) rfl ?_
        refine Run.nil ?_
        refine ⟨rfl, ?_⟩
        refine game_one (rem' := [4, 18, 19]) (i := 3) (by kernel_rfl) rfl rfl ?_ DeadOk.nil
        refine st (s_fieldAddr rfl) rfl ?_
        refine Run.nil ?_
        refine ⟨rfl, ?_⟩
        refine game_one (rem' := [18, 19]) (i := 4) (by kernel_rfl) rfl rfl ?_ DeadOk.nil
        refine st (s_loadB 0 rfl rfl rfl) rfl ?_
        refine Run.nil ?_
        refine ⟨rfl, ?_⟩
        refine game_one (rem' := [19]) (i := 18) (by kernel_rfl) rfl rfl ?_ DeadOk.nil
        refine st (s_indexON rfl rfl (by omega)) rfl ?_
        refine Run.nil ?_
        refine ⟨rfl, ?_⟩
        refine game_one (rem' := []) (i := 19) (by kernel_rfl) rfl rfl ?_ DeadOk.nil
        (refine a_storeE 1 rfl rfl rfl ?_ rfl ?_; omega)
        refine Run.nil ?_
        refine ⟨rfl, ?_⟩
        refine game_end (by repeat (first | exact SubG.nil | refine SubG.cons rfl (VT.le_refl _) ?_)) (SubM.refl _) DeadOk.nil
      · refine game_two (rem' := [4, 17, 18, 19]) (rem'' := [3, 4, 18, 19]) (i := 3) (j := 17) (by kernel_rfl) rfl rfl rfl rfl ?_ ?_ DeadOk.nil
        refine st (s_fieldAddr rfl) rfl ?_
        refine Run.nil ?_
        refine ⟨rfl, ?_⟩
        refine game_two (rem' := [17, 18, 19]) (rem'' := [4, 18, 19]) (i := 4) (j := 17) (by kernel_rfl) rfl rfl rfl rfl ?_ ?_ DeadOk.nil
        refine st (s_loadB 0 rfl rfl rfl) rfl ?_
        refine Run.nil ?_
        refine ⟨rfl, ?_⟩
        refine game_one (rem' := [18, 19]) (i := 17) (by kernel_rfl) rfl rfl ?_ DeadOk.nil
        (refine a_storeE 1 rfl rfl rfl ?_ rfl ?_; omega)
        refine Run.nil ?_
        refine ⟨rfl, ?_⟩
        refine game_one (rem' := [19]) (i := 18) (by kernel_rfl) rfl rfl ?_ DeadOk.nil
        refine st (s_indexON rfl rfl (by omega)) rfl ?_
        refine Run.nil ?_
        refine ⟨rfl, ?_⟩
        refine game_one (rem' := []) (i := 19) (by kernel_rfl) rfl rfl ?_ DeadOk.nil
        (refine a_storeE 1 rfl rfl rfl ?_ rfl ?_; omega)
        refine Run.nil ?_
        refine ⟨rfl, ?_⟩
        refine game_end (by repeat (first | exact SubG.nil | refine SubG.cons rfl (VT.le_refl _) ?_)) (SubM.refl _) DeadOk.nil
        (refine a_storeE 1 rfl rfl rfl ?_ rfl ?_; omega)
        refine Run.nil ?_
        refine ⟨rfl, ?_⟩
        refine game_one (rem' := [18, 19]) (i := 4) (by kernel_rfl) rfl rfl ?_ DeadOk.nil
        refine st (s_loadB 0 rfl rfl rfl) rfl ?_
        refine Run.nil ?_
        refine ⟨rfl, ?_⟩
        refine game_one (rem' := [19]) (i := 18) (by kernel_rfl) rfl rfl ?_ DeadOk.nil
        refine st (s_indexON rfl rfl (by omega)) rfl ?_
        refine Run.nil ?_
        refine ⟨rfl, ?_⟩
        refine game_one (rem' := []) (i := 19) (by kernel_rfl) rfl rfl ?_ DeadOk.nil
        (refine a_storeE 1 rfl rfl rfl ?_ rfl ?_; omega)
        refine Run.nil ?_
        refine ⟨rfl, ?_⟩
        refine game_end (by repeat (first | exact SubG.nil | refine SubG.cons rfl (VT.le_refl _) ?_)) (SubM.refl _) DeadOk.nil
        (refine a_storeE 1 rfl rfl rfl ?_ rfl ?_; omega)
        refine Run.nil ?_
        refine ⟨rfl, ?_⟩
        refine game_one (rem' := [4, 18, 19]) (i := 3) (by kernel_rfl) rfl rfl ?_ DeadOk.nil
        refine st (s_fieldAddr rfl) rfl ?_
        refine Run.nil ?_
        refine ⟨rfl, ?_⟩
        refine game_one (rem' := [18, 19]) (i := 4) (by kernel_rfl) rfl rfl ?_ DeadOk.nil
        refine st (s_loadB 0 rfl rfl rfl) rfl ?_
        refine Run.nil ?_
        refine ⟨rfl, ?_⟩
        refine game_one (rem' := [19]) (i := 18) (by kernel_rfl) rfl rfl ?_ DeadOk.nil
        refine st (s_indexON rfl rfl (by omega)) rfl ?_
        refine Run.nil ?_
        refine ⟨rfl, ?_⟩
        refine game_one (rem' := []) (i := 19) (by kernel_rfl) rfl rfl ?_ DeadOk.nil
        (refine a_storeE 1 rfl rfl rfl ?_ rfl ?_; omega)
        refine Run.nil ?_
        refine ⟨rfl, ?_⟩
        refine game_end (by repeat (first | exact SubG.nil | refine SubG.cons rfl (VT.le_refl _) ?_)) (SubM.refl _) DeadOk.nil
      · refine game_three (r1 := [5, 17, 18, 19]) (r2 := [3, 17, 18, 19]) (r3 := [3, 5, 18, 19]) (i := 3) (j := 5) (k := 17) (by kernel_rfl) rfl rfl rfl rfl rfl rfl ?_ ?_ ?_ DeadOk.nil
        refine st (s_fieldAddr rfl) rfl ?_
        refine Run.nil ?_
        refine ⟨rfl, ?_⟩
        refine game_two (rem' := [17, 18, 19]) (rem'' := [5, 18, 19]) (i := 5) (j := 17) (by kernel_rfl) rfl rfl rfl rfl ?_ ?_ DeadOk.nil
        refine st (s_move rfl) rfl ?_
        refine Run.nil ?_
        refine ⟨rfl, ?_⟩
        refine game_one (rem' := [18, 19]) (i := 17) (by kernel_rfl) rfl rfl ?_ DeadOk.nil
        (refine a_storeE 1 rfl rfl rfl ?_ rfl ?_; omega)
        refine Run.nil ?_
        refine ⟨rfl, ?_⟩
        refine game_one (rem' := [19]) (i := 18) (by kernel_rfl) rfl rfl ?_ DeadOk.nil
        refine st (s_indexON rfl rfl (by omega)) rfl ?_
        refine Run.nil ?_
        refine ⟨rfl, ?_⟩
        refine game_one (rem' := []) (i := 19) (by kernel_rfl) rfl rfl ?_ DeadOk.nil
        (refine a_storeE 1 rfl rfl rfl ?_ rfl ?_; omega)
        refine Run.nil ?_
        refine ⟨rfl, ?_⟩
        refine game_end (by repeat (first | exact SubG.nil | refine SubG.cons rfl (VT.le_refl _) ?_)) (SubM.refl _) DeadOk.nil
        (refine a_storeE 1 rfl rfl rfl ?_ rfl ?_; omega)
        refine Run.nil ?_
        refine ⟨rfl, ?_⟩
        refine game_one (rem' := [18, 19]) (i := 5) (by kernel_rfl) rfl rfl ?_ DeadOk.nil
        refine st (s_move rfl) rfl ?_
        refine Run.nil ?_
        refine ⟨rfl, ?_⟩
        refine game_one (rem' := [19]) (i := 18) (by kernel_rfl) rfl rfl ?_ DeadOk.nil
        refine st (s_indexON rfl rfl (by omega)) rfl ?_
        refine Run.nil ?_
        refine ⟨rfl, ?_⟩
        refine game_one (rem' := []) (i := 19) (by kernel_rfl) rfl rfl ?_ DeadOk.nil
        (refine a_storeE 1 rfl rfl rfl ?_ rfl ?_; omega)
        refine Run.nil ?_
        refine ⟨rfl, ?_⟩
        refine game_end (by repeat (first | exact SubG.nil | refine SubG.cons rfl (VT.le_refl _) ?_)) (SubM.refl _) DeadOk.nil
        refine st (s_move rfl) rfl ?_
        refine Run.nil ?_
        refine ⟨rfl, ?_⟩
        refine game_two (rem' := [17, 18, 19]) (rem'' := [3, 18, 19]) (i := 3) (j := 17) (by kernel_rfl) rfl rfl rfl rfl ?_ ?_ DeadOk.nil
        refine st (s_fieldAddr rfl) rfl ?_
        refine Run.nil ?_
        refine ⟨rfl, ?_⟩
        refine game_one (rem' := [18, 19]) (i := 17) (by kernel_rfl) rfl rfl ?_ DeadOk.nil
        (refine a_storeE 1 rfl rfl rfl ?_ rfl ?_; omega)
        refine Run.nil ?_
        refine ⟨rfl, ?_⟩
        refine game_one (rem' := [19]) (i := 18) (by kernel_rfl) rfl rfl ?_ DeadOk.nil
        refine st (s_indexON rfl rfl (by omega)) rfl ?_
        refine Run.nil ?_
        refine ⟨rfl, ?_⟩
        refine game_one (rem' := []) (i := 19) (by kernel_rfl) rfl rfl ?_ DeadOk.nil
        (refine a_storeE 1 rfl rfl rfl ?_ rfl ?_; omega)
        refine Run.nil ?_
        refine ⟨rfl, ?_⟩
        refine game_end (by repeat (first | exact SubG.nil | refine SubG.cons rfl (VT.le_refl _) ?_)) (SubM.refl _) DeadOk.nil
        (refine a_storeE 1 rfl rfl rfl ?_ rfl ?_; omega)
        refine Run.nil ?_
        refine ⟨rfl, ?_⟩
        refine game_one (rem' := [18, 19]) (i := 3) (by kernel_rfl) rfl rfl ?_ DeadOk.nil
        refine st (s_fieldAddr rfl) rfl ?_
        refine Run.nil ?_
        refine ⟨rfl, ?_⟩
        refine game_one (rem' := [19]) (i := 18) (by kernel_rfl) rfl rfl ?_ DeadOk.nil
        refine st (s_indexON rfl rfl (by omega)) rfl ?_
        refine Run.nil ?_
        refine ⟨rfl, ?_⟩
        refine game_one (rem' := []) (i := 19) (by kernel_rfl) rfl rfl ?_ DeadOk.nil
        (refine a_storeE 1 rfl rfl rfl ?_ rfl ?_; omega)
        refine Run.nil ?_
        refine ⟨rfl, ?_⟩
        refine game_end (by repeat (first | exact SubG.nil | refine SubG.cons rfl (VT.le_refl _) ?_)) (SubM.refl _) DeadOk.nil
        (refine a_storeE 1 rfl rfl rfl ?_ rfl ?_; omega)
        refine Run.nil ?_
        refine ⟨rfl, ?_⟩
        refine game_two (rem' := [5, 18, 19]) (rem'' := [3, 18, 19]) (i := 3) (j := 5) (by kernel_rfl) rfl rfl rfl rfl ?_ ?_ DeadOk.nil
        refine st (s_fieldAddr rfl) rfl ?_
        refine Run.nil ?_
        refine ⟨rfl, ?_⟩
        refine game_one (rem' := [18, 19]) (i := 5) (by kernel_rfl) rfl rfl ?_ DeadOk.nil
        refine st (s_move rfl) rfl ?_
        refine Run.nil ?_
        refine ⟨rfl, ?_⟩
        refine game_one (rem' := [19]) (i := 18) (by kernel_rfl) rfl rfl ?_ DeadOk.nil
        refine st (s_indexON rfl rfl (by omega)) rfl ?_
        refine Run.nil ?_
        refine ⟨rfl, ?_⟩
        refine game_one (rem' := []) (i := 19) (by kernel_rfl) rfl rfl ?_ DeadOk.nil
        (refine a_storeE 1 rfl rfl rfl ?_ rfl ?_; omega)
        refine Run.nil ?_
        refine ⟨rfl, ?_⟩
        refine game_end (by repeat (first | exact SubG.nil | refine SubG.cons rfl (VT.le_refl _) ?_)) (SubM.refl _) DeadOk.nil
        refine st (s_move rfl) rfl ?_
        refine Run.nil ?_
        refine ⟨rfl, ?_⟩
        refine game_one (rem' := [18, 19]) (i := 3) (by kernel_rfl) rfl rfl ?_ DeadOk.nil
        refine st (s_fieldAddr rfl) rfl ?_
        refine Run.nil ?_
        refine ⟨rfl, ?_⟩
        refine game_one (rem' := [19]) (i := 18) (by kernel_rfl) rfl rfl ?_ DeadOk.nil
        refine st (s_indexON rfl rfl (by omega)) rfl ?_
        refine Run.nil ?_
        refine ⟨rfl, ?_⟩
        refine game_one (rem' := []) (i := 19) (by kernel_rfl) rfl rfl ?_ DeadOk.nil
        (refine a_storeE 1 rfl rfl rfl ?_ rfl ?_; omega)
        refine Run.nil ?_
        refine ⟨rfl, ?_⟩
        refine game_end (by repeat (first | exact SubG.nil | refine SubG.cons rfl (VT.le_refl _) ?_)) (SubM.refl _) DeadOk.nil
      · refine game_two (rem' := [17, 18, 19]) (rem'' := [3, 18, 19]) (i := 3) (j := 17) (by kernel_rfl) rfl rfl rfl rfl ?_ ?_ DeadOk.nil
        refine st (s_fieldAddr rfl) rfl ?_
        refine Run.nil ?_
        refine ⟨rfl, ?_⟩
        refine game_one (rem' := [18, 19]) (i := 17) (by kernel_rfl) rfl rfl ?_ DeadOk.nil
        (refine a_storeE 1 rfl rfl rfl ?_ rfl ?_; omega)
        refine Run.nil ?_
        refine ⟨rfl, ?_⟩
        refine game_one (rem' := [19]) (i := 18) (by kernel_rfl) rfl rfl ?_ DeadOk.nil
        refine st (s_indexON rfl rfl (by omega)) rfl ?_
        refine Run.nil ?_
        refine ⟨rfl, ?_⟩
        refine game_one (rem' := []) (i := 19) (by kernel_rfl) rfl rfl ?_ DeadOk.nil
        (refine a_storeE 1 rfl rfl rfl ?_ rfl ?_; omega)
        refine Run.nil ?_
        refine ⟨rfl, ?_⟩
        refine game_end (by repeat (first | exact SubG.nil | refine SubG.cons rfl (VT.le_refl _) ?_)) (SubM.refl _) DeadOk.nil
        (refine a_storeE 1 rfl rfl rfl ?_ rfl ?_; omega)
        refine Run.nil ?_
        refine ⟨rfl, ?_⟩
        refine game_one (rem' := [18, 19]) (i := 3) (by kernel_rfl) rfl rfl ?_ DeadOk.nil
        refine st (s_fieldAddr rfl) rfl ?_
        refine Run.nil ?_
        refine ⟨rfl, ?_⟩
        refine game_one (rem' := [19]) (i := 18) (by kernel_rfl) rfl rfl ?_ DeadOk.nil
        refine st (s_indexON rfl rfl (by omega)) rfl ?_
        refine Run.nil ?_
        refine ⟨rfl, ?_⟩
        refine game_one (rem' := []) (i := 19) (by kernel_rfl) rfl rfl ?_ DeadOk.nil
        (refine a_storeE 1 rfl rfl rfl ?_ rfl ?_; omega)
        refine Run.nil ?_
        refine ⟨rfl, ?_⟩
        refine game_end (by repeat (first | exact SubG.nil | refine SubG.cons rfl (VT.le_refl _) ?_)) (SubM.refl _) DeadOk.nil
      · refine game_three (r1 := [5, 17, 18, 19]) (r2 := [4, 17, 18, 19]) (r3 := [4, 5, 18, 19]) (i := 4) (j := 5) (k := 17) (by kernel_rfl) rfl rfl rfl rfl rfl rfl ?_ ?_ ?_ DeadOk.nil
        refine st (s_loadB 0 rfl rfl rfl) rfl ?_
        refine Run.nil ?_
        refine ⟨rfl, ?_⟩
        refine game_two (rem' := [17, 18, 19]) (rem'' := [5, 18, 19]) (i := 5) (j := 17) (by kernel_rfl) rfl rfl rfl rfl ?_ ?_ DeadOk.nil
        refine st (s_move rfl) rfl ?_
        refine Run.nil ?_
        refine ⟨rfl, ?_⟩
        refine game_one (rem' := [18, 19]) (i := 17) (by kernel_rfl) rfl rfl ?_ DeadOk.nil
        (refine a_storeE 1 rfl rfl rfl ?_ rfl ?_; omega)
        refine Run.nil ?_
        refine ⟨rfl, ?_⟩
        refine game_one (rem' := [19]) (i := 18) (by kernel_rfl) rfl rfl ?_ DeadOk.nil
        refine st (s_indexON rfl rfl (by omega)) rfl ?_
        refine Run.nil ?_
        refine ⟨rfl, ?_⟩
        refine game_one (rem' := []) (i := 19) (by kernel_rfl) rfl rfl ?_ DeadOk.nil
        (refine a_storeE 1 rfl rfl rfl ?_ rfl ?_; omega)
        refine Run.nil ?_
        refine ⟨rfl, ?_⟩
        refine game_end (by repeat (first | exact SubG.nil | refine SubG.cons rfl (VT.le_refl _) ?_)) (SubM.refl _) DeadOk.nil
        (refine a_storeE 1 rfl rfl rfl ?_ rfl ?_; omega)
        refine Run.nil ?_
        refine ⟨rfl, ?_⟩
        refine game_one (rem' := [18, 19]) (i := 5) (by kernel_rfl) rfl rfl ?_ DeadOk.nil
        refine st (s_move rfl) rfl ?_
        refine Run.nil ?_
        refine ⟨rfl, ?_⟩
        refine game_one (rem' := [19]) (i := 18) (by kernel_rfl) rfl rfl ?_ DeadOk.nil
        refine st (s_indexON rfl rfl (by omega)) rfl ?_
        refine Run.nil ?_
        refine ⟨rfl, ?_⟩
        refine game_one (rem' := []) (i := 19) (by kernel_rfl) rfl rfl ?_ DeadOk.nil
        (refine a_storeE 1 rfl rfl rfl ?_ rfl ?_; omega)
        refine Run.nil ?_
        refine ⟨rfl, ?_⟩
        refine game_end (by repeat (first | exact SubG.nil | refine SubG.cons rfl (VT.le_refl _) ?_)) (SubM.refl _) DeadOk.nil
        refine st (s_move rfl) rfl ?_
        refine Run.nil ?_
        refine ⟨rfl, ?_⟩
        refine game_two (rem' := [17, 18, 19]) (rem'' := [4, 18, 19]) (i := 4) (j := 17) (by kernel_rfl) rfl rfl rfl rfl ?_ ?_ DeadOk.nil
        refine st (s_loadB 0 rfl rfl rfl) rfl ?_
        refine Run.nil ?_
        refine ⟨rfl, ?_⟩
        refine game_one (rem' := [18, 19]) (i := 17) (by kernel_rfl) rfl rfl ?_ DeadOk.nil
        (refine a_storeE 1 rfl rfl rfl ?_ rfl ?_; omega)
        refine Run.nil ?_
        refine ⟨rfl, ?_⟩
        refine game_one (rem' := [19]) (i := 18) (by kernel_rfl) rfl rfl ?_ DeadOk.nil
        refine st (s_indexON rfl rfl (by omega)) rfl ?_
        refine Run.nil ?_
        refine ⟨rfl, ?_⟩
        refine game_one (rem' := []) (i := 19) (by kernel_rfl) rfl rfl ?_ DeadOk.nil
        (refine a_storeE 1 rfl rfl rfl ?_ rfl ?_; omega)
        refine Run.nil ?_
        refine ⟨rfl, ?_⟩
        refine game_end (by repeat (first | exact SubG.nil | refine SubG.cons rfl (VT.le_refl _) ?_)) (SubM.refl _) DeadOk.nil
        (refine a_storeE 1 rfl rfl rfl ?_ rfl ?_; omega)
        refine Run.nil ?_
        refine ⟨rfl, ?_⟩
        refine game_one (rem' := [18, 19]) (i := 4) (by kernel_rfl) rfl rfl ?_ DeadOk.nil
        refine st (s_loadB 0 rfl rfl rfl) rfl ?_
        refine Run.nil ?_
        refine ⟨rfl, ?_⟩
        refine game_one (rem' := [19]) (i := 18) (by kernel_rfl) rfl rfl ?_ DeadOk.nil
        refine st (s_indexON rfl rfl (by omega)) rfl ?_
        refine Run.nil ?_
        refine ⟨rfl, ?_⟩
        refine game_one (rem' := []) (i := 19) (by kernel_rfl) rfl rfl ?_ DeadOk.nil
        (refine a_storeE 1 rfl rfl rfl ?_ rfl ?_; omega)
        refine Run.nil ?_
        refine ⟨rfl, ?_⟩
        refine game_end (by repeat (first | exact SubG.nil | refine SubG.cons rfl (VT.le_refl _) ?_)) (SubM.refl _) DeadOk.nil
        (refine a_storeE 1 rfl rfl rfl ?_ rfl ?_; omega)
        refine Run.nil ?_
        refine ⟨rfl, ?_⟩
        refine game_two (rem' := [5, 18, 19]) (rem'' := [4, 18, 19]) (i := 4) (j := 5) (by kernel_rfl) rfl rfl rfl rfl ?_ ?_ DeadOk.nil
        refine st (s_loadB 0 rfl rfl rfl) rfl ?_
        refine Run.nil ?_
        refine ⟨rfl, ?_⟩
        refine game_one (rem' := [18, 19]) (i := 5) (by kernel_rfl) rfl rfl ?_ DeadOk.nil
        refine st (s_move rfl) rfl ?_
        refine Run.nil ?_
        refine ⟨rfl, ?_⟩
        refine game_one (rem' := [19]) (i := 18) (by kernel_rfl) rfl rfl ?_ DeadOk.nil
        refine st (s_indexON rfl rfl (by omega)) rfl ?_
        refine Run.nil ?_
        refine ⟨rfl, ?_⟩
        refine game_one (rem' := []) (i := 19) (by kernel_rfl) rfl rfl ?_ DeadOk.nil
        (refine a_storeE 1 rfl rfl rfl ?_ rfl ?_; omega)
        refine Run.nil ?_
        refine ⟨rfl, ?_⟩
        refine game_end (by repeat (first | exact SubG.nil | refine SubG.cons rfl (VT.le_refl _) ?_)) (SubM.refl _) DeadOk.nil
        refine st (s_move rfl) rfl ?_
        refine Run.nil ?_
        refine ⟨rfl, ?_⟩
        refine game_one (rem' := [18, 19]) (i := 4) (by kernel_rfl) rfl rfl ?_ DeadOk.nil
        refine st (s_loadB 0 rfl rfl rfl) rfl ?_
        refine Run.nil ?_
        refine ⟨rfl, ?_⟩
        refine game_one (rem' := [19]) (i := 18) (by kernel_rfl) rfl rfl ?_ DeadOk.nil
        refine st (s_indexON rfl rfl (by omega)) rfl ?_
        refine Run.nil ?_
        refine ⟨rfl, ?_⟩
        refine game_one (rem' := []) (i := 19) (by kernel_rfl) rfl rfl ?_ DeadOk.nil
        (refine a_storeE 1 rfl rfl rfl ?_ rfl ?_; omega)
        refine Run.nil ?_
        refine ⟨rfl, ?_⟩
        refine game_end (by repeat (first | exact SubG.nil | refine SubG.cons rfl (VT.le_refl _) ?_)) (SubM.refl _) DeadOk.nil
      · refine game_two (rem' := [17, 18, 19]) (rem'' := [4, 18, 19]) (i := 4) (j := 17) (by kernel_rfl) rfl rfl rfl rfl ?_ ?_ DeadOk.nil
        refine st (s_loadB 0 rfl rfl rfl) rfl ?_
        refine Run.nil ?_
        refine ⟨rfl, ?_⟩
        refine game_one (rem' := [18, 19]) (i := 17) (by kernel_rfl) rfl rfl ?_ DeadOk.nil
        (refine a_storeE 1 rfl rfl rfl ?_ rfl ?_; omega)
        refine Run.nil ?_
        refine ⟨rfl, ?_⟩
        refine game_one (rem' := [19]) (i := 18) (by kernel_rfl) rfl rfl ?_ DeadOk.nil
        refine st (s_indexON rfl rfl (by omega)) rfl ?_
        refine Run.nil ?_
        refine ⟨rfl, ?_⟩
        refine game_one (rem' := []) (i := 19) (by kernel_rfl) rfl rfl ?_ DeadOk.nil
        (refine a_storeE 1 rfl rfl rfl ?_ rfl ?_; omega)
        refine Run.nil ?_
        refine ⟨rfl, ?_⟩
        refine game_end (by repeat (first | exact SubG.nil | refine SubG.cons rfl (VT.le_refl _) ?_)) (SubM.refl _) DeadOk.nil
        (refine a_storeE 1 rfl rfl rfl ?_ rfl ?_; omega)
        refine Run.nil ?_
        refine ⟨rfl, ?_⟩
        refine game_one (rem' := [18, 19]) (i := 4) (by kernel_rfl) rfl rfl ?_ DeadOk.nil
        refine st (s_loadB 0 rfl rfl rfl) rfl ?_
        refine Run.nil ?_
        refine ⟨rfl, ?_⟩
        refine game_one (rem' := [19]) (i := 18) (by kernel_rfl) rfl rfl ?_ DeadOk.nil
        refine st (s_indexON rfl rfl (by omega)) rfl ?_
        refine Run.nil ?_
        refine ⟨rfl, ?_⟩
        refine game_one (rem' := []) (i := 19) (by kernel_rfl) rfl rfl ?_ DeadOk.nil
        (refine a_storeE 1 rfl rfl rfl ?_ rfl ?_; omega)
        refine Run.nil ?_
        refine ⟨rfl, ?_⟩
        refine game_end (by repeat (first | exact SubG.nil | refine SubG.cons rfl (VT.le_refl _) ?_)) (SubM.refl _) DeadOk.nil
      · refine game_two (rem' := [17, 18, 19]) (rem'' := [5, 18, 19]) (i := 5) (j := 17) (by kernel_rfl) rfl rfl rfl rfl ?_ ?_ DeadOk.nil
        refine st (s_move rfl) rfl ?_
        refine Run.nil ?_
        refine ⟨rfl, ?_⟩
        refine game_one (rem' := [18, 19]) (i := 17) (by kernel_rfl) rfl rfl ?_ DeadOk.nil
        (refine a_storeE 1 rfl rfl rfl ?_ rfl ?_; omega)
        refine Run.nil ?_
        refine ⟨rfl, ?_⟩
        refine game_one (rem' := [19]) (i := 18) (by kernel_rfl) rfl rfl ?_ DeadOk.nil
        refine st (s_indexON rfl rfl (by omega)) rfl ?_
        refine Run.nil ?_
        refine ⟨rfl, ?_⟩
        refine game_one (rem' := []) (i := 19) (by kernel_rfl) rfl rfl ?_ DeadOk.nil
        (refine a_storeE 1 rfl rfl rfl ?_ rfl ?_; omega)
        refine Run.nil ?_
        refine ⟨rfl, ?_⟩
        refine game_end (by repeat (first | exact SubG.nil | refine SubG.cons rfl (VT.le_refl _) ?_)) (SubM.refl _) DeadOk.nil
        (refine a_storeE 1 rfl rfl rfl ?_ rfl ?_; omega)
        refine Run.nil ?_
        refine ⟨rfl, ?_⟩
        refine game_one (rem' := [18, 19]) (i := 5) (by kernel_rfl) rfl rfl ?_ DeadOk.nil
        refine st (s_move rfl) rfl ?_
        refine Run.nil ?_
        refine ⟨rfl, ?_⟩
        refine game_one (rem' := [19]) (i := 18) (by kernel_rfl) rfl rfl ?_ DeadOk.nil
        refine st (s_indexON rfl rfl (by omega)) rfl ?_
        refine Run.nil ?_
        refine ⟨rfl, ?_⟩
        refine game_one (rem' := []) (i := 19) (by kernel_rfl) rfl rfl ?_ DeadOk.nil
        (refine a_storeE 1 rfl rfl rfl ?_ rfl ?_; omega)
        refine Run.nil ?_
        refine ⟨rfl, ?_⟩
        refine game_end (by repeat (first | exact SubG.nil | refine SubG.cons rfl (VT.le_refl _) ?_)) (SubM.refl _) DeadOk.nil
      · refine game_one (rem' := [18, 19]) (i := 17) (by kernel_rfl) rfl rfl ?_ DeadOk.nil
        (refine a_storeE 1 rfl rfl rfl ?_ rfl ?_; omega)
        refine Run.nil ?_
        refine ⟨rfl, ?_⟩
        refine game_one (rem' := [19]) (i := 18) (by kernel_rfl) rfl rfl ?_ DeadOk.nil
        refine st (s_indexON rfl rfl (by omega)) rfl ?_
        refine Run.nil ?_
        refine ⟨rfl, ?_⟩
        refine game_one (rem' := []) (i := 19) (by kernel_rfl) rfl rfl ?_ DeadOk.nil
        (refine a_storeE 1 rfl rfl rfl ?_ rfl ?_; omega)
        refine Run.nil ?_
        refine ⟨rfl, ?_⟩
        refine game_end (by repeat (first | exact SubG.nil | refine SubG.cons rfl (VT.le_refl _) ?_)) (SubM.refl _) DeadOk.nil
    · refine PJ_sub (SubG.refl _) (.keep (Own.le_refl _) (.keep row_swp (SubM.refl _))) ?_
      refine PJ_open [sliO (some bo) 44 .one cap1 n (fun q => rowF n (swp i k F q))] (perm2 _ _ _) (.keep box_read (EntM.refl _)) (EntG.refl _) ?_
      by_cases hik : i = k
      · rw [if_pos hik] at hsw
        have hSd := hSa d
        have hSp := hSa (d * f)
        clear hSa
        by_cases hd : d = 0
        · have hl := hnew.2 hd
          have hz' := hz.2 hd
          subst hz'
          refine pj_then ?_
          refine J_seq ?_
          refine J_reg ?_
          refine st (s_loadW 0 rfl rfl) rfl ?_
          refine st (s_callk (hsw ) rfl ⟨VT.le_refl _, trivial⟩) rfl ?_
          refine st (s_move rfl) rfl ?_
          refine st (s_extract rfl rfl) rfl ?_
          refine st (s_extract rfl rfl) rfl ?_
          refine a_alloc (T := 34) rfl (ltN rfl) (fun b23 => ?_)
          refine a_storeB 0 rfl rfl rfl rfl rfl (leN rfl) rfl ?_
          refine st (s_assign rfl) rfl ?_
          refine Run.nil ?_
          refine pj_then ?_
          refine J_seq ?_
          refine J_reg ?_
          refine st (s_loadB 5 rfl rfl rfl) rfl ?_
          refine a_alloc (T := 34) rfl (ltN rfl) (fun b25 => ?_)
          refine a_storeB 0 rfl rfl rfl rfl rfl (leN rfl) rfl ?_
          refine Run.nil ?_
          refine pj_then ?_
          refine J_seq ?_
          refine J_seq ?_
          refine J_reg ?_
          refine st (s_move rfl) rfl ?_
          refine st (s_move rfl) rfl ?_
          refine st (sF (by omega) (s_ne rfl rfl)) rfl ?_
          refine Run.nil ?_
          refine pj_then ?_
          refine J_cond0 rfl ?_
          refine J_skip ?_
          refine pj_then ?_
          refine J_seq ?_
          refine J_reg ?_
          refine st (s_move rfl) rfl ?_
          refine st (sF (by omega) (s_ne rfl rfl)) rfl ?_
          refine st (s_move rfl) rfl ?_
          refine sg1 rfl rfl (s_loadB 1 rfl rfl rfl) rfl ?_
          refine sg1 rfl rfl (s_loadB 0 rfl rfl rfl) rfl ?_
          refine sg1 rfl rfl (s_callk (hSd ) rfl ⟨VT.le_refl _, VT.le_refl _, trivial⟩) rfl ?_
          refine sg1 rfl rfl (s_not rfl) rfl ?_
          refine st (s_pickF rfl rfl) rfl ?_
          refine Run.nil ?_
          refine pj_then ?_
          refine J_cond0 rfl ?_
          refine J_skip ?_
          refine pj_then ?_
          refine J_seq ?_
          refine J_regd 24 mixed (by kernel_rfl) (by decide) ?_
          refine st (s_loadB 4 rfl rfl rfl) rfl ?_
          refine st (s_loadB 6 rfl rfl rfl) rfl ?_
          refine st (s_loadB 5 rfl rfl rfl) rfl ?_
          refine st (s_callk (hMul ) rfl ⟨VT.le_refl _, VT.le_refl _, trivial⟩) rfl ?_
          refine st (s_callk (hSp ) rfl ⟨VT.le_refl _, VT.le_refl _, trivial⟩) rfl ?_
          refine st (s_move rfl) rfl ?_
          refine sg1 rfl rfl (s_loadB 3 rfl rfl rfl) rfl ?_
          refine sg1 rfl rfl (s_loadB 6 rfl rfl rfl) rfl ?_
          refine sg1 rfl rfl (s_callk (hSd ) rfl ⟨VT.le_refl _, VT.le_refl _, trivial⟩) rfl ?_
          refine st (s_pickT rfl rfl) rfl ?_
          refine st (s_move rfl) rfl ?_
          refine sg1 rfl rfl (s_loadB 6 rfl rfl rfl) rfl ?_
          refine sg1 rfl rfl (s_callk (hSg ) rfl ⟨VT.le_refl _, trivial⟩) rfl ?_
          refine sg1 rfl rfl (sT (by omega) (s_eq rfl rfl)) rfl ?_
          refine sg1 rfl rfl (s_move rfl) rfl ?_
          refine sg1 rfl rfl (s_len rfl) rfl ?_
          refine sg1 rfl rfl (s_fieldAddr rfl) rfl ?_
          refine sg1 rfl rfl (s_loadB 8 rfl rfl rfl) rfl ?_
          refine sg1 rfl rfl (sT (by omega) (s_lt rfl rfl)) rfl ?_
          refine sg1 rfl rfl (s_eqB rfl rfl) rfl ?_
          refine st (s_pickT rfl rfl) rfl ?_
          refine st (s_move rfl) rfl ?_
          refine sg1 rfl rfl (s_move rfl) rfl ?_
          refine st (s_pickT rfl rfl) rfl ?_
          refine Run.nil ?_
          refine st (s_assign rfl) rfl ?_
          refine Run.nil ?_
          refine pj_then ?_
          refine J_ret ?_
          refine retc1 Try.results3 (.tmp rfl (VT.le_refl _))
        · have hl : ¬ rows.length < n := fun h => hd (hnew.1 h)
          have hz' : sg ≠ 0 := fun h => hd (hz.1 h)
          refine pj_then ?_
          refine J_seq ?_
          refine J_reg ?_
          refine st (s_loadW 0 rfl rfl) rfl ?_
          refine st (s_callk (hsw ) rfl ⟨VT.le_refl _, trivial⟩) rfl ?_
          refine st (s_move rfl) rfl ?_
          refine st (s_extract rfl rfl) rfl ?_
          refine st (s_extract rfl rfl) rfl ?_
          refine a_alloc (T := 34) rfl (ltN rfl) (fun b23 => ?_)
          refine a_storeB 0 rfl rfl rfl rfl rfl (leN rfl) rfl ?_
          refine st (s_assign rfl) rfl ?_
          refine Run.nil ?_
          refine pj_then ?_
          refine J_seq ?_
          refine J_reg ?_
          refine st (s_loadB 5 rfl rfl rfl) rfl ?_
          refine a_alloc (T := 34) rfl (ltN rfl) (fun b25 => ?_)
          refine a_storeB 0 rfl rfl rfl rfl rfl (leN rfl) rfl ?_
          refine Run.nil ?_
          refine pj_then ?_
          refine J_seq ?_
          refine J_seq ?_
          refine J_reg ?_
          refine st (s_move rfl) rfl ?_
          refine st (s_move rfl) rfl ?_
          refine st (sF (by omega) (s_ne rfl rfl)) rfl ?_
          refine Run.nil ?_
          refine pj_then ?_
          refine J_cond0 rfl ?_
          refine J_skip ?_
          refine pj_then ?_
          refine J_seq ?_
          refine J_reg ?_
          refine st (s_move rfl) rfl ?_
          refine st (sF (by omega) (s_ne rfl rfl)) rfl ?_
          refine st (s_move rfl) rfl ?_
          refine sg1 rfl rfl (s_loadB 1 rfl rfl rfl) rfl ?_
          refine sg1 rfl rfl (s_loadB 0 rfl rfl rfl) rfl ?_
          refine sg1 rfl rfl (s_callk (hSd ) rfl ⟨VT.le_refl _, VT.le_refl _, trivial⟩) rfl ?_
          refine sg1 rfl rfl (s_not rfl) rfl ?_
          refine st (s_pickF rfl rfl) rfl ?_
          refine Run.nil ?_
          refine pj_then ?_
          refine J_cond0 rfl ?_
          refine J_skip ?_
          refine pj_then ?_
          refine J_seq ?_
          refine J_regd 24 mixed (by kernel_rfl) (by decide) ?_
          refine st (s_loadB 4 rfl rfl rfl) rfl ?_
          refine st (s_loadB 6 rfl rfl rfl) rfl ?_
          refine st (s_loadB 5 rfl rfl rfl) rfl ?_
          refine st (s_callk (hMul ) rfl ⟨VT.le_refl _, VT.le_refl _, trivial⟩) rfl ?_
          refine st (s_callk (hSp ) rfl ⟨VT.le_refl _, VT.le_refl _, trivial⟩) rfl ?_
          refine st (s_move rfl) rfl ?_
          refine sg1 rfl rfl (s_loadB 3 rfl rfl rfl) rfl ?_
          refine sg1 rfl rfl (s_loadB 6 rfl rfl rfl) rfl ?_
          refine sg1 rfl rfl (s_callk (hSd ) rfl ⟨VT.le_refl _, VT.le_refl _, trivial⟩) rfl ?_
          refine st (s_pickT rfl rfl) rfl ?_
          refine st (s_move rfl) rfl ?_
          refine sg1 rfl rfl (s_loadB 6 rfl rfl rfl) rfl ?_
          refine sg1 rfl rfl (s_callk (hSg ) rfl ⟨VT.le_refl _, trivial⟩) rfl ?_
          refine sg1 rfl rfl (sF (by assumption) (s_eq rfl rfl)) rfl ?_
          refine sg1 rfl rfl (s_move rfl) rfl ?_
          refine sg1 rfl rfl (s_len rfl) rfl ?_
          refine sg1 rfl rfl (s_fieldAddr rfl) rfl ?_
          refine sg1 rfl rfl (s_loadB 8 rfl rfl rfl) rfl ?_
          refine sg1 rfl rfl (sF (by omega) (s_lt rfl rfl)) rfl ?_
          refine sg1 rfl rfl (s_eqB rfl rfl) rfl ?_
          refine st (s_pickT rfl rfl) rfl ?_
          refine st (s_move rfl) rfl ?_
          refine sg1 rfl rfl (s_move rfl) rfl ?_
          refine st (s_pickT rfl rfl) rfl ?_
          refine Run.nil ?_
          refine st (s_assign rfl) rfl ?_
          refine Run.nil ?_
          refine pj_then ?_
          refine J_ret ?_
          refine retc1 Try.results3 (.tmp rfl (VT.le_refl _))
      · rw [if_neg hik] at hsw
        have hSd := hSa d
        have hSp := hSa (d * f)
        have hSn := hSa (-d)
        clear hSa
        by_cases hd : d = 0
        · have hl := hnew.2 hd
          have hz' := hz.2 hd
          subst hz'
          refine pj_then ?_
          refine J_seq ?_
          refine J_reg ?_
          refine st (s_loadW 0 rfl rfl) rfl ?_
          refine st (s_callk (hsw ) rfl ⟨VT.le_refl _, trivial⟩) rfl ?_
          refine st (s_move rfl) rfl ?_
          refine st (s_extract rfl rfl) rfl ?_
          refine st (s_extract rfl rfl) rfl ?_
          refine a_alloc (T := 34) rfl (ltN rfl) (fun b23 => ?_)
          refine a_storeB 0 rfl rfl rfl rfl rfl (leN rfl) rfl ?_
          refine st (s_assign rfl) rfl ?_
          refine Run.nil ?_
          refine pj_then ?_
          refine J_seq ?_
          refine J_reg ?_
          refine st (s_loadB 5 rfl rfl rfl) rfl ?_
          refine a_alloc (T := 34) rfl (ltN rfl) (fun b25 => ?_)
          refine a_storeB 0 rfl rfl rfl rfl rfl (leN rfl) rfl ?_
          refine Run.nil ?_
          refine pj_then ?_
          refine J_seq ?_
          refine J_seq ?_
          refine J_reg ?_
          refine st (s_move rfl) rfl ?_
          refine st (s_move rfl) rfl ?_
          refine st (sT (by omega) (s_ne rfl rfl)) rfl ?_
          refine Run.nil ?_
          refine pj_then ?_
          refine J_cond1 rfl ?_
          refine J_reg ?_
          refine st (s_loadB 6 rfl rfl rfl) rfl ?_
          refine st (s_callk (hNeg ) rfl ⟨VT.le_refl _, trivial⟩) rfl ?_
          refine a_storeB 0 rfl rfl rfl rfl rfl (leN rfl) rfl ?_
          refine Run.nil ?_
          refine pj_then ?_
          refine J_seq ?_
          refine J_reg ?_
          refine st (s_move rfl) rfl ?_
          refine st (sF (by omega) (s_ne rfl rfl)) rfl ?_
          refine st (s_move rfl) rfl ?_
          refine sg1 rfl rfl (s_loadB 1 rfl rfl rfl) rfl ?_
          refine sg1 rfl rfl (s_loadB 0 rfl rfl rfl) rfl ?_
          refine sg1 rfl rfl (s_callk (hSn ) rfl ⟨VT.le_refl _, VT.le_refl _, trivial⟩) rfl ?_
          refine sg1 rfl rfl (s_not rfl) rfl ?_
          refine st (s_pickF rfl rfl) rfl ?_
          refine Run.nil ?_
          refine pj_then ?_
          refine J_cond0 rfl ?_
          refine J_skip ?_
          refine pj_then ?_
          refine J_seq ?_
          refine J_regd 24 mixed (by kernel_rfl) (by decide) ?_
          refine st (s_loadB 4 rfl rfl rfl) rfl ?_
          refine st (s_loadB 6 rfl rfl rfl) rfl ?_
          refine st (s_loadB 5 rfl rfl rfl) rfl ?_
          refine st (s_callk (hMul ) rfl ⟨VT.le_refl _, VT.le_refl _, trivial⟩) rfl ?_
          refine st (s_callk (hSp ) rfl ⟨VT.le_refl _, VT.le_refl _, trivial⟩) rfl ?_
          refine st (s_move rfl) rfl ?_
          refine sg1 rfl rfl (s_loadB 3 rfl rfl rfl) rfl ?_
          refine sg1 rfl rfl (s_loadB 6 rfl rfl rfl) rfl ?_
          refine sg1 rfl rfl (s_callk (hSd ) rfl ⟨VT.le_refl _, VT.le_refl _, trivial⟩) rfl ?_
          refine st (s_pickT rfl rfl) rfl ?_
          refine st (s_move rfl) rfl ?_
          refine sg1 rfl rfl (s_loadB 6 rfl rfl rfl) rfl ?_
          refine sg1 rfl rfl (s_callk (hSg ) rfl ⟨VT.le_refl _, trivial⟩) rfl ?_
          refine sg1 rfl rfl (sT (by omega) (s_eq rfl rfl)) rfl ?_
          refine sg1 rfl rfl (s_move rfl) rfl ?_
          refine sg1 rfl rfl (s_len rfl) rfl ?_
          refine sg1 rfl rfl (s_fieldAddr rfl) rfl ?_
          refine sg1 rfl rfl (s_loadB 8 rfl rfl rfl) rfl ?_
          refine sg1 rfl rfl (sT (by omega) (s_lt rfl rfl)) rfl ?_
          refine sg1 rfl rfl (s_eqB rfl rfl) rfl ?_
          refine st (s_pickT rfl rfl) rfl ?_
          refine st (s_move rfl) rfl ?_
          refine sg1 rfl rfl (s_move rfl) rfl ?_
          refine st (s_pickT rfl rfl) rfl ?_
          refine Run.nil ?_
          refine st (s_assign rfl) rfl ?_
          refine Run.nil ?_
          refine pj_then ?_
          refine J_ret ?_
          refine retc1 Try.results3 (.tmp rfl (VT.le_refl _))
        · have hl : ¬ rows.length < n := fun h => hd (hnew.1 h)
          have hz' : sg ≠ 0 := fun h => hd (hz.1 h)
          refine pj_then ?_
          refine J_seq ?_
          refine J_reg ?_
          refine st (s_loadW 0 rfl rfl) rfl ?_
          refine st (s_callk (hsw ) rfl ⟨VT.le_refl _, trivial⟩) rfl ?_
          refine st (s_move rfl) rfl ?_
          refine st (s_extract rfl rfl) rfl ?_
          refine st (s_extract rfl rfl) rfl ?_
          refine a_alloc (T := 34) rfl (ltN rfl) (fun b23 => ?_)
          refine a_storeB 0 rfl rfl rfl rfl rfl (leN rfl) rfl ?_
          refine st (s_assign rfl) rfl ?_
          refine Run.nil ?_
          refine pj_then ?_
          refine J_seq ?_
          refine J_reg ?_
          refine st (s_loadB 5 rfl rfl rfl) rfl ?_
          refine a_alloc (T := 34) rfl (ltN rfl) (fun b25 => ?_)
          refine a_storeB 0 rfl rfl rfl rfl rfl (leN rfl) rfl ?_
          refine Run.nil ?_
          refine pj_then ?_
          refine J_seq ?_
          refine J_seq ?_
          refine J_reg ?_
          refine st (s_move rfl) rfl ?_
          refine st (s_move rfl) rfl ?_
          refine st (sT (by omega) (s_ne rfl rfl)) rfl ?_
          refine Run.nil ?_
          refine pj_then ?_
          refine J_cond1 rfl ?_
          refine J_reg ?_
          refine st (s_loadB 6 rfl rfl rfl) rfl ?_
          refine st (s_callk (hNeg ) rfl ⟨VT.le_refl _, trivial⟩) rfl ?_
          refine a_storeB 0 rfl rfl rfl rfl rfl (leN rfl) rfl ?_
          refine Run.nil ?_
          refine pj_then ?_
          refine J_seq ?_
          refine J_reg ?_
          refine st (s_move rfl) rfl ?_
          refine st (sF (by omega) (s_ne rfl rfl)) rfl ?_
          refine st (s_move rfl) rfl ?_
          refine sg1 rfl rfl (s_loadB 1 rfl rfl rfl) rfl ?_
          refine sg1 rfl rfl (s_loadB 0 rfl rfl rfl) rfl ?_
          refine sg1 rfl rfl (s_callk (hSn ) rfl ⟨VT.le_refl _, VT.le_refl _, trivial⟩) rfl ?_
          refine sg1 rfl rfl (s_not rfl) rfl ?_
          refine st (s_pickF rfl rfl) rfl ?_
          refine Run.nil ?_
          refine pj_then ?_
          refine J_cond0 rfl ?_
          refine J_skip ?_
          refine pj_then ?_
          refine J_seq ?_
          refine J_regd 24 mixed (by kernel_rfl) (by decide) ?_
          refine st (s_loadB 4 rfl rfl rfl) rfl ?_
          refine st (s_loadB 6 rfl rfl rfl) rfl ?_
          refine st (s_loadB 5 rfl rfl rfl) rfl ?_
          refine st (s_callk (hMul ) rfl ⟨VT.le_refl _, VT.le_refl _, trivial⟩) rfl ?_
          refine st (s_callk (hSp ) rfl ⟨VT.le_refl _, VT.le_refl _, trivial⟩) rfl ?_
          refine st (s_move rfl) rfl ?_
          refine sg1 rfl rfl (s_loadB 3 rfl rfl rfl) rfl ?_
          refine sg1 rfl rfl (s_loadB 6 rfl rfl rfl) rfl ?_
          refine sg1 rfl rfl (s_callk (hSd ) rfl ⟨VT.le_refl _, VT.le_refl _, trivial⟩) rfl ?_
          refine st (s_pickT rfl rfl) rfl ?_
          refine st (s_move rfl) rfl ?_
          refine sg1 rfl rfl (s_loadB 6 rfl rfl rfl) rfl ?_
          refine sg1 rfl rfl (s_callk (hSg ) rfl ⟨VT.le_refl _, trivial⟩) rfl ?_
          refine sg1 rfl rfl (sF (by assumption) (s_eq rfl rfl)) rfl ?_
          refine sg1 rfl rfl (s_move rfl) rfl ?_
          refine sg1 rfl rfl (s_len rfl) rfl ?_
          refine sg1 rfl rfl (s_fieldAddr rfl) rfl ?_
          refine sg1 rfl rfl (s_loadB 8 rfl rfl rfl) rfl ?_
          refine sg1 rfl rfl (sF (by omega) (s_lt rfl rfl)) rfl ?_
          refine sg1 rfl rfl (s_eqB rfl rfl) rfl ?_
          refine st (s_pickT rfl rfl) rfl ?_
          refine st (s_move rfl) rfl ?_
          refine sg1 rfl rfl (s_move rfl) rfl ?_
          refine st (s_pickT rfl rfl) rfl ?_
          refine Run.nil ?_
          refine st (s_assign rfl) rfl ?_
          refine Run.nil ?_
          refine pj_then ?_
          refine J_ret ?_
          refine retc1 Try.results3 (.tmp rfl (VT.le_refl _))
  · have hSd := hSa d
    have hSp := hSa (d * f)
    clear hSa
    by_cases hd : d = 0
    · have hl := hnew.2 hd
      have hz' := hz.2 hd
      subst hz'
      refine J_seq ?_
      refine J_reg ?_
      refine a_boxS rfl rfl (ltN rfl) (fun b3 => ?_)
      refine a_boxS rfl rfl (ltN rfl) (fun b4 => ?_)
      refine a_boxS rfl rfl (ltN rfl) (fun b5 => ?_)
      refine st (s_assign rfl) rfl ?_
      refine Run.nil ?_
      refine pj_then ?_
      refine J_seq ?_
      refine J_reg ?_
      refine st (s_callk (hsan ) rfl trivial) rfl ?_
      refine st (s_assign rfl) rfl ?_
      refine Run.nil ?_
      refine pj_then ?_
      refine J_seq ?_
      refine J_reg ?_
      refine st (s_loadW 2 rfl rfl) rfl ?_
      refine st (s_callk (hsq ) rfl ⟨VT.le_refl _, trivial⟩) rfl ?_
      refine a_allocS (T := 29) rfl rfl rfl (fun b8 => ?_)
      refine a_storeW 0 rfl rfl rfl rfl ?_
      refine Run.nil ?_
      refine pj_then ?_
      refine J_seq ?_
      refine J_reg ?_
      refine st (s_fieldAddr rfl) rfl ?_
      refine st (s_loadB 0 rfl rfl rfl) rfl ?_
      refine st (s_fieldAddr rfl) rfl ?_
      refine st (s_loadB 0 rfl rfl rfl) rfl ?_
      refine st (s_fieldAddr rfl) rfl ?_
      refine st (s_loadB 2 rfl rfl rfl) rfl ?_
      refine st (s_callk (hfi ) rfl ⟨VT.le_refl _, VT.le_refl _, VT.le_refl _, trivial⟩) rfl ?_
      refine a_allocS (T := 29) rfl rfl rfl (fun b9 => ?_)
      refine a_storeW 0 rfl rfl rfl rfl ?_
      refine Run.nil ?_
      refine pj_then ?_
      refine J_seq ?_
      refine J_reg ?_
      refine st (s_loadW 1 rfl rfl) rfl ?_
      refine st (s_callk (hD1 ) rfl ⟨VT.le_refl _, trivial⟩) rfl ?_
      refine st (s_move rfl) rfl ?_
      refine st (s_extract rfl rfl) rfl ?_
      refine st (s_extract rfl rfl) rfl ?_
      refine a_alloc (T := 34) rfl (ltN rfl) (fun b10 => ?_)
      refine a_storeB 0 rfl rfl rfl rfl rfl (leN rfl) rfl ?_
      refine st (s_assign rfl) rfl ?_
      refine Run.nil ?_
      refine pj_then ?_
      refine J_seq ?_
      refine J_reg ?_
      refine st (s_loadW 1 rfl rfl) rfl ?_
      refine st (s_callk (hD2 ) rfl ⟨VT.le_refl _, trivial⟩) rfl ?_
      refine st (s_move rfl) rfl ?_
      refine st (s_extract rfl rfl) rfl ?_
      refine st (s_extract rfl rfl) rfl ?_
      refine a_alloc (T := 34) rfl (ltN rfl) (fun b12 => ?_)
      refine a_storeB 0 rfl rfl rfl rfl rfl (leN rfl) rfl ?_
      refine st (s_assign rfl) rfl ?_
      refine Run.nil ?_
      refine pj_then ?_
      refine J_seq ?_
      refine J_reg ?_
      refine st (s_loadW 3 rfl rfl) rfl ?_
      refine st (s_loadW 2 rfl rfl) rfl ?_
      refine st (s_callk (hPr ) rfl ⟨VT.le_refl _, VT.le_refl _, trivial⟩) rfl ?_
      refine st (s_callk (hD3 ) rfl ⟨VT.le_refl _, trivial⟩) rfl ?_
      refine st (s_move rfl) rfl ?_
      refine st (s_extract rfl rfl) rfl ?_
      refine st (s_extract rfl rfl) rfl ?_
      refine a_alloc (T := 34) rfl (ltN rfl) (fun b14 => ?_)
      refine a_storeB 0 rfl rfl rfl rfl rfl (leN rfl) rfl ?_
      refine st (s_assign rfl) rfl ?_
      refine Run.nil ?_
      refine pj_then ?_
      refine J_seq ?_
      refine J_reg ?_
      refine st (s_loadW 4 rfl rfl) rfl ?_
      refine st (s_callk (hTr ) rfl ⟨VT.le_refl _, trivial⟩) rfl ?_
      refine st (s_callk (hD4 ) rfl ⟨VT.le_refl _, trivial⟩) rfl ?_
      refine st (s_move rfl) rfl ?_
      refine st (s_extract rfl rfl) rfl ?_
      refine st (s_extract rfl rfl) rfl ?_
      refine a_alloc (T := 34) rfl (ltN rfl) (fun b16 => ?_)
      refine a_storeB 0 rfl rfl rfl rfl rfl (leN rfl) rfl ?_
      refine st (s_assign rfl) rfl ?_
      refine Run.nil ?_
      refine pj_then ?_
      refine J_seq ?_
      refine J_reg ?_
      refine st (s_loadW 5 rfl rfl) rfl ?_
      refine st (s_callk (hRk ) rfl ⟨VT.le_refl _, trivial⟩) rfl ?_
      refine st (s_move rfl) rfl ?_
      refine st (s_extract rfl rfl) rfl ?_
      refine st (s_extract rfl rfl) rfl ?_
      refine st (s_assign rfl) rfl ?_
      refine st (s_assign rfl) rfl ?_
      refine Run.nil ?_
      refine pj_then ?_
      refine J_seq ?_
      refine J_seq ?_
      refine J_reg ?_
      refine st (s_move rfl) rfl ?_
      refine st (sF (by omega) (s_ne rfl rfl)) rfl ?_
      refine st (s_move rfl) rfl ?_
      refine sg1 rfl rfl (s_move rfl) rfl ?_
      refine sg1 rfl rfl (sF (by omega) (s_ne rfl rfl)) rfl ?_
      refine st (s_pickF rfl rfl) rfl ?_
      refine st (s_move rfl) rfl ?_
      refine sg1 rfl rfl (s_move rfl) rfl ?_
      refine sg1 rfl rfl (sF (by omega) (s_ne rfl rfl)) rfl ?_
      refine st (s_pickF rfl rfl) rfl ?_
      refine st (s_move rfl) rfl ?_
      refine sg1 rfl rfl (s_move rfl) rfl ?_
      refine sg1 rfl rfl (sF (by omega) (s_ne rfl rfl)) rfl ?_
      refine st (s_pickF rfl rfl) rfl ?_
      refine st (s_move rfl) rfl ?_
      refine sg1 rfl rfl (s_loadB 3 rfl rfl rfl) rfl ?_
      refine sg1 rfl rfl (s_callk (hV1 ) rfl ⟨VT.le_refl _, trivial⟩) rfl ?_
      refine sg1 rfl rfl (s_not rfl) rfl ?_
      refine st (s_pickF rfl rfl) rfl ?_
      refine st (s_move rfl) rfl ?_
      refine sg1 rfl rfl (s_loadB 2 rfl rfl rfl) rfl ?_
      refine sg1 rfl rfl (s_callk (hV2 ) rfl ⟨VT.le_refl _, trivial⟩) rfl ?_
      refine sg1 rfl rfl (s_not rfl) rfl ?_
      refine st (s_pickF rfl rfl) rfl ?_
      refine Run.nil ?_
      refine pj_then ?_
      refine J_cond0 rfl ?_
      refine J_skip ?_
      refine pj_then ?_
      refine J_seq ?_
      refine J_seq ?_
      refine J_reg ?_
      refine st (s_fieldAddr rfl) rfl ?_
      refine st (s_loadB 5 rfl rfl rfl) rfl ?_
      refine st (sF (by omega) (s_gt rfl rfl)) rfl ?_
      refine Run.nil ?_
      refine pj_then ?_
      refine J_cond0 rfl ?_
      refine J_skip ?_
      refine pj_then ?_
      refine J_seq ?_
      refine J_regd 24 mixed (by kernel_rfl) (by decide) ?_
      refine st (s_loadB 1 rfl rfl rfl) rfl ?_
      refine st (s_loadB 3 rfl rfl rfl) rfl ?_
      refine st (s_loadB 2 rfl rfl rfl) rfl ?_
      refine st (s_callk (hMul ) rfl ⟨VT.le_refl _, VT.le_refl _, trivial⟩) rfl ?_
      refine st (s_callk (hSp ) rfl ⟨VT.le_refl _, VT.le_refl _, trivial⟩) rfl ?_
      refine st (s_move rfl) rfl ?_
      refine sg1 rfl rfl (s_loadB 0 rfl rfl rfl) rfl ?_
      refine sg1 rfl rfl (s_loadB 3 rfl rfl rfl) rfl ?_
      refine sg1 rfl rfl (s_callk (hSd ) rfl ⟨VT.le_refl _, VT.le_refl _, trivial⟩) rfl ?_
      refine st (s_pickT rfl rfl) rfl ?_
      refine st (s_move rfl) rfl ?_
      refine sg1 rfl rfl (s_loadB 3 rfl rfl rfl) rfl ?_
      refine sg1 rfl rfl (s_callk (hSg ) rfl ⟨VT.le_refl _, trivial⟩) rfl ?_
      refine sg1 rfl rfl (sT (by omega) (s_eq rfl rfl)) rfl ?_
      refine sg1 rfl rfl (s_move rfl) rfl ?_
      refine sg1 rfl rfl (s_len rfl) rfl ?_
      refine sg1 rfl rfl (s_fieldAddr rfl) rfl ?_
      refine sg1 rfl rfl (s_loadB 5 rfl rfl rfl) rfl ?_
      refine sg1 rfl rfl (sT (by omega) (s_lt rfl rfl)) rfl ?_
      refine sg1 rfl rfl (s_eqB rfl rfl) rfl ?_
      refine st (s_pickT rfl rfl) rfl ?_
      refine st (s_move rfl) rfl ?_
      refine sg1 rfl rfl (s_move rfl) rfl ?_
      refine st (s_pickT rfl rfl) rfl ?_
      refine Run.nil ?_
      refine st (s_assign rfl) rfl ?_
      refine Run.nil ?_
      refine pj_then ?_
      refine J_ret ?_
      refine retc1 Try.results3 (.tmp rfl (VT.le_refl _))
    · have hl : ¬ rows.length < n := fun h => hd (hnew.1 h)
      have hz' : sg ≠ 0 := fun h => hd (hz.1 h)
      refine J_seq ?_
      refine J_reg ?_
      refine a_boxS rfl rfl (ltN rfl) (fun b3 => ?_)
      refine a_boxS rfl rfl (ltN rfl) (fun b4 => ?_)
      refine a_boxS rfl rfl (ltN rfl) (fun b5 => ?_)
      refine st (s_assign rfl) rfl ?_
      refine Run.nil ?_
      refine pj_then ?_
      refine J_seq ?_
      refine J_reg ?_
      refine st (s_callk (hsan ) rfl trivial) rfl ?_
      refine st (s_assign rfl) rfl ?_
      refine Run.nil ?_
      refine pj_then ?_
      refine J_seq ?_
      refine J_reg ?_
      refine st (s_loadW 2 rfl rfl) rfl ?_
      refine st (s_callk (hsq ) rfl ⟨VT.le_refl _, trivial⟩) rfl ?_
      refine a_allocS (T := 29) rfl rfl rfl (fun b8 => ?_)
      refine a_storeW 0 rfl rfl rfl rfl ?_
      refine Run.nil ?_
      refine pj_then ?_
      refine J_seq ?_
      refine J_reg ?_
      refine st (s_fieldAddr rfl) rfl ?_
      refine st (s_loadB 0 rfl rfl rfl) rfl ?_
      refine st (s_fieldAddr rfl) rfl ?_
      refine st (s_loadB 0 rfl rfl rfl) rfl ?_
      refine st (s_fieldAddr rfl) rfl ?_
      refine st (s_loadB 2 rfl rfl rfl) rfl ?_
      refine st (s_callk (hfi ) rfl ⟨VT.le_refl _, VT.le_refl _, VT.le_refl _, trivial⟩) rfl ?_
      refine a_allocS (T := 29) rfl rfl rfl (fun b9 => ?_)
      refine a_storeW 0 rfl rfl rfl rfl ?_
      refine Run.nil ?_
      refine pj_then ?_
      refine J_seq ?_
      refine J_reg ?_
      refine st (s_loadW 1 rfl rfl) rfl ?_
      refine st (s_callk (hD1 ) rfl ⟨VT.le_refl _, trivial⟩) rfl ?_
      refine st (s_move rfl) rfl ?_
      refine st (s_extract rfl rfl) rfl ?_
      refine st (s_extract rfl rfl) rfl ?_
      refine a_alloc (T := 34) rfl (ltN rfl) (fun b10 => ?_)
      refine a_storeB 0 rfl rfl rfl rfl rfl (leN rfl) rfl ?_
      refine st (s_assign rfl) rfl ?_
      refine Run.nil ?_
      refine pj_then ?_
      refine J_seq ?_
      refine J_reg ?_
      refine st (s_loadW 1 rfl rfl) rfl ?_
      refine st (s_callk (hD2 ) rfl ⟨VT.le_refl _, trivial⟩) rfl ?_
      refine st (s_move rfl) rfl ?_
      refine st (s_extract rfl rfl) rfl ?_
      refine st (s_extract rfl rfl) rfl ?_
      refine a_alloc (T := 34) rfl (ltN rfl) (fun b12 => ?_)
      refine a_storeB 0 rfl rfl rfl rfl rfl (leN rfl) rfl ?_
      refine st (s_assign rfl) rfl ?_
      refine Run.nil ?_
      refine pj_then ?_
      refine J_seq ?_
      refine J_reg ?_
      refine st (s_loadW 3 rfl rfl) rfl ?_
      refine st (s_loadW 2 rfl rfl) rfl ?_
      refine st (s_callk (hPr ) rfl ⟨VT.le_refl _, VT.le_refl _, trivial⟩) rfl ?_
      refine st (s_callk (hD3 ) rfl ⟨VT.le_refl _, trivial⟩) rfl ?_
      refine st (s_move rfl) rfl ?_
      refine st (s_extract rfl rfl) rfl ?_
      refine st (s_extract rfl rfl) rfl ?_
      refine a_alloc (T := 34) rfl (ltN rfl) (fun b14 => ?_)
      refine a_storeB 0 rfl rfl rfl rfl rfl (leN rfl) rfl ?_
      refine st (s_assign rfl) rfl ?_
      refine Run.nil ?_
      refine pj_then ?_
      refine J_seq ?_
      refine J_reg ?_
      refine st (s_loadW 4 rfl rfl) rfl ?_
      refine st (s_callk (hTr ) rfl ⟨VT.le_refl _, trivial⟩) rfl ?_
      refine st (s_callk (hD4 ) rfl ⟨VT.le_refl _, trivial⟩) rfl ?_
      refine st (s_move rfl) rfl ?_
      refine st (s_extract rfl rfl) rfl ?_
      refine st (s_extract rfl rfl) rfl ?_
      refine a_alloc (T := 34) rfl (ltN rfl) (fun b16 => ?_)
      refine a_storeB 0 rfl rfl rfl rfl rfl (leN rfl) rfl ?_
      refine st (s_assign rfl) rfl ?_
      refine Run.nil ?_
      refine pj_then ?_
      refine J_seq ?_
      refine J_reg ?_
      refine st (s_loadW 5 rfl rfl) rfl ?_
      refine st (s_callk (hRk ) rfl ⟨VT.le_refl _, trivial⟩) rfl ?_
      refine st (s_move rfl) rfl ?_
      refine st (s_extract rfl rfl) rfl ?_
      refine st (s_extract rfl rfl) rfl ?_
      refine st (s_assign rfl) rfl ?_
      refine st (s_assign rfl) rfl ?_
      refine Run.nil ?_
      refine pj_then ?_
      refine J_seq ?_
      refine J_seq ?_
      refine J_reg ?_
      refine st (s_move rfl) rfl ?_
      refine st (sF (by omega) (s_ne rfl rfl)) rfl ?_
      refine st (s_move rfl) rfl ?_
      refine sg1 rfl rfl (s_move rfl) rfl ?_
      refine sg1 rfl rfl (sF (by omega) (s_ne rfl rfl)) rfl ?_
      refine st (s_pickF rfl rfl) rfl ?_
      refine st (s_move rfl) rfl ?_
      refine sg1 rfl rfl (s_move rfl) rfl ?_
      refine sg1 rfl rfl (sF (by omega) (s_ne rfl rfl)) rfl ?_
      refine st (s_pickF rfl rfl) rfl ?_
      refine st (s_move rfl) rfl ?_
      refine sg1 rfl rfl (s_move rfl) rfl ?_
      refine sg1 rfl rfl (sF (by omega) (s_ne rfl rfl)) rfl ?_
      refine st (s_pickF rfl rfl) rfl ?_
      refine st (s_move rfl) rfl ?_
      refine sg1 rfl rfl (s_loadB 3 rfl rfl rfl) rfl ?_
      refine sg1 rfl rfl (s_callk (hV1 ) rfl ⟨VT.le_refl _, trivial⟩) rfl ?_
      refine sg1 rfl rfl (s_not rfl) rfl ?_
      refine st (s_pickF rfl rfl) rfl ?_
      refine st (s_move rfl) rfl ?_
      refine sg1 rfl rfl (s_loadB 2 rfl rfl rfl) rfl ?_
      refine sg1 rfl rfl (s_callk (hV2 ) rfl ⟨VT.le_refl _, trivial⟩) rfl ?_
      refine sg1 rfl rfl (s_not rfl) rfl ?_
      refine st (s_pickF rfl rfl) rfl ?_
      refine Run.nil ?_
      refine pj_then ?_
      refine J_cond0 rfl ?_
      refine J_skip ?_
      refine pj_then ?_
      refine J_seq ?_
      refine J_seq ?_
      refine J_reg ?_
      refine st (s_fieldAddr rfl) rfl ?_
      refine st (s_loadB 5 rfl rfl rfl) rfl ?_
      refine st (sF (by omega) (s_gt rfl rfl)) rfl ?_
      refine Run.nil ?_
      refine pj_then ?_
      refine J_cond0 rfl ?_
      refine J_skip ?_
      refine pj_then ?_
      refine J_seq ?_
      refine J_regd 24 mixed (by kernel_rfl) (by decide) ?_
      refine st (s_loadB 1 rfl rfl rfl) rfl ?_
      refine st (s_loadB 3 rfl rfl rfl) rfl ?_
      refine st (s_loadB 2 rfl rfl rfl) rfl ?_
      refine st (s_callk (hMul ) rfl ⟨VT.le_refl _, VT.le_refl _, trivial⟩) rfl ?_
      refine st (s_callk (hSp ) rfl ⟨VT.le_refl _, VT.le_refl _, trivial⟩) rfl ?_
      refine st (s_move rfl) rfl ?_
      refine sg1 rfl rfl (s_loadB 0 rfl rfl rfl) rfl ?_
      refine sg1 rfl rfl (s_loadB 3 rfl rfl rfl) rfl ?_
      refine sg1 rfl rfl (s_callk (hSd ) rfl ⟨VT.le_refl _, VT.le_refl _, trivial⟩) rfl ?_
      refine st (s_pickT rfl rfl) rfl ?_
      refine st (s_move rfl) rfl ?_
      refine sg1 rfl rfl (s_loadB 3 rfl rfl rfl) rfl ?_
      refine sg1 rfl rfl (s_callk (hSg ) rfl ⟨VT.le_refl _, trivial⟩) rfl ?_
      refine sg1 rfl rfl (sF (by assumption) (s_eq rfl rfl)) rfl ?_
      refine sg1 rfl rfl (s_move rfl) rfl ?_
      refine sg1 rfl rfl (s_len rfl) rfl ?_
      refine sg1 rfl rfl (s_fieldAddr rfl) rfl ?_
      refine sg1 rfl rfl (s_loadB 5 rfl rfl rfl) rfl ?_
      refine sg1 rfl rfl (sF (by omega) (s_lt rfl rfl)) rfl ?_
      refine sg1 rfl rfl (s_eqB rfl rfl) rfl ?_
      refine st (s_pickT rfl rfl) rfl ?_
      refine st (s_move rfl) rfl ?_
      refine sg1 rfl rfl (s_move rfl) rfl ?_
      refine st (s_pickT rfl rfl) rfl ?_
      refine Run.nil ?_
      refine st (s_assign rfl) rfl ?_
      refine Run.nil ?_
      refine pj_then ?_
      refine J_ret ?_
      refine retc1 Try.results3 (.tmp rfl (VT.le_refl _))
theorem determinantsLawY_ok (r c : Nat) (l : List Int) (r' c' : Nat) (l' : List Int) (w0 w1 : Nat) {p q : Prop} (h1 : p) (h2 : q) (hw : (w0 : Int) ≤ IntKind.max .u8 ∧ (w1 : Int) ≤ IntKind.max .u8 ∧ True) : Ok Try.prog 3 [rawInT r c l, rawInT r' c' l', w2D w0 w1] (one (.bool true)) := by
  have h3 := hw.1
  have h4 := hw.2.1
  simp [IntKind.max, IntKind.signed, IntKind.bits] at h3 h4
  exact determinantsLaw_ok r c l r' c' l' w0 w1 (by omega) (by omega)
end Tor
end

section
set_option linter.unusedVariables false
set_option linter.unusedSimpArgs false
set_option maxRecDepth 100000
namespace Tor
open Go Go.RowKit Go.ChangeShapes Go.WideShapes Go.ChangeAt Go.Joins Go.Proofs
theorem rd_raw {H : Type} {enc : TypeId × Value → H} {W : World} {base : Nat} {v : Value} {d : DataW H} {ps : List MemPlace} (hval : Value.okWide Try.prog W .any base 24 v) (hT : DataW.Trod enc Try.prog W 0 (fun _ => true) true 24 v d ps) (hw : ∀ x ∈ DataW.weights Try.prog 24 d, x ≤ reachBytes) :
    ∃ (r : Nat) (c : Nat) (l : List Int), (rawInT r c l).p v (view W) ∧ (r : Int) ≤ IntKind.max .u8 ∧ (c : Int) ≤ IntKind.max .u8 ∧ (∀ x ∈ l, IntKind.min .i8 ≤ x ∧ x ≤ IntKind.max .i8) ∧ True := by
  obtain ⟨cs, rfl, h⟩ := arg_agg 8 (ts := [5, 5, 22]) (by kernel_rfl) (.inl ⟨_, Try.underlying24⟩) hval hT hw
  obtain ⟨c0, r0, rfl, h0, g0⟩ := h
  obtain ⟨c1, r1, rfl, h1, g1⟩ := g0
  obtain ⟨c2, r2, rfl, h2, g2⟩ := g1
  cases g2
  obtain ⟨r, rfl, b0⟩ := leaf_nat Try.underlying5 rfl h0
  obtain ⟨c, rfl, b1⟩ := leaf_nat Try.underlying5 rfl h1
  obtain ⟨l, k2, b2⟩ := leaf_nums Try.underlying22 Try.underlying75 (by kernel_rfl) (of_decide_eq_true (by kernel_rfl)) h2
  exact ⟨r, c, l, agg_p (φs := [one (.int .u8 r), one (.int .u8 c), numT .i8 l]) ⟨rfl, rfl, ⟨rfl, rfl, ⟨k2, slT_one k2, trivial⟩⟩⟩, b0, b1, b2, trivial⟩
theorem rd_w2 {H : Type} {enc : TypeId × Value → H} {W : World} {base : Nat} {v : Value} {d : DataW H} {ps : List MemPlace} (hval : Value.okWide Try.prog W .any base 25 v) (hT : DataW.Trod enc Try.prog W 0 (fun _ => true) true 25 v d ps) (hw : ∀ x ∈ DataW.weights Try.prog 25 d, x ≤ reachBytes) :
    ∃ (a : Nat) (b : Nat), (w2D a b).p v (view W) ∧ (a : Int) ≤ IntKind.max .u8 ∧ (b : Int) ≤ IntKind.max .u8 ∧ True := by
  obtain ⟨cs, rfl, h⟩ := arg_agg 8 (ts := [5, 5]) (by kernel_rfl) (.inr ⟨_, _, Try.underlying25⟩) hval hT hw
  obtain ⟨c0, r0, rfl, h0, g0⟩ := h
  obtain ⟨c1, r1, rfl, h1, g1⟩ := g0
  cases g1
  obtain ⟨a, rfl, b0⟩ := leaf_nat Try.underlying5 rfl h0
  obtain ⟨b, rfl, b1⟩ := leaf_nat Try.underlying5 rfl h1
  exact ⟨a, b, agg_p (φs := [one (.int .u8 a), one (.int .u8 b)]) ⟨rfl, rfl, ⟨rfl, rfl, trivial⟩⟩, b0, b1, trivial⟩
end Tor
namespace Go.Proofs.Ytinfobmidgammaa
open Go.ChangeShapes Go.WideShapes Go.ChangeAt Go.RowKit Go.Joins Tor
theorem bareissDeterminants_own : ownKnob Try.prog.godebug = none := by kernel_rfl
theorem bareissDeterminants_laid : laidOutB Try.prog = true := by kernel_rfl
set_option maxRecDepth 100000 in
theorem bareissDeterminants_lifted (os : Os) (started : os.Started) (H : Type) (enc : TypeId × Value → H) :
    ReturnsInHanded {} Try.checked os 3 .any (Rows.bareissDeterminantsSpec.pre6 enc Try.prog Try.f3 Rows.bareissDeterminantsRow.domain false) (Rows.bareissDeterminantsSpec.post enc Try.prog Try.f3 false true false false) := by
  refine returnsInHanded_of_change_sized (C := Try.checked) bareissDeterminants_own started (by kernel_rfl) Try.func3
    (ChangeSpec.witness6 (enc := enc) (C := Try.checked) false ⟨#[], #[.agg #[.int .u8 0, .int .u8 0, .slice none 0 0], .agg #[.int .u8 0, .int .u8 0, .slice none 0 0], .agg #[.int .u8 0, .int .u8 0]], []⟩ 8 (by kernel_rfl) (by kernel_rfl) (by kernel_rfl) (by kernel_rfl)) ?_
  intro W base args ds gs before hval0 hW hcnd hsz0 _
  have hval : ∀ (j : Nat) t v, Try.f3.params[j]? = some t → args[j]? = some v → Value.okWide Try.prog W .any base t v := hval0
  have hsz : (DataW.weightsEach Try.prog (Try.f3.params.toList ++ Rows.bareissDeterminantsSpec.plain.varTypes Try.prog) (ds ++ gs)).all (· ≤ reachBytes) = true := hsz0
  have hW' := hW
  obtain ⟨p, q, hA0, hV, rfl, hfz, hnd⟩ := hW
  have hA : DataW.TrodAll enc Try.prog W 0 (fun _ => true) true Try.f3.params.toList args.toList ds p := hA0
  rw [Try.params3] at hA hval hsz
  obtain ⟨v0, v1, v2, d0, d1, d2, p0, p1, p2, rfl, rfl, rfl, h0, h1, h2⟩ := trodAll_three hA
  obtain ⟨rfl, rfl⟩ := trodVars_none hV
  obtain ⟨r_0, c_0, l_0, x0, y0⟩ := rd_raw (hval 0 24 _ rfl rfl) h0 (arg_weights hsz 0 rfl rfl)
  obtain ⟨r_1, c_1, l_1, x1, y1⟩ := rd_raw (hval 1 24 _ rfl rfl) h1 (arg_weights hsz 1 rfl rfl)
  obtain ⟨a_2, b_2, x2, y2⟩ := rd_w2 (hval 2 25 _ rfl rfl) h2 (arg_weights hsz 2 rfl rfl)
  refine (Ok.outside (W := W) (args := #[v0, v1, v2]) (determinantsLawY_ok r_0 c_0 l_0 r_1 c_1 l_1 a_2 b_2 y0 y1 y2) (And.intro x0 (And.intro x1 (And.intro x2 (trivial))))).mono fun e W' ⟨v, he, hv, hw⟩ => ?_
  subst he
  have hv : v = .bool true := hv
  subst hv
  refine ⟨_, rfl, _, [], _, [], _, [], hW', trodAll_mk1 (shut_bool Try.underlying4 true), trodAll_mk3
    (Below.trod bareissDeterminants_laid (by kernel_rfl) (of_decide_eq_true (by kernel_rfl)) h0 hw (fun x hx => by simpa using hW'.lt x (by simp only [List.mem_append] at hx ⊢; simp [hx])))
    (Below.trod bareissDeterminants_laid (by kernel_rfl) (of_decide_eq_true (by kernel_rfl)) h1 hw (fun x hx => by simpa using hW'.lt x (by simp only [List.mem_append] at hx ⊢; simp [hx])))
    (Below.trod bareissDeterminants_laid (by kernel_rfl) (of_decide_eq_true (by kernel_rfl)) h2 hw (fun x hx => by simpa using hW'.lt x (by simp only [List.mem_append] at hx ⊢; simp [hx]))), rfl, hw.frame _, fun h => by cases h⟩
theorem bareissDeterminants_holds : Rows.BareissDeterminantsSaid :=
  OpenClaim.holds_of_wide 3 Try.f3 rfl rfl rfl rfl rfl rfl rfl ⟨rfl, rfl, rfl, rfl, rfl⟩ rfl rfl rfl rfl rfl (by kernel_rfl) Try.func3 (by kernel_rfl)
    (of_decide_eq_true (by kernel_rfl)) (by unfold Func.isWrapper; first | (rw [if_pos (by decide +kernel)]; kernel_rfl) | (rw [if_neg (by decide +kernel)]; exact ⟨rfl, rfl⟩))
    (fun os started H enc _ => bareissDeterminants_lifted os started H enc)
end Go.Proofs.Ytinfobmidgammaa
namespace Tor
end Tor
end
