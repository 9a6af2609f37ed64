/-
  Proofs that laws of this seat return true for every input, and that their arguments read afterwards as before.
  No condition.
-/
import Derived.Test.YtfaglimgjfhdfaaGreatZO10
import Derived.Test.YtfaglimgjfhdfaaGreatRows
set_option maxHeartbeats 20000000
set_option linter.unusedVariables false
set_option linter.unusedSimpArgs false
set_option linter.unusedSectionVars false
section
namespace Tor
open Go Go.RowKit Go.Proofs
variable [Tor.Co.Kc]
theorem y6 (x y z u t s:Own) : [x,y,z,u,t,s].Perm ([y,z] ++ [x,u,t,s]):=(List.Perm.swap y x _).trans (List.Perm.cons y (List.Perm.swap z x _))
attribute [local irreducible] J PJ aB one slT bJ bB bv exT cd eP aQ aI slV VT.le Ret bN
attribute [local irreducible] aW dw
def fR (ca:Nat) (F G:Nat→Nat→Int):Nat→Nat→Int:=fun i k=>if k<ca then F i k else G i (k - ca)
theorem mR (ra ca:Nat) (F:Nat→Nat→Int) (rb cb:Nat) (G:Nat→Nat→Int) (h1:ra≤1048576) (h2:ca+cb≤1048576) :
  Ok Tryz.prog 34 [ch ra ca F,ch rb cb G] (tg (decide (ra=rb)) 50 ra (ca+cb) (fR ca F G)):=by
 unfold tg ch
 refine Ok.enter Tryz.func34 Z Tryz.ntmps34 Z (fun w O => ?_)
 by_cases hne:ra=rb
 ·subst hne
  rw [decide_eq_true Z]
  refine ae (ai ?_)
  refine bE Z Z (ltN Z) (fun b2 => ?_)
  refine bE Z Z (ltN Z) (fun b3 => ?_)
  refine bO (T:=35) Z Z Z (fun b4 => ?_)
  refine AR Z (AT (aa (ae (ae (ai (AP (aj Z) (AP (am 2 Z Z Z) (AP (aj Z) (AP (am 1 Z Z Z) ?_)))))))))
  refine AP (sF X (eh Z Z)) (AT (aa (aE Z (az (aa (ae (ai (AP (aj Z) (AP (am 2 Z Z Z) ?_)))))))))
  refine AP (aj Z) (AP (am 2 Z Z Z) (AP (aj Z) (AP (am 1 Z Z Z) (AP (bV _ _ Z Z X) ?_))))
  refine fJ (jb _ _ (by assumption) (h2)) Z ⟨A,A,AU⟩ Z Z (fun s23 => ?_)
  refine bO (T:=35) Z Z Z (fun b6 => ?_)
  refine bR 0 Z Z Z Z (AT (aa (ae (ae (ai (AR Z (AT (aa (aw ?_)))))))))
  obtain ⟨⟨bs,sv1,cap1⟩,hlen,hsv⟩:=s23
  simp only at hlen hsv
  unfold kW
  dsimp only
  refine cD (Γ' := [(2,_),(3,_),(4,_),(5,_),(6,_),(7,_)]) AK (SubM.refl _) ?_
  refine bS (σ:=Nat) (Γk := [(2,_),(3,_),(4,_),(5,_),(6,_)]) AK (fun i => [(7,one (.int .i64 (i:Nat)))]) (fun i M0=>(M0.set 2 (eQ (ca+cb) bs (d7 (fR ca F G) i 0)))) (fun i=>i≤ra) (fun i=>ra - i) (0) (Nat.zero_le _) AL (.keep AO (.keep AO (.keep (fk fun i j hi hj=>by simp [d7]) (.keep AO (.keep AO (.keep AO (.nil))))))) (fun i hi => ?_)
  refine co (Γ' := [(7,_),(2,_),(3,_),(4,_),(5,_),(6,_)]) (M' := [_,_,_,_,_,_]) Z Z (ae (ae (ai (AQ Z (AP (aj Z) (AP (am 5 Z Z Z) (AP (bH Z Z) (AT (aa ?_)))))))))
  refine kE Z (fun hc => ?_) (fun hc => ?_)
  ·obtain ⟨bo,rfl⟩:=ib hsv X
   refine az (aa (ae (aw (ae (ae (ai (AR Z (AT (aa ?_)))))))))
   refine aw (cD (Γ' := [(2,_),(3,_),(4,_),(5,_),(6,_),(7,_),(8,_)]) AK (SubM.refl _) ?_)
   refine bS (σ:=Nat) (Γk := [(2,_),(3,_),(4,_),(5,_),(6,_),(7,_)]) AK (fun j => [(8,one (.int .i64 (j:Nat)))]) (fun j M0=>(M0.set 2 (eQ (ca+cb) bs (d7 (fR ca F G) i j)))) (fun j=>j≤ca) (fun j=>ca - j) (0) (Nat.zero_le _) AL (.keep AO (.keep AO (.keep AO (.keep AO (.keep AO (.keep AO (.nil))))))) (fun j hj => ?_)
   refine co (Γ' := [(8,_),(2,_),(3,_),(4,_),(5,_),(6,_),(7,_)]) (M' := [_,_,_,_,_,_]) Z Z (ae (ae (ai (AQ Z (AP (aj Z) (AP (am 5 Z Z Z) (AP (bH Z Z) (AT (aa ?_)))))))))
   refine kE Z (fun hc2 => ?_) (fun hc2 => ?_)
   ·refine az (aa (ae (aw (bG 14 bL Y U (AP (aj Z) (AP (am 0 Z Z Z) (AQ Z ?_)))))))
    (refine AP (ar Z Z ?_) ?_;omega)
    (refine AP (bQ 1 Z Z ?_) ?_;omega)
    refine AQ Z (AP (aj Z) (AP (am 5 Z Z Z) (AQ Z ?_)))
    (refine AP (aR Z Z ?_) ?_;omega)
    refine AP (bj Z) (AQ Z ?_)
    (refine AP (aR Z Z ?_) ?_;omega)
    refine AP (bj Z) (AT ?_)
    (refine AP (ar Z Z ?_) ?_;omega)
    (refine gE 2 Z Z Z (qj ?_) ?_ Z ?_;omega;omega)
    refine AT (aK (aa (ai (AQ Z (AP (bV _ 1 Z Z X) (AR Z (AT ?_)))))))
    refine aZ (j+1) X X AL (.keep AO (.keep AO (.keep (jc _ (by unfold fR;rw [if_pos X])) (.keep AO (.keep AO (.keep AO (.nil)))))))
   ·have hjm:j=ca:=by omega
    subst hjm
    refine a8 (ay (ay (aM (aa (ae (ai (AR Z (AT (aa ?_)))))))))
    refine aw (cD (Γ' := [(2,_),(3,_),(4,_),(5,_),(6,_),(7,_),(9,_)]) AK (SubM.refl _) ?_)
    refine bS (σ:=Nat) (Γk := [(2,_),(3,_),(4,_),(5,_),(6,_),(7,_)]) AK (fun k => [(9,one (.int .i64 (k:Nat)))]) (fun k M0=>(M0.set 2 (eQ (j+cb) bs (d7 (fR j F G) i (j+k))))) (fun k=>k≤cb) (fun k=>cb - k) (0) (Nat.zero_le _) AL (.keep AO (.keep AO (.keep AO (.keep AO (.keep AO (.keep AO (.nil))))))) (fun k hk => ?_)
    refine co (Γ' := [(9,_),(2,_),(3,_),(4,_),(5,_),(6,_),(7,_)]) (M' := [_,_,_,_,_,_]) Z Z (ae (ae (ai (AQ Z (AP (aj Z) (AP (am 4 Z Z Z) (AP (bH Z Z) (AT (aa ?_)))))))))
    refine kE Z (fun hc3 => ?_) (fun hc3 => ?_)
    ·refine az (aa (ae (aw (bG 17 bL Y U (AP (aj Z) (AP (am 0 Z Z Z) (AQ Z ?_)))))))
     (refine AP (ar Z Z ?_) ?_;omega)
     (refine AP (bQ 1 Z Z ?_) ?_;omega)
     refine AP (aj Z) (AP (am 5 Z Z Z) (AQ Z (AP (bV _ _ Z Z X) (AP (aj Z) (AP (am 4 Z Z Z) (AQ Z ?_))))))
     (refine AP (aR Z Z ?_) ?_;omega)
     refine AP (bj Z) (AQ Z ?_)
     (refine AP (aR Z Z ?_) ?_;omega)
     refine AP (bj Z) (AT ?_)
     (refine AP (ar Z Z ?_) ?_;omega)
     (refine gE 2 Z Z Z (qj ?_) ?_ Z ?_;omega;omega)
     refine AT (aK (aa (ai (AQ Z (AP (bV _ 1 Z Z X) (AR Z (AT ?_)))))))
     refine aZ (k+1) X X AL (.keep AO (.keep AO (.keep (jc _ (by unfold fR;rw [if_neg X,Nat.add_sub_cancel_left])) (.keep AO (.keep AO (.keep AO (.nil)))))))
    ·have hkm:k=cb:=by omega
     subst hkm
     refine a8 (ay (ay (aM (aK (aa (ai (AQ Z (AP (bV _ 1 Z Z X) (AR Z ?_)))))))))
     refine AT ?_
     refine aZ (i+1) X X AL (.keep AO (.keep AO (.keep (jI) (.keep AO (.keep AO (.keep AO (.nil)))))))
  ·have hin:i=ra:=by omega
   subst hin
   refine a8 (ay (ay (aM (aa (ae (ai (AP (bM 0 Z Z) (bR 3 Z Z Z Z (AR Z ?_)))))))))
   refine AT (aa (aH ?_))
   refine fh [iM sv1 cap1 i (ca+cb) bs,eQ (ca+cb) bs (d7 (fR ca F G) i 0)] (y6 _ _ _ _ _ _) (.keep (tL.refl _) (.keep (tL.box (ja hlen ⟨by simp,by simp,by simp⟩)) (.keep (tL.refl _) (.keep (tL.refl _) .nil)))) (tM.refl _) ?_
   refine c5 Tryz.results34 (.cellW 1 Z Z ((ku fun a b ha hb=>by simp [d7,ha]))) (.tmp Z A)
 ·rw [decide_eq_false hne]
  refine ae (ai ?_)
  refine bE Z Z (ltN Z) (fun b2 => ?_)
  refine bE Z Z (ltN Z) (fun b3 => ?_)
  refine bO (T:=35) Z Z Z (fun b4 => ?_)
  refine AR Z (AT (aa (ae (ae (ai (AP (aj Z) (AP (am 2 Z Z Z) (AP (aj Z) (AP (am 1 Z Z Z) ?_)))))))))
  refine AP (sT X (eh Z Z)) (AT (aa (aP Z (ae (ai (stB Z Z Z (BuildK.nil (bR 0 Z Z Z Z (AR Z ?_)))))))))
  refine AT (aa (aH (aL ?_)))
  refine c5 Tryz.results34 (.cellW 0 Z Z (qo _)) (.tmp Z A)
end Tor
end
section
namespace Tor
open Go Go.RowKit Go.Proofs
variable [Tor.Co.Kc]
instance {n:Nat} {f:Nat→Int} : Flat (d6 n f) .one:=by unfold d6;infer_instance
attribute [local irreducible] J PJ aB one slT bJ bB bv exT cd eP aQ aI slV VT.le Ret bN
attribute [local irreducible] aW dw
theorem r8 (r c:Nat) (F:Nat→Nat→Int) (k:Int) (hr0:r≤1048576) (hc0:c≤1048576) (hF : ∀ i j,ci (F i j)) (hk:ci k):OkM Tryz.prog 42 [ch r c F,aW k] (kW r c) (fun s => [iM s.1.2.1 s.1.2.2 r c s.1.1,eQ c s.1.1 (fun i j=>F i j*k)]):=by
 unfold ch
 refine OkM.enter Tryz.func42 Z Tryz.ntmps42 Z (fun w O => ?_)
 refine ae (ai ?_)
 refine bE Z Z (ltN Z) (fun b2 => ?_)
 refine ji Z Z (ltN Z) (fun b3 => ?_)
 refine bO (T:=35) Z Z Z (fun b4 => ?_)
 refine AT (aa (ae (ai (AP (aj Z) (AP (am 2 Z Z Z) (AP (aj Z) (AP (am 2 Z Z Z) ?_)))))))
 refine fJ (jb _ _ (by assumption) (by assumption)) Z ⟨A,A,AU⟩ Z Z (fun s12 => ?_)
 refine bO (T:=35) Z Z Z (fun b5 => ?_)
 refine bR 0 Z Z Z Z (AT (aa (ae (ae (ai (AR Z (AT (aa (aw ?_)))))))))
 obtain ⟨⟨bs,sv1,cap1⟩,hlen,hsv⟩:=s12
 simp only at hlen hsv
 unfold kW
 dsimp only
 refine cD (Γ' := [(2,_),(3,_),(4,_),(5,_),(6,_)]) AK (SubM.refl _) ?_
 refine bS (σ:=Nat) (Γk := [(2,_),(3,_),(4,_),(5,_)]) AK (fun i => [(6,one (.int .i64 (i:Nat)))]) (fun i M0=>(M0.set 2 (eQ c bs (d7 (fun i j=>F i j*k) i 0)))) (fun i=>i≤r) (fun i=>r - i) (0) (Nat.zero_le _) AL (.keep AO (.keep AO (.keep (fk fun i j hi hj=>by simp [d7]) (.keep AO (.keep AO (.keep AO (.nil))))))) (fun i hi => ?_)
 refine co (Γ' := [(6,_),(2,_),(3,_),(4,_),(5,_)]) (M' := [_,_,_,_,_,_]) Z Z (ae (ae (ai (AQ Z (AP (aj Z) (AP (am 5 Z Z Z) (AP (bH Z Z) (AT (aa ?_)))))))))
 refine kE Z (fun hc => ?_) (fun hc => ?_)
 ·obtain ⟨bo,rfl⟩:=ib hsv X
  refine az (aa (ae (aw (ae (ai (AR Z (AT (aa (aw ?_)))))))))
  refine cD (Γ' := [(2,_),(3,_),(4,_),(5,_),(6,_),(7,_)]) AK (SubM.refl _) ?_
  refine bS (σ:=Nat) (Γk := [(2,_),(3,_),(4,_),(5,_),(6,_)]) AK (fun j => [(7,one (.int .i64 (j:Nat)))]) (fun j M0=>(M0.set 2 (eQ c bs (d7 (fun i j=>F i j*k) i j)))) (fun j=>j≤c) (fun j=>c - j) (0) (Nat.zero_le _) AL (.keep AO (.keep AO (.keep AO (.keep AO (.keep AO (.keep AO (.nil))))))) (fun j hj => ?_)
  refine co (Γ' := [(7,_),(2,_),(3,_),(4,_),(5,_),(6,_)]) (M' := [_,_,_,_,_,_]) Z Z (ae (ae (ai (AQ Z (AP (aj Z) (AP (am 5 Z Z Z) (AP (bH Z Z) (AT (aa ?_)))))))))
  refine kE Z (fun hc2 => ?_) (fun hc2 => ?_)
  ·refine az (aa (ae (aw (bG 16 bL Y U (AP (aj Z) (AP (am 0 Z Z Z) (AQ Z ?_)))))))
   (refine AP (ar Z Z ?_) ?_;omega)
   (refine AP (bQ 1 Z Z ?_) ?_;omega)
   refine AQ Z (AP (aj Z) (AP (am 5 Z Z Z) (AQ Z ?_)))
   (refine AP (aR Z Z ?_) ?_;omega)
   refine AP (bj Z) (AQ Z ?_)
   (refine AP (aR Z Z ?_) ?_;omega)
   refine AP (bj Z) (AP (am 4 Z Z Z) ?_)
   refine AP (ao (mj _ _ (hF _ _) (by assumption)) Z ⟨A,A,AU⟩) ?_
   refine AT ?_
   (refine AP (ar Z Z ?_) ?_;omega)
   (refine gE 2 Z Z Z (qj ?_) ?_ Z ?_;omega;omega)
   refine AT (aK (aa (ai (AQ Z (AP (bV _ 1 Z Z X) (AR Z (AT ?_)))))))
   refine aZ (j+1) X X AL (.keep AO (.keep AO (.keep (jc _ Z) (.keep AO (.keep AO (.keep AO (.nil)))))))
  ·have hjm:j=c:=by omega
   subst hjm
   refine a8 (ay (ay (aM (aK (aa (ai (AQ Z (AP (bV _ 1 Z Z X) (AR Z ?_)))))))))
   refine AT ?_
   refine aZ (i+1) X X AL (.keep AO (.keep AO (.keep (jI) (.keep AO (.keep AO (.keep AO (.nil)))))))
 ·have hin:i=r:=by omega
  subst hin
  refine a8 (ay (ay (aM (aa (ae (ai (AP (bM 0 Z Z) (bR 3 Z Z Z Z (AT ?_)))))))))
  refine aa (aH ?_)
  exact lV ⟨(bs,sv1,cap1),hlen,hsv⟩ Tryz.results42 (.cellW 3 Z Z A) (.drop (.keep AO (.keep (fk fun a b ha hb=>by simp [d7]; omega) (SubM.nilR _))))
theorem qO (r c:Nat) (F:Nat→Nat→Int) (hr0:r≤1048576) (hc0:c≤1048576) (hF : ∀ i j,ci (F i j)):OkM Tryz.prog 14 [ch r c F] (kW r c) (fun s => [iM s.1.2.1 s.1.2.2 r c s.1.1,eQ c s.1.1 (fun i j=>F i j*1)]):=by
 have hs:=r8 r c F 1 hr0 hc0 hF kM
 unfold ch at hs ⊢
 refine OkM.enter Tryz.func14 Z Tryz.ntmps14 Z (fun w O => ?_)
 refine ae (ai ?_)
 refine bE Z Z (ltN Z) (fun b1 => ?_)
 refine bO (T:=35) Z Z Z (fun b2 => ?_)
 refine AT (aa (ae (bG 2 bL Y U (AP (bM 1 Z Z) ?_))))
 refine AP (ao (kL _ X X) Z ⟨A,AU⟩) ?_
 refine AT ?_
 refine fJ (hs) Z ⟨A,A,AU⟩ Z Z (fun s5 => ?_)
 refine bR 2 Z Z Z Z (AT (aa (aH ?_)))
 exact lV s5 Tryz.results14 (.cellW 2 Z Z A) (.keep AO (.keep AO (SubM.nilR _)))
theorem uQ {ra n c cap:Nat} {sv:Option Nat} {bs:List Nat} {F G:Nat→Nat→Int} {ψ:Nat→VT} (hb:bs.length=ra) (hψ : ∀ q, ψ q=d6 c (G q)) :
  Ent [aI sv 39 .one cap n (fun q=>if q<ra then one (slV (some (bs.getD q 0)) c c) else ψ (q - ra)),eQ c bs F] (one (slV sv n cap)) (slT .one n (fun q=>d6 c (gz ra F G q))):=by
 refine Ent.slE (List.mem_cons_self) fun q hq => ?_
 by_cases h:q<ra
 ·rw [if_pos h]
  unfold d6 gz
  simp only [if_pos h]
  exact Ent.row (φ:=fun q k=>aW (F q k)) (List.mem_cons_of_mem _ List.mem_cons_self) (qj X)
 ·rw [if_neg h,hψ]
  unfold d6 gz
  simp only [if_neg h]
  exact Ent.refl _
theorem uR (ra ca:Nat) (F:Nat→Nat→Int) (rb cb:Nat) (G:Nat→Nat→Int) (h1:ra≤1048576) (h2:ca≤1048576) (h3:rb≤1048576) (hF : ∀ i j,ci (F i j)) (hG : ∀ i j,ci (G i j)) :
  Ok Tryz.prog 36 [ch ra ca F,ch rb cb G] (tg (decide (ca=cb)) 50 (ra+rb) ca (gz ra F G)):=by
 have hc1:=qO ra ca F h1 h2 hF
 unfold tg ch at *
 refine Ok.enter Tryz.func36 Z Tryz.ntmps36 Z (fun w O => ?_)
 by_cases hne:ca=cb
 ·subst hne
  rw [decide_eq_true Z]
  refine ae (ai ?_)
  refine bE Z Z (ltN Z) (fun b2 => ?_)
  refine bE Z Z (ltN Z) (fun b3 => ?_)
  refine bO (T:=35) Z Z Z (fun b4 => ?_)
  refine AR Z (AT (aa (ae (ae (ai (AP (aj Z) (AP (am 2 Z Z Z) (AP (aj Z) (AP (am 1 Z Z Z) ?_)))))))))
  refine AP (sF X (eh Z Z)) (AT (aa (aE Z (az (aa (ae (ai (AP (bM 2 Z Z) ?_))))))))
  refine fJ (hc1) Z ⟨A,AU⟩ Z Z (fun s14 => ?_)
  refine bO (T:=35) Z Z Z (fun b6 => ?_)
  refine bR 0 Z Z Z Z (AT (aa (ae (ai (AP (aj Z) (AP (am 5 Z Z Z) (AP (aj Z) (AP (am 4 Z Z Z) (AP (bV _ _ Z Z X) ?_)))))))))
  refine AP (aj Z) (au 0 Z Z Z Z Z (leN Z) Z (AT (aa (ae (xw 5 bL Y U (AP (aj Z) (AP (am 0 Z Z Z) (AP (bM 4 Z Z) ?_))))))))
  refine AP (ao (rI _ _ _ (by assumption) (by assumption) (by assumption)) Z ⟨A,AU⟩) ?_
  refine AP (nR Z Z) (AT ?_)
  (refine eH 1 Z Z Z (leN Z) ?_ ?_ Z (ltN Z) (fun sv26 cap26 => ?_);omega;omega)
  refine AP (aj Z) (au 0 Z Z Z Z Z (leN Z) Z (AT (aa (ae (ai (AP (bM 0 Z Z) (bR 3 Z Z Z Z (AR Z (AT ?_)))))))))
  refine aa (aH ?_)
  obtain ⟨⟨bs,sv1,cap1⟩,hlen,hsv⟩:=s14
  refine fh [aI sv26 39 .one cap26 (ra+rb) (fun q=>if q<ra then one (slV (some (bs.getD q 0)) ca ca) else d6 ca (G (q - ra))),eQ ca bs (fun i j=>F i j*1)] (y6 _ _ _ _ _ _) (.keep (tL.refl _) (.keep (tL.box (n6.cons (k:=0) (L := .one) (φ:=one (.int .i64 ((ra+rb:Nat):Int))) (dL Z) (Ent.refl _) (n6.cons (k:=1) (L := .one) (φ:=one (.int .i64 ca)) (dL Z) (Ent.refl _) (n6.cons (k:=2) (L := .one) (φ:=one (slV sv26 (ra+rb) cap26)) (dL Z) (uQ hlen (fun q=>rfl)) n6.nil)))) (.keep (tL.refl _) (.keep (tL.refl _) .nil)))) (tM.refl _) ?_
  refine c5 Tryz.results36 (.cellW 1 Z Z ((ku fun a b ha hb=>by simp [gz]))) (.tmp Z A)
 ·rw [decide_eq_false hne]
  refine ae (ai ?_)
  refine bE Z Z (ltN Z) (fun b2 => ?_)
  refine bE Z Z (ltN Z) (fun b3 => ?_)
  refine bO (T:=35) Z Z Z (fun b4 => ?_)
  refine AR Z (AT (aa (ae (ae (ai (AP (aj Z) (AP (am 2 Z Z Z) (AP (aj Z) (AP (am 1 Z Z Z) ?_)))))))))
  refine AP (sT X (eh Z Z)) (AT (aa (aP Z (ae (ai (stB Z Z Z (BuildK.nil (bR 0 Z Z Z Z (AR Z ?_)))))))))
  refine AT (aa (aH (aL ?_)))
  refine c5 Tryz.results36 (.cellW 0 Z Z (qo _)) (.tmp Z A)
end Tor
end
section
namespace Tor
open Go Go.RowKit Go.Proofs
theorem o4 (n:Nat) (F:Nat→Nat→Int):Lin.cg n (fun i j=>F j i)=Lin.cg n F:=by
 have h:((Lin.cg n (fun i j=>F j i):Int):Rat)=((Lin.cg n F:Int):Rat):=by
  rw [Lin.dM,Lin.dM]
  exact Lin.wb n Lin.lE (fun i j=>(F i j:Rat))
 exact_mod_cast h
theorem o5 (l:List Int) (n:Nat):(dig l n).natAbs≤9:=by
 unfold dig;rw [Int.natAbs_tmod]
 show (l.getD n 0).natAbs % 10≤9
 omega
def Sz (m K:Nat):Prop:=m≤12∧(m*(K*K)+1)^m<2^598∧K≤2^400
theorem Sz.pow {m K n:Nat} (h:Sz m K) (hn:n≤m):(m*(K*K)+1)^n<2^598:=Nat.lt_of_le_of_lt (Nat.pow_le_pow_right X hn) h.2.1
theorem Sz.len {m K n:Nat} (hn:n≤m) {f:Nat→Int} (hf : ∀ k,(f k).natAbs≤K):eo n f≤m*(K*K)+1:=Nat.le_succ_of_le (Nat.le_trans (wG hf) (Nat.mul_le_mul_right _ hn))
theorem Sz.detG {m K n:Nat} (h:Sz m K) (hn:n≤m) {F:Nat→Nat→Int} (hF : ∀ i j,(F i j).natAbs≤K):DetG n F (m*(K*K)+1) :=
 ⟨Nat.le_trans hn h.1,fun i j=>Nat.le_trans (hF i j) h.2.2,by omega,h.pow hn,fun i _=>Sz.len hn (hF i)⟩
theorem Sz.det {m K n:Nat} (h:Sz m K) (hn:n≤m) {F:Nat→Nat→Int} (hF : ∀ i j,(F i j).natAbs≤K):(Lin.cg n F).natAbs<2^300 :=
 Nat.lt_of_le_of_lt (tk n F) (nQ (Nat.lt_of_le_of_lt (oN (fun i _=>Sz.len hn (hF i)) n (Nat.le_refl n)) (h.pow hn)))
theorem Sz.m4 {m K n:Nat} (h:Sz m K) (hn:n≤m) {F:Nat→Nat→Int} (hF : ∀ i j,(F i j).natAbs≤K):jD (Lin.cg n F):=Nat.le_of_lt (Nat.lt_trans (h.det hn hF) V)
theorem Sz.small {m K n:Nat} (h:Sz m K) (hn:n≤m) {F:Nat→Nat→Int} (hF : ∀ i j,(F i j).natAbs≤K):ci (Lin.cg n F):=dU (h.m4 hn hF)
theorem o6 {m K n:Nat} (h:Sz m K) (hn:n≤m) (F:Nat→Nat→Int) (hF : ∀ i j,(F i j).natAbs≤K):Ok Tryz.prog 17 [ch n n F] (bv [aW (Lin.cg n F),one (.bool true)]):=uP n F _ (h.detG hn hF) (h.small hn hF)
theorem sa (x:Int):Ok Tryz.prog 18 [aW x,aW x] (one (.bool true)):=by
 have h:=j9 x x
 rw [decide_eq_true Z] at h;exact h
attribute [local irreducible] J PJ aB one slT bJ bB bv exT cd eP aQ aI slV VT.le Ret bN dD ek
attribute [local irreducible] aW d6
theorem mS (r c:Nat) (l:List Int):Ok Tryz.prog 13 [kY r c l] (ch (r % 5) (r % 5) (fun i j=>dig l (i*(r % 5)+j))):=by
 have h:=mG (r % 5) (r % 5) l X X
 have h5:=Av r
 have hr:r % 5<5:=Nat.mod_lt _ U
 unfold kY ch at *
 refine Ok.enter Tryz.func13 Z Tryz.ntmps13 Z (fun w O => ?_)
 refine ae (ai ?_)
 refine bE Z Z (ltN Z) (fun b1 => ?_)
 refine bO (T:=35) Z Z Z (fun b2 => ?_)
 refine AT (aa (ae (ai (AP (aj Z) (AP (am 1 Z Z Z) (AP (cK 5 Z Z Z U) (AP (d9 Z X X) (AP (aj Z) (AP (am 1 Z Z Z) ?_)))))))))
 refine AP (cK 5 Z Z Z U) (AP (d9 Z X X) (AP (aj Z) (AP (am 1 Z Z Z) ?_)))
 refine AP (ao (h) Z ⟨A,A,A,AU⟩) ?_
 refine bR 0 Z Z Z Z (AT (aa (aH ?_)))
 refine aX Tryz.results13 (.cellW 0 Z Z A)
end Tor
end
section
namespace Tor
open Go Go.RowKit Go.Proofs
def o7 (n:Nat) (AJ C B:Nat→Nat→Int):Nat→Nat→Int:=fun i j=>if i<n then (if j<n then AJ i j else 0) else (if j<n then C (i - n) j else B (i - n) (j - n))
theorem tF {f g:Nat→Int} {d:Int} : ∀ {a:Nat},(∀ j,j<a→f j=g j*d)→Lin.smZ a f=Lin.smZ a g*d
 | 0, _ => by rw [Lin.smZ, Lin.smZ, Int.zero_mul]
 | a + 1, h => by rw [Lin.smZ, Lin.smZ, tF fun j hj => h j X, h a X, Int.add_mul]
theorem tG {a:Nat} {f g:Nat→Int} {d:Int} (h : ∀ j,j<a→f j=g j*d) : ∀ b,(∀ j,a≤j→j<a+b→f j=0)→Lin.smZ (a+b) f=Lin.smZ a g*d
 | 0, _ => tF h
 | b + 1, h2 => by
  rw [← Nat.add_assoc,Lin.smZ,tG h b (fun j h3 h4=>h2 j h3 X),h2 (a+b) X X,Int.add_zero]
theorem qP : ∀ (n m:Nat) (AJ C B:Nat→Nat→Int),Lin.cg (n+m) (o7 n AJ C B)=Lin.cg n AJ*Lin.cg m B
 | 0, m, AJ, C, B => by
  rw [Nat.zero_add,Lin.cg,Int.one_mul]
  exact Lin.dV fun i j _ _=>by unfold o7;rw [if_neg (Nat.not_lt_zero _),if_neg (Nat.not_lt_zero _)]; rfl
 | n + 1, m, AJ, C, B => by
  rw [show n+1+m=n+m+1 by omega,Lin.cg,Lin.cg,show n+m+1=n+1+m by omega]
  refine tG (fun j hj => ?_) m (fun j h1 h2 => ?_)
  ·rw [Lin.dV (G:=o7 n (fun i k=>AJ (i+1) (Lin.skip j k)) (fun i k=>C i (Lin.skip j k)) B) (fun i k hi hk => ?_),qP n m]
   ·have e:o7 (n+1) AJ C B 0 j=AJ 0 j:=by unfold o7;rw [if_pos X,if_pos hj]
    rw [e]; simp only [Int.mul_assoc]
   ·have hs:Lin.skip j k<n+1↔k<n:=by unfold Lin.skip;split <;> omega
    unfold o7
    by_cases h3:i<n
    ·rw [if_pos X,if_pos h3]
     by_cases h4:k<n
     ·rw [if_pos (hs.2 h4),if_pos h4]
     ·rw [if_neg (fun h=>h4 (hs.1 h)),if_neg h4]
    ·rw [if_neg X,if_neg h3,show i+1 - (n+1)=i - n by omega]
     by_cases h4:k<n
     ·rw [if_pos (hs.2 h4),if_pos h4]
     ·rw [if_neg (fun h=>h4 (hs.1 h)),if_neg h4,show Lin.skip j k - (n+1)=k - n by unfold Lin.skip;rw [if_neg X]; omega]
  ·have e:o7 (n+1) AJ C B 0 j=0:=by unfold o7;rw [if_pos X,if_neg X]
   rw [e,Int.mul_zero,Int.zero_mul]
theorem xm (n m:Nat) (F C G:Nat→Nat→Int):Lin.cg (n+m) (gz n (fR n F C) (fR n (fun _ _=>0) G))=Lin.cg n F*Lin.cg m G:=by
 rw [← o4, ← o4 n F, ← o4 m G, ← qP n m _ (fun i j=>C j i)]
 exact Lin.dV fun i j _ _=>by
  unfold gz fR o7
  by_cases h1:i<n <;> by_cases h2:j<n <;> simp only [if_pos,if_neg,h1,h2,if_true,if_false]
end Tor
end
section
namespace Tor
open Go Go.RowKit Go.Proofs
theorem szK:Sz 6 9:=⟨by decide,by decide +kernel,by decide +kernel⟩
attribute [local irreducible] J PJ aB one slT bJ bB bv exT cd eP aQ aI slV VT.le Ret bN dD ek
attribute [local irreducible] aW d6
set_option maxRecDepth 100000 in
theorem o8 (r c:Nat) (l:List Int) (r' c':Nat) (l':List Int) (v:List Int):xk Tryz.prog 8 [kY r c l,kY r' c' l',kX .i8 v] (one (.bool true)):=by
 have hsq:=mS (r % 4) c l
 have hsq2:=mS (r' % 4) c' l'
 have hn:r % 4≤3:=by omega
 have hm:r' % 4≤3:=by omega
 rw [show r % 4 % 5=r % 4 by omega] at hsq
 rw [show r' % 4 % 5=r' % 4 by omega] at hsq2
 have hfi:=mG (r % 4) (r' % 4) v X X
 generalize hF:(fun i j=>dig l (i*(r % 4)+j))=F at *
 have aF : ∀ i j,(F i j).natAbs≤9:=fun i j=>by rw [← hF]; exact o5 _ _
 generalize hG:(fun i j=>dig l' (i*(r' % 4)+j))=G at *
 have aG : ∀ i j,(G i j).natAbs≤9:=fun i j=>by rw [← hG]; exact o5 _ _
 generalize hC:(fun i j=>dig v (i*(r' % 4)+j))=C at *
 have aC : ∀ i j,(C i j).natAbs≤9:=fun i j=>by rw [← hC]; exact o5 _ _
 clear hF hG hC
 have hsan:=qN
 have hs9 : ∀ {x:Int},x.natAbs≤9→ci x:=fun h=>dU (Nat.le_trans h V)
 unfold kY at *
 generalize hN:r % 4=n at *
 generalize hM:r' % 4=m at *
 have v1:=o6 szK (show n≤6 by omega) F aF
 have v2:=o6 szK (show m≤6 by omega) G aG
 have hbs1:Ok Tryz.prog 34 [ch n n F,ch n m C] (bv [ch n (n+m) (fR n F C),one (.int .i64 0)]):=by
  have h:=mR n n F n m C X X
  rw [decide_eq_true Z] at h;exact h
 have hbs2:Ok Tryz.prog 34 [ch m n (fun _ _=>0),ch m m G] (bv [ch m (n+m) (fR n (fun _ _=>0) G),one (.int .i64 0)]):=by
  have h:=mR m n (fun _ _=>0) m m G X X
  rw [decide_eq_true Z] at h;exact h
 have a1 : ∀ i j,(fR n F C i j).natAbs≤9:=fun i j=>by unfold fR;split;exact aF _ _;exact aC _ _
 have a2 : ∀ i j,(fR n (fun _ _=>0) G i j).natAbs≤9:=fun i j=>by unfold fR;split;exact Nat.zero_le _;exact aG _ _
 have hbs3:Ok Tryz.prog 36 [ch n (n+m) (fR n F C),ch m (n+m) (fR n (fun _ _=>0) G)] (bv [ch (n+m) (n+m) (gz n (fR n F C) (fR n (fun _ _=>0) G)),one (.int .i64 0)]):=by
  have h:=uR n (n+m) (fR n F C) m (n+m) (fR n (fun _ _=>0) G) X X X (fun i j=>hs9 (a1 i j)) (fun i j=>hs9 (a2 i j))
  rw [decide_eq_true Z] at h;exact h
 have v3:=o6 szK (show n+m≤6 by omega) (gz n (fR n F C) (fR n (fun _ _=>0) G)) (fun i j=>by unfold gz;split;exact a1 _ _;exact a2 _ _)
 rw [xm] at v3
 have hz:=tA m n X X
 have hMul:=mj (Lin.cg n F) (Lin.cg m G) (szK.small X aF) (szK.small X aG)
 have s1:=sa (Lin.cg n F*Lin.cg m G)
 generalize Lin.cg n F=d at *
 generalize Lin.cg m G=e at *
 clear aF aG aC a1 a2
 refine xk.enter Tryz.func8 Z Tryz.ntmps8 Z (fun w O => ?_)
 refine ae (ai ?_)
 refine bE Z Z (ltN Z) (fun b3 => ?_)
 refine bE Z Z (ltN Z) (fun b4 => ?_)
 refine AR Z (AT (aa (ae (ai (AP (ao (hsan) Z trivial) (AR Z (AT (aa (ae ?_)))))))))
 apply rm (Γ1 := [(3,_),(4,_),(7,_),(2,_)]) (M1 := [_,_]) 7 6 [3,4,5] [] bL Y U
 ·refine AP (aj Z) (AP (am 1 Z Z Z) (AP (cK 4 Z Z Z U) (AP (aj Z) (AP (am 0 Z Z Z) (AP (cK 4 Z Z Z U) (AP (aj Z) (AT ?_)))))))
  refine vv (Γa := [(3,_),(4,_),(7,_),(2,_),(26,_),(30,_)]) (Γb := [(3,_),(4,_),(7,_),(2,_),(26,_),(30,_),(29,_)]) (Γc := [(3,_),(4,_),(7,_),(2,_),(26,_),(30,_),(28,_)]) (Γd := [(3,_),(4,_),(7,_),(2,_),(26,_),(30,_),(28,_),(29,_)]) (Γe := [(3,_),(4,_),(7,_),(2,_),(26,_),(30,_),(27,_)]) (Γf := [(3,_),(4,_),(7,_),(2,_),(26,_),(30,_),(27,_),(29,_)]) (Γg := [(3,_),(4,_),(7,_),(2,_),(26,_),(30,_),(28,_)]) (Γh := [(3,_),(4,_),(7,_),(2,_),(26,_),(30,_),(28,_),(29,_)]) (rem := [7,8,9]) Z AN Z AN Z AN Z AN Z AN Z AN Z AN Z AN Z ?_ ?_ ?_ ?_ ?_ ?_ ?_ ?_
  ·refine bt (rem' := [4,5,7,8,9]) (rem'' := [3,4,5,8,9]) (i:=3) (j:=7) Y Z Z Z Z ?_ ?_ iF.nil
   refine AP (aj Z) (AT ?_)
   refine ⟨rfl,?_⟩
   refine bt (rem' := [5,7,8,9]) (rem'' := [4,5,8,9]) (i:=4) (j:=7) Y Z Z Z Z ?_ ?_ iF.nil
   refine AP (am 0 Z Z Z) (AT ?_)
   refine ⟨rfl,?_⟩
   refine bt (rem' := [7,8,9]) (rem'' := [5,8,9]) (i:=5) (j:=7) Y Z Z Z Z ?_ ?_ iF.nil
   refine AP (cK 4 Z Z Z U) (AT ?_)
   refine ⟨rfl,?_⟩
   refine ak (rem' := [8,9]) (i:=7) Y Z Z ?_ iF.nil
   refine au 1 Z Z Z Z Z (leN Z) Z (AT ?_)
   refine ⟨rfl,?_⟩
   refine ak (rem' := [9]) (i:=8) Y Z Z ?_ iF.nil
   refine AP (aj Z) (AT ?_)
   refine ⟨rfl,?_⟩
   refine ak (rem' := []) (i:=9) Y Z Z ?_ iF.nil
   refine au 0 Z Z Z Z Z (leN Z) Z (AT ?_)
   refine ⟨rfl,?_⟩
   refine aJ AN (SubM.refl _) iF.nil
   refine au 1 Z Z Z Z Z (leN Z) Z (AT ?_)
   refine ⟨rfl,?_⟩
   refine ak (rem' := [8,9]) (i:=5) Y Z Z ?_ iF.nil
   refine AP (cK 4 Z Z Z U) (AT ?_)
   refine ⟨rfl,?_⟩
   refine ak (rem' := [9]) (i:=8) Y Z Z ?_ iF.nil
   refine AP (aj Z) (AT ?_)
   refine ⟨rfl,?_⟩
   refine ak (rem' := []) (i:=9) Y Z Z ?_ iF.nil
   refine au 0 Z Z Z Z Z (leN Z) Z (AT ?_)
   refine ⟨rfl,?_⟩
   refine aJ AN (SubM.refl _) iF.nil
   refine au 1 Z Z Z Z Z (leN Z) Z (AT ?_)
   refine ⟨rfl,?_⟩
   refine ak (rem' := [5,8,9]) (i:=4) Y Z Z ?_ iF.nil
   refine AP (am 0 Z Z Z) (AT ?_)
   refine ⟨rfl,?_⟩
   refine ak (rem' := [8,9]) (i:=5) Y Z Z ?_ iF.nil
   refine AP (cK 4 Z Z Z U) (AT ?_)
   refine ⟨rfl,?_⟩
   refine ak (rem' := [9]) (i:=8) Y Z Z ?_ iF.nil
   refine AP (aj Z) (AT ?_)
   refine ⟨rfl,?_⟩
   refine ak (rem' := []) (i:=9) Y Z Z ?_ iF.nil
   refine au 0 Z Z Z Z Z (leN Z) Z (AT ?_)
   refine ⟨rfl,?_⟩
   refine aJ AN (SubM.refl _) iF.nil
   refine au 1 Z Z Z Z Z (leN Z) Z (AT ?_)
   refine ⟨rfl,?_⟩
   refine ak (rem' := [4,5,8,9]) (i:=3) Y Z Z ?_ iF.nil
   refine AP (aj Z) (AT ?_)
   refine ⟨rfl,?_⟩
   refine ak (rem' := [5,8,9]) (i:=4) Y Z Z ?_ iF.nil
   refine AP (am 0 Z Z Z) (AT ?_)
   refine ⟨rfl,?_⟩
   refine ak (rem' := [8,9]) (i:=5) Y Z Z ?_ iF.nil
   refine AP (cK 4 Z Z Z U) (AT ?_)
   refine ⟨rfl,?_⟩
   refine ak (rem' := [9]) (i:=8) Y Z Z ?_ iF.nil
   refine AP (aj Z) (AT ?_)
   refine ⟨rfl,?_⟩
   refine ak (rem' := []) (i:=9) Y Z Z ?_ iF.nil
   refine au 0 Z Z Z Z Z (leN Z) Z (AT ?_)
   refine ⟨rfl,?_⟩
   refine aJ AN (SubM.refl _) iF.nil
  ·refine bt (rem' := [4,7,8,9]) (rem'' := [3,4,8,9]) (i:=3) (j:=7) Y Z Z Z Z ?_ ?_ iF.nil
   refine AP (aj Z) (AT ?_)
   refine ⟨rfl,?_⟩
   refine bt (rem' := [7,8,9]) (rem'' := [4,8,9]) (i:=4) (j:=7) Y Z Z Z Z ?_ ?_ iF.nil
   refine AP (am 0 Z Z Z) (AT ?_)
   refine ⟨rfl,?_⟩
   refine ak (rem' := [8,9]) (i:=7) Y Z Z ?_ iF.nil
   refine au 1 Z Z Z Z Z (leN Z) Z (AT ?_)
   refine ⟨rfl,?_⟩
   refine ak (rem' := [9]) (i:=8) Y Z Z ?_ iF.nil
   refine AP (aj Z) (AT ?_)
   refine ⟨rfl,?_⟩
   refine ak (rem' := []) (i:=9) Y Z Z ?_ iF.nil
   refine au 0 Z Z Z Z Z (leN Z) Z (AT ?_)
   refine ⟨rfl,?_⟩
   refine aJ AN (SubM.refl _) iF.nil
   refine au 1 Z Z Z Z Z (leN Z) Z (AT ?_)
   refine ⟨rfl,?_⟩
   refine ak (rem' := [8,9]) (i:=4) Y Z Z ?_ iF.nil
   refine AP (am 0 Z Z Z) (AT ?_)
   refine ⟨rfl,?_⟩
   refine ak (rem' := [9]) (i:=8) Y Z Z ?_ iF.nil
   refine AP (aj Z) (AT ?_)
   refine ⟨rfl,?_⟩
   refine ak (rem' := []) (i:=9) Y Z Z ?_ iF.nil
   refine au 0 Z Z Z Z Z (leN Z) Z (AT ?_)
   refine ⟨rfl,?_⟩
   refine aJ AN (SubM.refl _) iF.nil
   refine au 1 Z Z Z Z Z (leN Z) Z (AT ?_)
   refine ⟨rfl,?_⟩
   refine ak (rem' := [4,8,9]) (i:=3) Y Z Z ?_ iF.nil
   refine AP (aj Z) (AT ?_)
   refine ⟨rfl,?_⟩
   refine ak (rem' := [8,9]) (i:=4) Y Z Z ?_ iF.nil
   refine AP (am 0 Z Z Z) (AT ?_)
   refine ⟨rfl,?_⟩
   refine ak (rem' := [9]) (i:=8) Y Z Z ?_ iF.nil
   refine AP (aj Z) (AT ?_)
   refine ⟨rfl,?_⟩
   refine ak (rem' := []) (i:=9) Y Z Z ?_ iF.nil
   refine au 0 Z Z Z Z Z (leN Z) Z (AT ?_)
   refine ⟨rfl,?_⟩
   refine aJ AN (SubM.refl _) iF.nil
  ·refine el (r1 := [5,7,8,9]) (r2 := [3,7,8,9]) (r3 := [3,5,8,9]) (i:=3) (j:=5) (k:=7) Y Z Z Z Z Z Z ?_ ?_ ?_ iF.nil
   refine AP (aj Z) (AT ?_)
   refine ⟨rfl,?_⟩
   refine bt (rem' := [7,8,9]) (rem'' := [5,8,9]) (i:=5) (j:=7) Y Z Z Z Z ?_ ?_ iF.nil
   refine AP (cK 4 Z Z Z U) (AT ?_)
   refine ⟨rfl,?_⟩
   refine ak (rem' := [8,9]) (i:=7) Y Z Z ?_ iF.nil
   refine au 1 Z Z Z Z Z (leN Z) Z (AT ?_)
   refine ⟨rfl,?_⟩
   refine ak (rem' := [9]) (i:=8) Y Z Z ?_ iF.nil
   refine AP (aj Z) (AT ?_)
   refine ⟨rfl,?_⟩
   refine ak (rem' := []) (i:=9) Y Z Z ?_ iF.nil
   refine au 0 Z Z Z Z Z (leN Z) Z (AT ?_)
   refine ⟨rfl,?_⟩
   refine aJ AN (SubM.refl _) iF.nil
   refine au 1 Z Z Z Z Z (leN Z) Z (AT ?_)
   refine ⟨rfl,?_⟩
   refine ak (rem' := [8,9]) (i:=5) Y Z Z ?_ iF.nil
   refine AP (cK 4 Z Z Z U) (AT ?_)
   refine ⟨rfl,?_⟩
   refine ak (rem' := [9]) (i:=8) Y Z Z ?_ iF.nil
   refine AP (aj Z) (AT ?_)
   refine ⟨rfl,?_⟩
   refine ak (rem' := []) (i:=9) Y Z Z ?_ iF.nil
   refine au 0 Z Z Z Z Z (leN Z) Z (AT ?_)
   refine ⟨rfl,?_⟩
   refine aJ AN (SubM.refl _) iF.nil
   refine AP (cK 4 Z Z Z U) (AT ?_)
   refine ⟨rfl,?_⟩
   refine bt (rem' := [7,8,9]) (rem'' := [3,8,9]) (i:=3) (j:=7) Y Z Z Z Z ?_ ?_ iF.nil
   refine AP (aj Z) (AT ?_)
   refine ⟨rfl,?_⟩
   refine ak (rem' := [8,9]) (i:=7) Y Z Z ?_ iF.nil
   refine au 1 Z Z Z Z Z (leN Z) Z (AT ?_)
   refine ⟨rfl,?_⟩
   refine ak (rem' := [9]) (i:=8) Y Z Z ?_ iF.nil
   refine AP (aj Z) (AT ?_)
   refine ⟨rfl,?_⟩
   refine ak (rem' := []) (i:=9) Y Z Z ?_ iF.nil
   refine au 0 Z Z Z Z Z (leN Z) Z (AT ?_)
   refine ⟨rfl,?_⟩
   refine aJ AN (SubM.refl _) iF.nil
   refine au 1 Z Z Z Z Z (leN Z) Z (AT ?_)
   refine ⟨rfl,?_⟩
   refine ak (rem' := [8,9]) (i:=3) Y Z Z ?_ iF.nil
   refine AP (aj Z) (AT ?_)
   refine ⟨rfl,?_⟩
   refine ak (rem' := [9]) (i:=8) Y Z Z ?_ iF.nil
   refine AP (aj Z) (AT ?_)
   refine ⟨rfl,?_⟩
   refine ak (rem' := []) (i:=9) Y Z Z ?_ iF.nil
   refine au 0 Z Z Z Z Z (leN Z) Z (AT ?_)
   refine ⟨rfl,?_⟩
   refine aJ AN (SubM.refl _) iF.nil
   refine au 1 Z Z Z Z Z (leN Z) Z (AT ?_)
   refine ⟨rfl,?_⟩
   refine bt (rem' := [5,8,9]) (rem'' := [3,8,9]) (i:=3) (j:=5) Y Z Z Z Z ?_ ?_ iF.nil
   refine AP (aj Z) (AT ?_)
   refine ⟨rfl,?_⟩
   refine ak (rem' := [8,9]) (i:=5) Y Z Z ?_ iF.nil
   refine AP (cK 4 Z Z Z U) (AT ?_)
   refine ⟨rfl,?_⟩
   refine ak (rem' := [9]) (i:=8) Y Z Z ?_ iF.nil
   refine AP (aj Z) (AT ?_)
   refine ⟨rfl,?_⟩
   refine ak (rem' := []) (i:=9) Y Z Z ?_ iF.nil
   refine au 0 Z Z Z Z Z (leN Z) Z (AT ?_)
   refine ⟨rfl,?_⟩
   refine aJ AN (SubM.refl _) iF.nil
   refine AP (cK 4 Z Z Z U) (AT ?_)
   refine ⟨rfl,?_⟩
   refine ak (rem' := [8,9]) (i:=3) Y Z Z ?_ iF.nil
   refine AP (aj Z) (AT ?_)
   refine ⟨rfl,?_⟩
   refine ak (rem' := [9]) (i:=8) Y Z Z ?_ iF.nil
   refine AP (aj Z) (AT ?_)
   refine ⟨rfl,?_⟩
   refine ak (rem' := []) (i:=9) Y Z Z ?_ iF.nil
   refine au 0 Z Z Z Z Z (leN Z) Z (AT ?_)
   refine ⟨rfl,?_⟩
   refine aJ AN (SubM.refl _) iF.nil
  ·refine bt (rem' := [7,8,9]) (rem'' := [3,8,9]) (i:=3) (j:=7) Y Z Z Z Z ?_ ?_ iF.nil
   refine AP (aj Z) (AT ?_)
   refine ⟨rfl,?_⟩
   refine ak (rem' := [8,9]) (i:=7) Y Z Z ?_ iF.nil
   refine au 1 Z Z Z Z Z (leN Z) Z (AT ?_)
   refine ⟨rfl,?_⟩
   refine ak (rem' := [9]) (i:=8) Y Z Z ?_ iF.nil
   refine AP (aj Z) (AT ?_)
   refine ⟨rfl,?_⟩
   refine ak (rem' := []) (i:=9) Y Z Z ?_ iF.nil
   refine au 0 Z Z Z Z Z (leN Z) Z (AT ?_)
   refine ⟨rfl,?_⟩
   refine aJ AN (SubM.refl _) iF.nil
   refine au 1 Z Z Z Z Z (leN Z) Z (AT ?_)
   refine ⟨rfl,?_⟩
   refine ak (rem' := [8,9]) (i:=3) Y Z Z ?_ iF.nil
   refine AP (aj Z) (AT ?_)
   refine ⟨rfl,?_⟩
   refine ak (rem' := [9]) (i:=8) Y Z Z ?_ iF.nil
   refine AP (aj Z) (AT ?_)
   refine ⟨rfl,?_⟩
   refine ak (rem' := []) (i:=9) Y Z Z ?_ iF.nil
   refine au 0 Z Z Z Z Z (leN Z) Z (AT ?_)
   refine ⟨rfl,?_⟩
   refine aJ AN (SubM.refl _) iF.nil
  ·refine bt (rem' := [5,7,8,9]) (rem'' := [4,5,8,9]) (i:=4) (j:=7) Y Z Z Z Z ?_ ?_ iF.nil
   refine AP (am 0 Z Z Z) (AT ?_)
   refine ⟨rfl,?_⟩
   refine bt (rem' := [7,8,9]) (rem'' := [5,8,9]) (i:=5) (j:=7) Y Z Z Z Z ?_ ?_ iF.nil
   refine AP (cK 4 Z Z Z U) (AT ?_)
   refine ⟨rfl,?_⟩
   refine ak (rem' := [8,9]) (i:=7) Y Z Z ?_ iF.nil
   refine au 1 Z Z Z Z Z (leN Z) Z (AT ?_)
   refine ⟨rfl,?_⟩
   refine ak (rem' := [9]) (i:=8) Y Z Z ?_ iF.nil
   refine AP (aj Z) (AT ?_)
   refine ⟨rfl,?_⟩
   refine ak (rem' := []) (i:=9) Y Z Z ?_ iF.nil
   refine au 0 Z Z Z Z Z (leN Z) Z (AT ?_)
   refine ⟨rfl,?_⟩
   refine aJ AN (SubM.refl _) iF.nil
   refine au 1 Z Z Z Z Z (leN Z) Z (AT ?_)
   refine ⟨rfl,?_⟩
   refine ak (rem' := [8,9]) (i:=5) Y Z Z ?_ iF.nil
   refine AP (cK 4 Z Z Z U) (AT ?_)
   refine ⟨rfl,?_⟩
   refine ak (rem' := [9]) (i:=8) Y Z Z ?_ iF.nil
   refine AP (aj Z) (AT ?_)
   refine ⟨rfl,?_⟩
   refine ak (rem' := []) (i:=9) Y Z Z ?_ iF.nil
   refine au 0 Z Z Z Z Z (leN Z) Z (AT ?_)
   refine ⟨rfl,?_⟩
   refine aJ AN (SubM.refl _) iF.nil
   refine au 1 Z Z Z Z Z (leN Z) Z (AT ?_)
   refine ⟨rfl,?_⟩
   refine ak (rem' := [5,8,9]) (i:=4) Y Z Z ?_ iF.nil
   refine AP (am 0 Z Z Z) (AT ?_)
   refine ⟨rfl,?_⟩
   refine ak (rem' := [8,9]) (i:=5) Y Z Z ?_ iF.nil
   refine AP (cK 4 Z Z Z U) (AT ?_)
   refine ⟨rfl,?_⟩
   refine ak (rem' := [9]) (i:=8) Y Z Z ?_ iF.nil
   refine AP (aj Z) (AT ?_)
   refine ⟨rfl,?_⟩
   refine ak (rem' := []) (i:=9) Y Z Z ?_ iF.nil
   refine au 0 Z Z Z Z Z (leN Z) Z (AT ?_)
   refine ⟨rfl,?_⟩
   refine aJ AN (SubM.refl _) iF.nil
  ·refine bt (rem' := [7,8,9]) (rem'' := [4,8,9]) (i:=4) (j:=7) Y Z Z Z Z ?_ ?_ iF.nil
   refine AP (am 0 Z Z Z) (AT ?_)
   refine ⟨rfl,?_⟩
   refine ak (rem' := [8,9]) (i:=7) Y Z Z ?_ iF.nil
   refine au 1 Z Z Z Z Z (leN Z) Z (AT ?_)
   refine ⟨rfl,?_⟩
   refine ak (rem' := [9]) (i:=8) Y Z Z ?_ iF.nil
   refine AP (aj Z) (AT ?_)
   refine ⟨rfl,?_⟩
   refine ak (rem' := []) (i:=9) Y Z Z ?_ iF.nil
   refine au 0 Z Z Z Z Z (leN Z) Z (AT ?_)
   refine ⟨rfl,?_⟩
   refine aJ AN (SubM.refl _) iF.nil
   refine au 1 Z Z Z Z Z (leN Z) Z (AT ?_)
   refine ⟨rfl,?_⟩
   refine ak (rem' := [8,9]) (i:=4) Y Z Z ?_ iF.nil
   refine AP (am 0 Z Z Z) (AT ?_)
   refine ⟨rfl,?_⟩
   refine ak (rem' := [9]) (i:=8) Y Z Z ?_ iF.nil
   refine AP (aj Z) (AT ?_)
   refine ⟨rfl,?_⟩
   refine ak (rem' := []) (i:=9) Y Z Z ?_ iF.nil
   refine au 0 Z Z Z Z Z (leN Z) Z (AT ?_)
   refine ⟨rfl,?_⟩
   refine aJ AN (SubM.refl _) iF.nil
  ·refine bt (rem' := [7,8,9]) (rem'' := [5,8,9]) (i:=5) (j:=7) Y Z Z Z Z ?_ ?_ iF.nil
   refine AP (cK 4 Z Z Z U) (AT ?_)
   refine ⟨rfl,?_⟩
   refine ak (rem' := [8,9]) (i:=7) Y Z Z ?_ iF.nil
   refine au 1 Z Z Z Z Z (leN Z) Z (AT ?_)
   refine ⟨rfl,?_⟩
   refine ak (rem' := [9]) (i:=8) Y Z Z ?_ iF.nil
   refine AP (aj Z) (AT ?_)
   refine ⟨rfl,?_⟩
   refine ak (rem' := []) (i:=9) Y Z Z ?_ iF.nil
   refine au 0 Z Z Z Z Z (leN Z) Z (AT ?_)
   refine ⟨rfl,?_⟩
   refine aJ AN (SubM.refl _) iF.nil
   refine au 1 Z Z Z Z Z (leN Z) Z (AT ?_)
   refine ⟨rfl,?_⟩
   refine ak (rem' := [8,9]) (i:=5) Y Z Z ?_ iF.nil
   refine AP (cK 4 Z Z Z U) (AT ?_)
   refine ⟨rfl,?_⟩
   refine ak (rem' := [9]) (i:=8) Y Z Z ?_ iF.nil
   refine AP (aj Z) (AT ?_)
   refine ⟨rfl,?_⟩
   refine ak (rem' := []) (i:=9) Y Z Z ?_ iF.nil
   refine au 0 Z Z Z Z Z (leN Z) Z (AT ?_)
   refine ⟨rfl,?_⟩
   refine aJ AN (SubM.refl _) iF.nil
  ·refine ak (rem' := [8,9]) (i:=7) Y Z Z ?_ iF.nil
   refine au 1 Z Z Z Z Z (leN Z) Z (AT ?_)
   refine ⟨rfl,?_⟩
   refine ak (rem' := [9]) (i:=8) Y Z Z ?_ iF.nil
   refine AP (aj Z) (AT ?_)
   refine ⟨rfl,?_⟩
   refine ak (rem' := []) (i:=9) Y Z Z ?_ iF.nil
   refine au 0 Z Z Z Z Z (leN Z) Z (AT ?_)
   refine ⟨rfl,?_⟩
   refine aJ AN (SubM.refl _) iF.nil
 ·refine aa (ae ?_)
  rw [hN,hM]
  clear hN hM
  refine jU bL Y Y ?_
  refine ux (fun B=>bM 1 Z Z) Z Z ?_
  refine uxk (hsq) Z ⟨A,AU⟩ Z ?_
  refine ux (fun B=>bM 0 Z Z) Z Z ?_
  refine uxk (hsq2) Z ⟨A,AU⟩ Z ?_
  refine ua Z (ua Z (us Z (us Z ?_)))
  refine RunU.nil (fun γ => ?_)
  refine gH (M' := [_,_,_,_]) Z (qT (dG.refl _) (.keep l8 (.keep l8 (SubM.refl _))) (aa (ae (ai (AP (aj Z) (AP (am 1 Z Z Z) (AP (aj Z) (AP (am 0 Z Z Z) (AQ Z ?_)))))))))
  refine AP (ao (hfi) Z ⟨A,A,A,AU⟩) ?_
  refine bO (T:=35) Z Z Z (fun b10 => ?_)
  refine bR 0 Z Z Z Z (AT (aa (ae (ai (AP (bM 2 Z Z) (AP (bM 0 Z Z) ?_))))))
  refine AP (ao (hbs1) Z ⟨A,A,AU⟩) ?_
  refine AQ Z (AP (aD Z Z) (AP (aD Z Z) ?_))
  refine bO (T:=35) Z Z Z (fun b11 => ?_)
  refine bR 0 Z Z Z Z (AR Z (AT (aa (ae ?_))))
  refine jU bL Y Y ?_
  refine ux (fun B=>aj Z) Z Z ?_
  refine ux (fun B=>am 2 Z Z Z) Z Z ?_
  refine ux (fun B=>aj Z) Z Z ?_
  refine ux (fun B=>am 3 Z Z Z) Z Z ?_
  refine uxk (hz) Z ⟨A,A,AU⟩ Z ?_
  refine ux (fun B=>bM 2 Z Z) Z Z ?_
  refine uxk (hbs2) Z ⟨A,A,AU⟩ Z ?_
  refine ux (fun B=>ab Z) Z Z ?_
  refine ux (fun B=>aD Z Z) Z Z ?_
  refine ux (fun B=>aD Z Z) Z Z ?_
  refine ua Z (us Z ?_)
  refine ux (fun B=>ah Z) Z Z ?_
  refine RunU.nil (fun γ => ?_)
  refine gH (M' := [_,_,_,_,_,_,_]) Z (qT (dG.refl _) (.keep l8 (SubM.refl _)) (aa (ae (ai (AP (bM 1 Z Z) (AP (bM 0 Z Z) ?_))))))
  refine AP (ao (hbs3) Z ⟨A,A,AU⟩) ?_
  refine AQ Z (AP (aD Z Z) (AP (aD Z Z) ?_))
  refine bO (T:=35) Z Z Z (fun b15 => ?_)
  refine bR 0 Z Z Z Z (AR Z (AT (aa (ae (ai (AP (bM 5 Z Z) ?_))))))
  refine AP (ao (v1) Z ⟨A,AU⟩) ?_
  refine AQ Z (AP (aD Z Z) (AP (aD Z Z) ?_))
  refine aU (T:=28) Z (ltN Z) (fun b17 => ?_)
  refine au 0 Z Z Z Z Z (leN Z) Z (AR Z (AT (aa (ae (ai (AP (bM 5 Z Z) ?_))))))
  refine AP (ao (v2) Z ⟨A,AU⟩) ?_
  refine AQ Z (AP (aD Z Z) (AP (aD Z Z) ?_))
  refine aU (T:=28) Z (ltN Z) (fun b19 => ?_)
  refine au 0 Z Z Z Z Z (leN Z) Z (AR Z (AT (aa (ae (ai (AP (bM 2 Z Z) ?_))))))
  refine AP (ao (v3) Z ⟨A,AU⟩) ?_
  refine AQ Z (AP (aD Z Z) (AP (aD Z Z) ?_))
  refine aU (T:=28) Z (ltN Z) (fun b21 => ?_)
  refine au 0 Z Z Z Z Z (leN Z) Z (AR Z (AT (aa (ae (bG 17 bL Y U (AQ Z (AQ Z (AS (ab Z) (AP (bP Z Z) ?_)))))))))
  refine AQ Z (AS (ab Z) (AP (bP Z Z) (AQ Z (AS (am 0 Z Z Z) (AS (am 2 Z Z Z) (AS (am 1 Z Z Z) ?_))))))
  refine AS (ao (hMul) Z ⟨A,A,AU⟩) ?_
  refine AS (ao (s1) Z ⟨A,A,AU⟩) ?_
  refine AP (bP Z Z) (AQ Z (AS (ab Z) (AP (bP Z Z) (AT (AR Z (AT (aa (aH ?_))))))))
  refine aX Tryz.results8 (.tmp Z A)
end Tor
end
section
set_option maxRecDepth 100000
namespace Tor
open Go Go.RowKit Go.ChangeShapes Go.WideShapes Go.ChangeAt Go.Joins Go.Proofs
theorem xn {H:Type} {enc:TypeId × Value→H} {W:World} {base:Nat} {v:Value} {d:DataW H} {ps:List MemPlace} (hval:Value.okWide Tryz.prog W .any base 24 v) (hT:DataW.Trod enc Tryz.prog W 0 (fun _=>true) true 24 v d ps) (hw : ∀ x∈DataW.weights Tryz.prog 24 d,x≤reachBytes) :
  ∃ (r:Nat) (c:Nat) (l:List Int),(kY r c l).p v (view W)∧(r:Int)≤IntKind.max .u8∧(c:Int)≤IntKind.max .u8∧(∀ x∈l,IntKind.min .i8≤x∧x≤IntKind.max .i8)∧True:=by
 obtain ⟨cs,rfl,h⟩:=xD 8 (ts := [5,5,22]) Y (.inl ⟨_,Tryz.underlying24⟩) hval hT hw
 obtain ⟨c0,r0,rfl,h0,g0⟩:=h
 obtain ⟨c1,r1,rfl,h1,g1⟩:=g0
 obtain ⟨c2,r2,rfl,h2,g2⟩:=g1
 cases g2
 obtain ⟨r,rfl,b0⟩:=pD Tryz.underlying5 Z h0
 obtain ⟨c,rfl,b1⟩:=pD Tryz.underlying5 Z h1
 obtain ⟨l,k2,b2⟩:=ni Tryz.underlying22 Tryz.underlying65 Y (of_decide_eq_true Y) h2
 exact ⟨r,c,l,Am (φs := [one (.int .u8 r),one (.int .u8 c),kX .i8 l]) ⟨rfl,rfl,⟨rfl,rfl,⟨k2,xC k2,AU⟩⟩⟩,b0,b1,b2,AU⟩
theorem Ay {H:Type} {enc:TypeId × Value→H} {W:World} {base:Nat} {v:Value} {d:DataW H} {ps:List MemPlace} (hval:Value.okWide Tryz.prog W .any base 22 v) (hT:DataW.Trod enc Tryz.prog W 0 (fun _=>true) true 22 v d ps) (hw : ∀ x∈DataW.weights Tryz.prog 22 d,x≤reachBytes) :
  ∃ (d:List Int),(kX .i8 d).p v (view W)∧(∀ x∈d,IntKind.min .i8≤x∧x≤IntKind.max .i8)∧True:=by
 have h:=vl (.inr (.inr ⟨_,Tryz.underlying22⟩)) hval hT hw
 obtain ⟨d,k0,b0⟩:=ni Tryz.underlying22 Tryz.underlying65 Y (of_decide_eq_true Y) h
 exact ⟨d,k0,b0,AU⟩
end Tor
namespace Go.Proofs.YtfaglimgjfhdfaaGreat
open Go.ChangeShapes Go.WideShapes Go.ChangeAt Go.RowKit Go.Joins Tor
theorem detBlocks_own:ownKnob Tryz.prog.godebug=none:=by kernel_rfl
theorem detBlocks_laid:laidOutB Tryz.prog=true:=by kernel_rfl
set_option maxRecDepth 100000 in
theorem detBlocks_lifted (os:Os) (started:os.Started) (H:Type) (enc:TypeId × Value→H) :
  ReturnsInLeavingWide {} Tryz.checked os 8 .any (Rows.detBlocksSpec.pre6 enc Tryz.prog Tryz.f8 Rows.detBlocksRow.domain false) (Rows.detBlocksSpec.post enc Tryz.prog Tryz.f8 false true false false):=by
 refine returnsInLeavingWide_of_change_sized (C:=Tryz.checked) detBlocks_own started Tryz.func8
  (ChangeSpec.witness6 (enc:=enc) (C:=Tryz.checked) false ⟨#[], #[.agg #[.int .u8 0, .int .u8 0, .slice none 0 0], .agg #[.int .u8 0, .int .u8 0, .slice none 0 0], .slice none 0 0], []⟩ 8 Y Y Y Y) ?_
 intro W base args ds gs before hval0 hW hcnd hsz0 _
 have hval : ∀ (j:Nat) t v,Tryz.f8.params[j]? = some t→args[j]? = some v→Value.okWide Tryz.prog W .any base t v:=hval0
 have hsz:(DataW.weightsEach Tryz.prog (Tryz.f8.params.toList ++ Rows.detBlocksSpec.plain.varTypes Tryz.prog) (ds ++ gs)).all (· ≤ reachBytes)=true:=hsz0
 have hW':=hW
 obtain ⟨p,q,hA0,hV,rfl,hfz,hnd⟩:=hW
 have hA:DataW.TrodAll enc Tryz.prog W 0 (fun _=>true) true Tryz.f8.params.toList args.toList ds p:=hA0
 rw [Tryz.params8] at hA hval hsz
 obtain ⟨v0,v1,v2,d0,d1,d2,p0,p1,p2,rfl,rfl,rfl,h0,h1,h2⟩:=trodAll_three hA
 obtain ⟨rfl,rfl⟩:=trodVars_none hV
 obtain ⟨r_0,c_0,l_0,x0,y0⟩:=xn (hval 0 24 _ Z Z) h0 (iE hsz 0 Z Z)
 obtain ⟨r_1,c_1,l_1,x1,y1⟩:=xn (hval 1 24 _ Z Z) h1 (iE hsz 1 Z Z)
 obtain ⟨d_2,x2,y2⟩:=Ay (hval 2 22 _ Z Z) h2 (iE hsz 2 Z Z)
 obtain ⟨M,last,o,w'',t'',r1,r2,r3,r4⟩:=xl Co.detT_ok (args := #[v0,v1,v2]) Y (o8 r_0 c_0 l_0 r_1 c_1 l_1 d_2) (And.intro x0 (And.intro x1 (And.intro x2 (trivial))))
 refine ⟨M,last,o,w'',t'',r1,r2,r3,r4.mono fun v hv => ?_⟩
 obtain ⟨hv,hw⟩:=hv
 subst hv
 refine ⟨_, [],_, [],_, [],hW',trodAll_mk1 (shut_bool Tryz.underlying4 true),trodAll_mk3
  (Below.trod detBlocks_laid Y (of_decide_eq_true Y) h0 hw (fun x hx=>by simpa using hW'.lt x (by simp only [List.mem_append] at hx ⊢; simp [hx])))
  (Below.trod detBlocks_laid Y (of_decide_eq_true Y) h1 hw (fun x hx=>by simpa using hW'.lt x (by simp only [List.mem_append] at hx ⊢; simp [hx])))
  (Below.trod detBlocks_laid Y (of_decide_eq_true Y) h2 hw (fun x hx=>by simpa using hW'.lt x (by simp only [List.mem_append] at hx ⊢; simp [hx]))),rfl,hw.frame _,fun h=>by cases h⟩
theorem detBlocks_holds:Rows.DetBlocksSaid :=
 OpenClaim.holds_of_wide_leaving 8 Tryz.f8 Z Z Z Z Z Z Z ⟨rfl,rfl,rfl,rfl,rfl⟩ Z Z Z Z Z Y Tryz.func8 Y
  (of_decide_eq_true Y) (by unfold Func.isWrapper;first | (rw [if_pos V]; kernel_rfl) | (rw [if_neg V]; exact ⟨rfl,rfl⟩))
  (fun os started H enc _=>detBlocks_lifted os started H enc)
end Go.Proofs.YtfaglimgjfhdfaaGreat
namespace Tor
end Tor
namespace Go.Proofs.YtfaglimgjfhdfaaGreat
open Go.ChangeShapes Go.WideShapes Go.ChangeAt Go.RowKit Go.Joins Tor
end Go.Proofs.YtfaglimgjfhdfaaGreat
namespace Tor
end Tor
end
