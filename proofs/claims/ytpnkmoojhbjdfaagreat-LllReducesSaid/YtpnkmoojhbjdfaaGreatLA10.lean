/-
  Proofs that laws of this seat return true for every input, and that their arguments read afterwards as before.
  No condition.
-/
import Derived.Test.YtpnkmoojhbjdfaaGreatLA9
import Derived.Test.YtpnkmoojhbjdfaaGreatRows
set_option maxHeartbeats 8000000
set_option linter.unusedVariables false
set_option linter.unusedSimpArgs false
section
namespace Tor
open Go Go.RowKit Go.Proofs
instance {n:Nat} {f:Nat→Int} : Flat (cH n f) .one:=by unfold cH;infer_instance
attribute [local irreducible] J PJ aJ one slT cv bB bL exT cp eP aW aN slV VT.le Ret bK
attribute [local irreducible] aK dq
end Tor
end
section
namespace Tor
open Go Go.RowKit Go.Proofs
def sy (r c:Int):VT:=bB 2 [(0, .one,one (.int .i64 r)),(1, .one,one (.int .i64 c))]
attribute [local irreducible] J PJ aJ one slT cv bB bL exT cp eP aW aN slV VT.le Ret bK
attribute [local irreducible] aK dq
theorem sA (r c:Nat) (F:Nat→Nat→Int):Ok Tryz.prog 109 [slT (.agg 3) 1 (fun _=>cg r c F)] (slT (.agg 2) 1 (fun _=>sy r c)):=by
 unfold cg sy
 refine Ok.enter Tryz.func109 Z Tryz.ntmps109 Z (fun w O => ?_)
 refine ae (aj (Cn Z (Cp (aa (ae (aj (Cn Z (Cp (aa ?_)))))))))
 refine ae (ae (aj (Cm Z (Cl (aV Z) (Cm Z (Cp (aa (av ?_))))))))
 refine ri 2 ?_
 refine ae (aj (Cl (sT Y (a9 Z Z)) (Cp (aa (ae (aI Z (aw (aa (ae ?_)))))))))
 refine av (ae (aj ?_))
 (refine Cl (ev Z Z ?_ ?_) ?_;omega;omega)
 refine Cl (aG Z) ?_
 refine aT (T:=28) Z Z Z (fun b5 => ?_)
 refine aR 0 Z Z Z Z (Cp (aa (aj (Cm Z (Cl (ai Z) (Cl (ak 0 Z Z Z) (Cl (ai Z) (Cl (ak 0 Z Z Z) (stB Z Z Z ?_)))))))))
 refine BuildK.cons Z Z Z (BuildK.cons Z Z Z (BuildK.nil (iX Z Z Z Z ?_)))
 (refine ve Z Z (leN Z) ?_ ?_ Z (ltN Z) (fun sv19 cap19 => ?_);omega;omega)
 refine Cn Z (Cp (aA (aa (aj ?_))))
 (refine Cl (cj Z Z (aM ?_ ?_)) ?_;omega;omega)
 refine Cm Z (Cp (pb (ae (aj (Cl (sF Y (a9 Z Z)) (Cp (aa (ae (az Z ?_)))))))))
 refine aX (au (au (aC (aa (ae (aj (Cm Z (Cn Z (Cp ?_)))))))))
 refine aa (aD (cJ (t:=2) (i:=0) Z Z ?_))
 refine aO Tryz.results109 (.tmp Z (eo fun i hi=>VT.le_refl _))
theorem zx (r c r' c':Nat):Ok Tryz.prog 108 [slT (.agg 2) 1 (fun _=>sy r c),slT (.agg 2) 1 (fun _=>sy r' c')] (one (.bool (decide (r=r'∧c=c')))):=by
 unfold sy
 refine Ok.enter Tryz.func108 Z Tryz.ntmps108 Z (fun w O => ?_)
 refine ae (aj (Cn Z (Cp (aa (ae (ae (aj (Cm Z (Cl (aV Z) ?_)))))))))
 refine Cm Z (Cl (aV Z) (Cl (sF Y (c8 Z Z)) (Cp (aa (az Z (aw (aa (ae (ae ?_)))))))))
 refine aj (Cm Z (Cl (aV Z) (Cm Z (Cp (aa (av ?_))))))
 refine ri 2 ?_
 by_cases h:r=r'∧c=c'
 ·obtain ⟨rfl,rfl⟩:=h
  refine ae (aj (Cl (sT Y (a9 Z Z)) (Cp (aa (ae (aI Z (aw (aa (ae ?_)))))))))
  refine av (ae (aj (Cm Z (Cn Z (Cp (aa (ae (a4 9 aU X W (Cm Z ?_)))))))))
  refine Cm Z ?_
  (refine Cl (ev Z Z ?_ ?_) ?_;omega;omega)
  refine Cl (aG Z) (Cm Z (Cm Z ?_))
  (refine Cl (ev Z Z ?_ ?_) ?_;omega;omega)
  refine Cl (aG Z) ?_
  refine Cl (sF (fun h=>h ⟨rfl,rfl⟩) (zN X Z Z)) ?_
  refine Cp (Cp (aa (az Z (aw (aA (aa (aj ?_)))))))
  (refine Cl (cj Z Z (aM ?_ ?_)) ?_;omega;omega)
  refine Cm Z (Cp (pb (ae (aj (Cl (sF Y (a9 Z Z)) (Cp (aa (ae (az Z ?_)))))))))
  refine aX (au (au (aC (aa (ae (aj (Cn Z (Cp (aa ?_)))))))))
  refine aD ?_
  refine aO Tryz.results108 (.tmp Z (ao (by simp)))
 ·have h2 : ¬ ((r:Int)=r'∧(c:Int)=c'):=fun hh=>h ⟨by omega,by omega⟩
  refine ae (aj (Cl (sT Y (a9 Z Z)) (Cp (aa (ae (aI Z (aw (aa (ae ?_)))))))))
  refine av (ae (aj (Cm Z (Cn Z (Cp (aa (ae (a4 9 aU X W (Cm Z ?_)))))))))
  refine Cm Z ?_
  (refine Cl (ev Z Z ?_ ?_) ?_;omega;omega)
  refine Cl (aG Z) (Cm Z (Cm Z ?_))
  (refine Cl (ev Z Z ?_ ?_) ?_;omega;omega)
  refine Cl (aG Z) (Cl (sT (by assumption) (zN X Z Z)) (Cp (Cp (aa (aI Z (ae (aj (Cn Z (Cp ?_)))))))))
  refine aa (aD (be (aE (aE (be (aE ?_))))))
  refine aO Tryz.results108 (.tmp Z (ao (by simp [h])))
theorem zy (n:Nat) (b:Nat→Bool) (hn:n≤1048576):Ok Tryz.prog 130 [slT .one n (fun i=>one (.bool (b i))),one (.bool false)] (exT fun k:Int=>cp ((0≤k ↔ ¬ ∀ i,i<n→b i=true)) (one (.int .i64 k))):=by
 refine Ok.enter Tryz.func130 Z Tryz.ntmps130 Z (fun w O => ?_)
 refine ae (aj (Cn Z (Cp (aa (ae (ae (aj (Cm Z (Cl (aV Z) ?_)))))))))
 refine Cm Z (Cp (aa (av (cx (Γ' := [(0,_),(1,_),(4,_),(7,_),(8,_)]) Cg (SubM.refl _) ?_))))
 refine bE (σ:=Nat) (Γk := [(0,_),(1,_),(7,_)]) Cg (fun i => [(8,one (.int .i64 (i:Nat)))]) (fun i M0=>M0) (fun i=>i≤n ∧ ∀ j,j<i→b j=true) (fun i=>n - i) (0) (⟨Nat.zero_le _,fun j hj=>absurd hj (Nat.not_lt_zero _)⟩) Ch (.nil) (fun i hi => ?_)
 refine bY (Γ' := [(8,_),(0,_),(1,_),(7,_)]) (M' := []) Z Z (ae (aj (Cl (a9 Z Z) (Cp (aa (ae ?_))))))
 refine pX Z (fun hc => ?_) (fun hc => ?_)
 ·have hin:i<n:=by omega
  refine aw (aa (ae (av (ae (aj (Cm Z (Cn Z (Cp (aa ?_)))))))))
  refine ae (aj (Cm Z (Cm Z (Cm Z ?_))))
  (refine Cl (ax Z Z ?_) ?_;omega)
  refine Cl (aG Z) (Cl (mA Z Z) (Cp (aa ?_)))
  refine zM Z (fun hb => ?_) (fun hb => ?_)
  ·have hb:b i=false:=by simpa using hb
   refine ae (aj (Cm Z (Cn Z (Cp (aa (aD (be (aE (aE ?_)))))))))
   refine be (aE ?_)
   refine aO Tryz.results130 (.tmp Z (nA (i:Int) (kP ⟨fun _ hall=>absurd (hall i hin) (by simp [hb]),fun _=>by omega⟩ H)))
  ·have hb:b i=true:=by simpa using hb
   refine aw (aA (aa (aj (Cl (bC _ 1 Z Z Y) (Cm Z (Cp ?_))))))
   refine aS (i+1) (⟨by omega,fun j hj=>(Nat.lt_succ_iff_lt_or_eq.1 hj).elim (hi.2 j) (fun e=>by subst e;exact hb)⟩) Y Ch (.nil)
 ·refine aX (au (au (aC (aa (ae (aj (Cn Z (Cp (aa ?_)))))))))
  refine aD ?_
  refine aO Tryz.results130 (.tmp Z (nA (-1:Int) (kP ⟨fun h=>by omega,fun h=>absurd (fun j hj=>hi.2 j Y) h⟩ H)))
theorem xX (n:Nat) (b:Nat→Bool) (hn:n≤1048576):Ok Tryz.prog 111 [slT .one n (fun i=>one (.bool (b i))),one (.bool false)] (exT fun t:Bool=>cp ((t=true ↔ ¬ ∀ i,i<n→b i=true)) (one (.bool t))):=by
 refine Ok.enter Tryz.func111 Z Tryz.ntmps111 Z (fun w O => ?_)
 refine ae (aj (Cn Z (Cp (aa (ae (aj (Cm Z (Cm Z ?_))))))))
 have hI:=(zy n b hn).toM
 refine ea hI Z ⟨H,H,Cq⟩ Z Z (fun s => ?_)
 obtain ⟨k,hk⟩:=s
 refine Cl (jo Z Z) (Cn Z (Cp (aa (aD ?_))))
 refine aO Tryz.results111 (.tmp Z (nA _ (kP (by simpa using hk) H)))
theorem A3 (x y:Int):Ok Tryz.prog 110 [aK x,aK y] (one (.bool (decide (x=y)))):=by
 refine Ok.enter Tryz.func110 Z Tryz.ntmps110 Z (fun w O => ?_)
 refine ae (aj ?_)
 refine nr Z Z (ltN Z) (fun b2 => ?_)
 refine nr Z Z (ltN Z) (fun b3 => ?_)
 refine Cn Z (Cp (aa (ae (aj (Cl (ak 1 Z Z Z) (Cl (ak 0 Z Z Z) ?_))))))
 refine Cl (am (qh _ _) Z ⟨H,H,Cq⟩) ?_
 refine Cl (cN Z Z) (Cn Z (Cp (aa (aD ?_))))
 refine aO Tryz.results110 (.tmp Z (ao (by congr 1;unfold eU;simp;split <;> (try split) <;> simp <;> omega)))
theorem ni {L:Lay} {φ:VT} : VT.le (slT L 1 (fun q => [φ].reverse.getD q bK)) (slT L 1 (fun _=>φ)):=eo fun i hi=>by
 have:i=0:=by omega
 subst this;exact VT.le_refl _
theorem pO (ra ca:Nat) (F:Nat→Nat→Int) (rb cb:Nat) (G:Nat→Nat→Int) (h1:ra≤1048576) (h2:ca≤1048576) :
  Ok Tryz.prog 71 [cg ra ca F,cg rb cb G] (one (.bool (decide (ra=rb∧ca=cb∧tab ra ca F=tab rb cb G)))):=by
 have hv:=pq ra ca F rb cb G
 have hs1:=sA ra ca F
 have hs2:=sA rb cb G
 have hq:=zx ra ca rb cb
 refine Ok.enter Tryz.func71 Z Tryz.ntmps71 Z (fun w O => ?_)
 by_cases hne:ra=rb∧ca=cb
 ·obtain ⟨rfl,rfl⟩:=hne
  rw [decide_eq_true ⟨rfl,rfl⟩] at hq
  unfold cg at *
  refine ae (aj ?_)
  refine aQ Z Z (ltN Z) (fun b2 => ?_)
  refine aQ Z Z (ltN Z) (fun b3 => ?_)
  refine Cn Z (Cp (aa (ae (ae (a4 15 aU X W (Cl (aL 1 Z Z) (Cl (aL 0 Z Z) (stS Z Z Z Z (PartsK.cons Z ?_)))))))))
  refine PartsK.cons Z (PartsK.nil ?_)
  refine Cl (am (hv) Z ⟨(nV),Cq⟩) ?_
  refine Cl (bS Z) (Cm Z (Co (aL 1 Z Z) (oO Z Z Z Z Z Z (PartsK.cons Z (PartsK.nil ?_)))))
  refine Co (am (hs1) Z ⟨(ni),Cq⟩) ?_
  refine Co (aL 0 Z Z) (oO Z Z Z Z Z Z (PartsK.cons Z (PartsK.nil ?_)))
  refine Co (am (hs2) Z ⟨(ni),Cq⟩) ?_
  refine Co (am (hq) Z ⟨H,H,Cq⟩) ?_
  refine Co (bS Z) (Cl (bj Z Z) (Cp (Cp (aa (az Z (aw (aa (ae (aj ?_)))))))))
  refine Cn Z (Cp (aa (ae (ae (aj (Cl (ai Z) (Cl (ak 1 Z Z Z) (Cl (aV Z) (Cm Z ?_)))))))))
  refine Cp (aa (av (cx (Γ' := [(3,_),(4,_),(5,_),(24,_),(25,_),(26,_)]) Cg (SubM.refl _) ?_)))
  refine bE (σ:=Nat) (Γk := [(3,_),(5,_),(24,_),(25,_)]) Cg (fun i => [(26,one (.int .i64 (i:Nat)))]) (fun i M0=>M0) (fun i=>i≤ra ∧ ∀ j,j<i → ∀ k,k<ca→F j k=G j k) (fun i=>ra - i) (0) (⟨Nat.zero_le _,fun j hj=>absurd hj (Nat.not_lt_zero _)⟩) Ch (.keep Ck (.keep Ck (.nil))) (fun i hi => ?_)
  refine bY (Γ' := [(26,_),(3,_),(5,_),(24,_),(25,_)]) (M' := [_,_]) Z Z ?_
  have hcb:=wO ca (fun k=>aK (F i k)) (fun k=>aK (G i k)) (fun k=>one (.bool (decide (F i k=G i k)))) (one (.func (.func 110) #[] #[])) h2 (fun k hk=>kR.fn (A3 _ _))
  have hct:=(xX ca (fun k=>decide (F i k=G i k)) h2).toM
  refine ae (aj (Cl (a9 Z Z) (Cp (aa (ae ?_)))))
  refine pX Z (fun hc => ?_) (fun hc => ?_)
  ·refine aw (aa (ae (av (ae (aj (Cm Z ?_))))))
   (refine Cl (ax Z Z ?_) ?_;omega)
   refine Cl (aG Z) (Cn Z (Cn Z (Cp (aa (ae (aj (Cm Z (Cl (ai Z) (Cl (ak 0 Z Z Z) ?_)))))))))
   refine Cm Z ?_
   (refine Cl (ax Z Z ?_) ?_;omega)
   refine Cl (aG Z) (Cm Z ?_)
   refine Cl (am (hcb) Z ⟨H,H,H,Cq⟩) ?_
   refine ea (hct) Z ⟨H,H,Cq⟩ Z Z (fun s39 => ?_)
   refine Cp (aa ?_)
   obtain ⟨t,ht⟩:=s39
   refine zM Z (fun hb => ?_) (fun hb => ?_)
   ·have hb:t=true:=hb
    subst hb
    refine ae (aj (Cn Z (Cp (aa (aD (be (aE (aE (be ?_)))))))))
    refine aE ?_
    refine aO Tryz.results71 (.tmp Z (ao (by congr 1;rw [decide_eq_false]; intro h;exact (ht.1 Z) (fun k hk=>decide_eq_true (yu h.2.2 Y hk)))))
   ·have hb:t=false:=hb
    subst hb
    refine aw (aA (aa (aj (Cl (bC _ 1 Z Z Y) (Cm Z (Cp ?_))))))
    have hall : ∀ k,k<ca→F i k=G i k:=fun k hk=>by
     have h3 : ¬ ¬ ∀ k,k<ca→decide (F i k=G i k)=true:=fun h4=>by have:=ht.2 h4;cases this
     exact of_decide_eq_true (Classical.not_not.1 h3 k hk)
    refine aS (i+1) (⟨by omega,fun j hj=>(Nat.lt_succ_iff_lt_or_eq.1 hj).elim (hi.2 j) (fun e=>by subst e;exact hall)⟩) Y Ch (.keep Ck (.keep Ck (.nil)))
  ·refine aX (au (au (aC (aa (ae (aj (Cn Z (Cp (aa ?_)))))))))
   refine aD ?_
   refine aO Tryz.results71 (.tmp Z (ao (by congr 1;rw [decide_eq_true]; exact ⟨rfl,rfl,mh fun a b ha hb=>hi.2 a Y b hb⟩)))
 ·rw [decide_eq_false hne] at hq
  unfold cg at *
  refine ae (aj ?_)
  refine aQ Z Z (ltN Z) (fun b2 => ?_)
  refine aQ Z Z (ltN Z) (fun b3 => ?_)
  refine Cn Z (Cp (aa (ae (ae (a4 15 aU X W (Cl (aL 1 Z Z) (Cl (aL 0 Z Z) (stS Z Z Z Z (PartsK.cons Z ?_)))))))))
  refine PartsK.cons Z (PartsK.nil ?_)
  refine Cl (am (hv) Z ⟨(nV),Cq⟩) ?_
  refine Cl (bS Z) (Cm Z (Co (aL 1 Z Z) (oO Z Z Z Z Z Z (PartsK.cons Z (PartsK.nil ?_)))))
  refine Co (am (hs1) Z ⟨(ni),Cq⟩) ?_
  refine Co (aL 0 Z Z) (oO Z Z Z Z Z Z (PartsK.cons Z (PartsK.nil ?_)))
  refine Co (am (hs2) Z ⟨(ni),Cq⟩) ?_
  refine Co (am (hq) Z ⟨H,H,Cq⟩) ?_
  refine Co (bS Z) (Cl (bj Z Z) (Cp (Cp (aa (aI Z (ae (aj (Cn Z (Cp ?_)))))))))
  refine aa (aD (aE ?_))
  refine aO Tryz.results71 (.tmp Z (ao (by congr 1;rw [decide_eq_false (fun h=>hne ⟨h.1,h.2.1⟩)])))
end Tor
end
section
namespace Tor
open Go Go.RowKit Go.Proofs
open Lin (dZ lZ uZ eh dR et)
structure ChkP (m n:Nat) (A R U V:Nat→Nat→Int):Prop where
 ua:tab n m (iK n U A)=tab n m R
 uv:tab n n (iK n U V)=tab n n (fun i j=>if i=j then 1 else 0)
 dn:dZ m R n≠0
 red:ke n (dZ m R) (lZ m R)
attribute [local irreducible] J PJ aJ one slT cv bB bL exT cp eP aW aN slV VT.le Ret bK
attribute [local irreducible] aK
set_option maxRecDepth 100000 in
theorem mv (m n:Nat) (A R U V:Nat→Nat→Int) (hn:n≤1048576) (hm:m≤1048576) (hA : ∀ i j,ef (A i j)) (hU : ∀ i j,ef (U i j)) (hV : ∀ i j,ef (V i j)) (hR:DesB m n R) (v:Bool) (hv:v=true↔ChkP m n A R U V) :
  Ok Tryz.prog 29 [cg n m A,rdT (cg n m R) (cg n n U) (cg n n V)] (one (.bool v)):=by
 have v1:=cT n m A
 have v2:=cT n m R
 have v3:=cT n n U
 have v4:=cT n n V
 have hm1:=rL n n U n m A hn hn hm hU hA
 have hm2:=rL n n U n n V hn hn hn hU hV
 unfold pt at hm1 hm2
 simp only [decide_true,if_true] at hm1 hm2
 have he1:=pO n m (iK n U A) n m R hn hm
 have he2:=pO n n (iK n U V) n n (fun i j=>if i=j then 1 else 0) hn hn
 simp only [true_and] at he1 he2
 have hid:=rK n hn
 refine Ok.enter Tryz.func29 Z Tryz.ntmps29 Z (fun w O => ?_)
 refine ae (aj ?_)
 refine aQ Z Z (ltN Z) (fun b2 => ?_)
 refine aQ Z Z (ltN Z) (fun b3 => ?_)
 refine Cn Z (Cp (aa (ae (ae (aj (Cl (aL 1 Z Z) (Cl (ai Z) (Cl (ak 0 Z Z Z) (Cl (ai Z) ?_)))))))))
 refine Cl (ak 0 Z Z Z) (Cl (ai Z) (Cl (ak 0 Z Z Z) (stS Z Z Z Z (PartsK.cons Z (PartsK.cons Z (PartsK.cons Z (PartsK.cons Z (PartsK.nil (Cl (aV Z) ?_)))))))))
 refine Cm Z (Cp (aa (av (cx (Γ' := [(2,_),(3,_),(4,_),(18,_),(19,_),(20,_)]) Cg (SubM.refl _) ?_))))
 refine bE (σ:=Nat) (Γk := [(2,_),(3,_),(18,_),(19,_)]) Cg (fun i => [(20,one (.int .i64 (i:Nat)))]) (fun i M0=>M0) (fun i=>i≤4) (fun i=>4 - i) (0) (Nat.zero_le _) Ch (.keep Ck (.keep Ck (.nil))) (fun i hi => ?_)
 refine bY (Γ' := [(20,_),(2,_),(3,_),(18,_),(19,_)]) (M' := [_,_]) Z Z ?_
 by_cases hi4:i<4
 ·rcases (show i=0∨i=1∨i=2∨i=3 by omega) with rfl | rfl | rfl | rfl
  ·refine ae (aj (Cl (sT Y (a9 Z Z)) (Cp (aa (ae (aI Z (aw (aa (ae ?_)))))))))
   refine av (ae (aj (Cl (ax Z Z Y) (Cl (aG Z) ?_))))
   refine aT (T:=28) Z Z Z (fun b6 => ?_)
   refine aR 0 Z Z Z Z (Cp (aa (ae (aj (Cl (aL 0 Z Z) ?_)))))
   refine Cl (am (v1) Z ⟨H,Cq⟩) ?_
   refine Cl (bS Z) (Cm Z (Co (ai Z) (Co (ak 0 Z Z Z) (Co (ai Z) (Co (ak 2 Z Z Z) (Co (sF Y (c8 Z Z)) (Cl (bj Z Z) (Cp (aa ?_)))))))))
   refine az Z (aw (aA (aa (aj (Cl (bC _ 1 Z Z Y) (Cm Z (Cp ?_)))))))
   refine aS (1) W W Ch (.drop (.keep Ck (.keep Ck (.nil))))
  ·refine ae (aj (Cl (sT Y (a9 Z Z)) (Cp (aa (ae (aI Z (aw (aa (ae ?_)))))))))
   refine av (ae (aj (Cl (ax Z Z Y) (Cl (aG Z) ?_))))
   refine aT (T:=28) Z Z Z (fun b6 => ?_)
   refine aR 0 Z Z Z Z (Cp (aa (ae (aj (Cl (aL 0 Z Z) ?_)))))
   refine Cl (am (v2) Z ⟨H,Cq⟩) ?_
   refine Cl (bS Z) (Cm Z (Co (ai Z) (Co (ak 0 Z Z Z) (Co (ai Z) (Co (ak 2 Z Z Z) (Co (sF Y (c8 Z Z)) (Cl (bj Z Z) (Cp (aa ?_)))))))))
   refine az Z (aw (aA (aa (aj (Cl (bC _ 1 Z Z Y) (Cm Z (Cp ?_)))))))
   refine aS (2) W W Ch (.drop (.keep Ck (.keep Ck (.nil))))
  ·refine ae (aj (Cl (sT Y (a9 Z Z)) (Cp (aa (ae (aI Z (aw (aa (ae ?_)))))))))
   refine av (ae (aj (Cl (ax Z Z Y) (Cl (aG Z) ?_))))
   refine aT (T:=28) Z Z Z (fun b6 => ?_)
   refine aR 0 Z Z Z Z (Cp (aa (ae (aj (Cl (aL 0 Z Z) ?_)))))
   refine Cl (am (v3) Z ⟨H,Cq⟩) ?_
   refine Cl (bS Z) (Cm Z (Co (ai Z) (Co (ak 0 Z Z Z) (Co (ai Z) (Co (ak 2 Z Z Z) (Co (sF Y (c8 Z Z)) (Cl (bj Z Z) (Cp (aa ?_)))))))))
   refine az Z (aw (aA (aa (aj (Cl (bC _ 1 Z Z Y) (Cm Z (Cp ?_)))))))
   refine aS (3) W W Ch (.drop (.keep Ck (.keep Ck (.nil))))
  ·refine ae (aj (Cl (sT Y (a9 Z Z)) (Cp (aa (ae (aI Z (aw (aa (ae ?_)))))))))
   refine av (ae (aj (Cl (ax Z Z Y) (Cl (aG Z) ?_))))
   refine aT (T:=28) Z Z Z (fun b6 => ?_)
   refine aR 0 Z Z Z Z (Cp (aa (ae (aj (Cl (aL 0 Z Z) ?_)))))
   refine Cl (am (v4) Z ⟨H,Cq⟩) ?_
   refine Cl (bS Z) (Cm Z (Co (ai Z) (Co (ak 0 Z Z Z) (Co (ai Z) (Co (ak 2 Z Z Z) (Co (sF Y (c8 Z Z)) (Cl (bj Z Z) (Cp (aa ?_)))))))))
   refine az Z (aw (aA (aa (aj (Cl (bC _ 1 Z Z Y) (Cm Z (Cp ?_)))))))
   refine aS (4) W W Ch (.drop (.keep Ck (.keep Ck (.nil))))
 ·have he:i=4:=by omega
  subst he
  by_cases h1:tab n m (iK n U A)=tab n m R
  ·by_cases h2:tab n n (iK n U V)=tab n n (fun i j=>if i=j then 1 else 0)
   ·have hr:=eO m n R hn hm hR v ⟨fun h=>⟨(hv.1 h).dn,(hv.1 h).red⟩,fun h=>hv.2 ⟨h1,h2,h.1,h.2⟩⟩
    rw [decide_eq_true h1] at he1
    rw [decide_eq_true h2] at he2
    refine ae (aj (Cl (sF Y (a9 Z Z)) (Cp (aa (ae (az Z (aX (au (au ?_)))))))))
    refine aC (aa (ae (ae (aj (Cl (ai Z) (Cl (ai Z) (Cl (bt 0 0 1 Z Z Z Z Z) (Cl (ai Z) (Cl (ak 1 Z Z Z) ?_)))))))))
    refine Cl (sF Y (c8 Z Z)) (Cm Z (Co (ai Z) (Co (ai Z) (Co (bt 0 3 1 Z Z Z Z Z) (Co (ai Z) (Co (ak 1 Z Z Z) (Co (sF Y (c8 Z Z)) (Cl (bj Z Z) (Cm Z ?_)))))))))
    refine Co (ai Z) (Co (ai Z) (Co (bt 0 6 1 Z Z Z Z Z) (Co (ai Z) (Co (ak 1 Z Z Z) (Co (sF Y (c8 Z Z)) (Cl (bj Z Z) (Cp (aa (az Z ?_)))))))))
    refine aw (aa (ae (ae (aj (Cl (ai Z) (Cl (ak 0 Z Z Z) (Cl (aL 1 Z Z) ?_)))))))
    refine Cl (am (hm1) Z ⟨H,H,Cq⟩) ?_
    refine Cm Z (Cl (ar Z Z) (Cl (ar Z Z) ?_))
    refine aT (T:=28) Z Z Z (fun b7 => ?_)
    refine aR 0 Z Z Z Z (Cn Z (Cp (aa (ae (aj (Cm Z (Cl (sF Y (c8 Z Z)) (Cm Z (Co (aL 0 Z Z) ?_)))))))))
    refine Co (ai Z) (Co (ak 1 Z Z Z) ?_)
    refine Co (am (he1) Z ⟨H,H,Cq⟩) ?_
    refine Co (bS Z) (Cl (bj Z Z) (Cp (aa (az Z (aw (aa (ae (ae (aj ?_)))))))))
    refine Cl (ai Z) (Cl (ak 1 Z Z Z) (Cl (ai Z) (Cl (ak 1 Z Z Z) ?_)))
    refine Cl (am (hm2) Z ⟨H,H,Cq⟩) ?_
    refine Cm Z (Cl (ar Z Z) (Cl (ar Z Z) ?_))
    refine aT (T:=28) Z Z Z (fun b9 => ?_)
    refine aR 0 Z Z Z Z (Cn Z (Cp (aa (ae (a4 10 aU X W (Cm Z (Cl (sF Y (c8 Z Z)) (Cm Z (Co (aL 0 Z Z) ?_)))))))))
    refine Co (ai Z) (Co (ak 3 Z Z Z) ?_)
    refine Co (am (hid) Z ⟨H,Cq⟩) ?_
    refine Co (am (he2) Z ⟨H,H,Cq⟩) ?_
    refine Co (bS Z) (Cl (bj Z Z) (Cp (Cp (aa (az Z (aw (aa (ae (aj ?_)))))))))
    refine Cl (ai Z) (Cl (ak 2 Z Z Z) ?_)
    refine Cl (am (hr) Z ⟨H,Cq⟩) ?_
    refine Cn Z (Cp (aa (aD ?_)))
    refine aO Tryz.results29 (.tmp Z H)
   ·obtain rfl:v=false:=by cases v;rfl;exact absurd (hv.1 Z).uv h2
    rw [decide_eq_true h1] at he1
    rw [decide_eq_false h2] at he2
    refine ae (aj (Cl (sF Y (a9 Z Z)) (Cp (aa (ae (az Z (aX (au (au ?_)))))))))
    refine aC (aa (ae (ae (aj (Cl (ai Z) (Cl (ai Z) (Cl (bt 0 0 1 Z Z Z Z Z) (Cl (ai Z) (Cl (ak 1 Z Z Z) ?_)))))))))
    refine Cl (sF Y (c8 Z Z)) (Cm Z (Co (ai Z) (Co (ai Z) (Co (bt 0 3 1 Z Z Z Z Z) (Co (ai Z) (Co (ak 1 Z Z Z) (Co (sF Y (c8 Z Z)) (Cl (bj Z Z) (Cm Z ?_)))))))))
    refine Co (ai Z) (Co (ai Z) (Co (bt 0 6 1 Z Z Z Z Z) (Co (ai Z) (Co (ak 1 Z Z Z) (Co (sF Y (c8 Z Z)) (Cl (bj Z Z) (Cp (aa (az Z ?_)))))))))
    refine aw (aa (ae (ae (aj (Cl (ai Z) (Cl (ak 0 Z Z Z) (Cl (aL 1 Z Z) ?_)))))))
    refine Cl (am (hm1) Z ⟨H,H,Cq⟩) ?_
    refine Cm Z (Cl (ar Z Z) (Cl (ar Z Z) ?_))
    refine aT (T:=28) Z Z Z (fun b7 => ?_)
    refine aR 0 Z Z Z Z (Cn Z (Cp (aa (ae (aj (Cm Z (Cl (sF Y (c8 Z Z)) (Cm Z (Co (aL 0 Z Z) ?_)))))))))
    refine Co (ai Z) (Co (ak 1 Z Z Z) ?_)
    refine Co (am (he1) Z ⟨H,H,Cq⟩) ?_
    refine Co (bS Z) (Cl (bj Z Z) (Cp (aa (az Z (aw (aa (ae (ae (aj ?_)))))))))
    refine Cl (ai Z) (Cl (ak 1 Z Z Z) (Cl (ai Z) (Cl (ak 1 Z Z Z) ?_)))
    refine Cl (am (hm2) Z ⟨H,H,Cq⟩) ?_
    refine Cm Z (Cl (ar Z Z) (Cl (ar Z Z) ?_))
    refine aT (T:=28) Z Z Z (fun b9 => ?_)
    refine aR 0 Z Z Z Z (Cn Z (Cp (aa (ae (a4 10 aU X W (Cm Z (Cl (sF Y (c8 Z Z)) (Cm Z (Co (aL 0 Z Z) ?_)))))))))
    refine Co (ai Z) (Co (ak 3 Z Z Z) ?_)
    refine Co (am (hid) Z ⟨H,Cq⟩) ?_
    refine Co (am (he2) Z ⟨H,H,Cq⟩) ?_
    refine Co (bS Z) (Cl (bj Z Z) (Cp (Cp (aa (aI Z (ae (aj (Cn Z (Cp ?_)))))))))
    refine aa (aD (aE ?_))
    refine aO Tryz.results29 (.tmp Z H)
  ·obtain rfl:v=false:=by cases v;rfl;exact absurd (hv.1 Z).ua h1
   rw [decide_eq_false h1] at he1
   refine ae (aj (Cl (sF Y (a9 Z Z)) (Cp (aa (ae (az Z (aX (au (au ?_)))))))))
   refine aC (aa (ae (ae (aj (Cl (ai Z) (Cl (ai Z) (Cl (bt 0 0 1 Z Z Z Z Z) (Cl (ai Z) (Cl (ak 1 Z Z Z) ?_)))))))))
   refine Cl (sF Y (c8 Z Z)) (Cm Z (Co (ai Z) (Co (ai Z) (Co (bt 0 3 1 Z Z Z Z Z) (Co (ai Z) (Co (ak 1 Z Z Z) (Co (sF Y (c8 Z Z)) (Cl (bj Z Z) (Cm Z ?_)))))))))
   refine Co (ai Z) (Co (ai Z) (Co (bt 0 6 1 Z Z Z Z Z) (Co (ai Z) (Co (ak 1 Z Z Z) (Co (sF Y (c8 Z Z)) (Cl (bj Z Z) (Cp (aa (az Z ?_)))))))))
   refine aw (aa (ae (ae (aj (Cl (ai Z) (Cl (ak 0 Z Z Z) (Cl (aL 1 Z Z) ?_)))))))
   refine Cl (am (hm1) Z ⟨H,H,Cq⟩) ?_
   refine Cm Z (Cl (ar Z Z) (Cl (ar Z Z) ?_))
   refine aT (T:=28) Z Z Z (fun b7 => ?_)
   refine aR 0 Z Z Z Z (Cn Z (Cp (aa (ae (aj (Cm Z (Cl (sF Y (c8 Z Z)) (Cm Z (Co (aL 0 Z Z) ?_)))))))))
   refine Co (ai Z) (Co (ak 1 Z Z Z) ?_)
   refine Co (am (he1) Z ⟨H,H,Cq⟩) ?_
   refine Co (bS Z) (Cl (bj Z Z) (Cp (aa (aI Z (ae (aj (Cn Z (Cp (aa ?_)))))))))
   refine aD (aE ?_)
   refine aO Tryz.results29 (.tmp Z H)
end Tor
end
section
namespace Tor
open Lin (dZ lZ uZ eh shZ exZ dR et qq cf qF dot gsB gsM sm DD)
variable {m n:Nat} {F:Nat→Nat→Int}
theorem BS:dZ m F n≠0 ↔ ∀ i,i<n→qq m (qF F) i≠0:=by
 constructor
 ·intro h i hi
  exact Lin.iN (Lin.cB h (show i+1≤n by omega))
 ·intro h
  refine Lin.y7 ?_
  rw [Lin.cm]
  induction n with
  | zero => exact fun e => absurd (show (1 : Rat) = 0 from e) W
  | succ n ih =>
   rw [Lin.dx]
   intro e
   rcases Rat.mul_eq_zero.1 e with e | e
   ·exact ih (fun i hi=>h i Y) e
   ·exact h n (Nat.lt_succ_self n) e
theorem pP {a b:Int} {x:Rat} (h0:b≠0) (h:(a:Rat)=(b:Rat)*x):Rat.divInt a b=x:=by
 have hb:(b:Rat)≠0:=Lin.uD h0
 rw [Rat.divInt_eq_div,h,Rat.mul_comm]
 exact Rat.mul_div_cancel hb
theorem A4 (h:dZ m F n≠0) {i j:Nat} (hi:i<n) (hj:j<i):grM m F i j=gsM m (qF F) i j :=
 pP (Lin.cB h Y) (by rw [Lin.cL,Lin.cm,Lin.ou hj])
theorem A5 (h:dZ m F n≠0) {i:Nat} (hi:i<n):grQ m F i=qq m (qF F) i :=
 pP (Lin.cB h Y) (by rw [Lin.cm,Lin.cm,Lin.dx])
theorem xY {l d:Int} {c:Rat} (hd:0<d) (h:(l:Rat)=(d:Rat)*c):2*(l.natAbs:Int)≤d↔c≤1 / 2 ∧ -(1 / 2)≤c:=by
 have hd':(0:Rat)<(d:Rat):=by exact_mod_cast hd
 have e:2*(l.natAbs:Int)≤d↔2*l≤d ∧ -(2*l)≤d:=by omega
 rw [e]
 have e1:2*l≤d↔c≤1 / 2:=by
  have:2*l≤d↔2*(l:Rat)≤(d:Rat):=by
   constructor
   ·intro k;exact_mod_cast k
   ·intro k;exact_mod_cast k
  rw [this,h]
  constructor
  ·intro k
   refine Rat.not_lt.1 fun k2 => ?_
   have:=Rat.mul_lt_mul_of_pos_left k2 hd'
   grind
  ·intro k
   have:=Rat.mul_le_mul_of_nonneg_left k (Rat.le_of_lt hd')
   grind
 have e2 : -(2*l)≤d ↔ -(1 / 2)≤c:=by
  have : -(2*l)≤d ↔ -(2*(l:Rat))≤(d:Rat):=by
   constructor
   ·intro k;exact_mod_cast k
   ·intro k;exact_mod_cast k
  rw [this,h]
  constructor
  ·intro k
   refine Rat.not_lt.1 fun k2 => ?_
   have:=Rat.mul_lt_mul_of_pos_left k2 hd'
   grind
  ·intro k
   have:=Rat.mul_le_mul_of_nonneg_left k (Rat.le_of_lt hd')
   grind
 rw [e1,e2]
theorem oK (h:dZ m F n≠0) {i j:Nat} (hi:i<n) (hj:j<i):dR m F i j↔gsM m (qF F) i j≤1 / 2 ∧ -(1 / 2)≤gsM m (qF F) i j :=
 xY (Lin.jg (Lin.cB h Y)) (by rw [Lin.cL,Lin.cm,Lin.ou hj])
theorem sB (h:dZ m F n≠0) {p:Nat} (hp:p+1<n):et m F p↔(3 / 4 - gsM m (qF F) (p+1) p*gsM m (qF F) (p+1) p)*qq m (qF F) p≤qq m (qF F) (p+1):=by
 rw [Lin.sc (Lin.cB h (show p+1≤n by omega))]
 unfold Lin.exQ
 rw [Lin.ou (Nat.lt_succ_self p)]
 constructor
 ·intro k;grind
 ·intro k;grind
theorem sC (h:dZ m F n≠0):ke n (dZ m F) (lZ m F)↔RedQ n (gsM m (qF F)) (qq m (qF F)):=by
 constructor
 ·intro hr
  exact ⟨fun i j hi hj=>((oK h hi hj).1 (hr.1 i j hi hj)).1,fun i j hi hj=>((oK h hi hj).1 (hr.1 i j hi hj)).2,fun p hp=>(sB h hp).1 (hr.2 p hp)⟩
 ·intro hr
  exact ⟨fun i j hi hj=>(oK h hi hj).2 ⟨hr.up i j hi hj,hr.dn i j hi hj⟩,fun p hp=>(sB h hp).2 (hr.or p hp)⟩
theorem zA:(dZ m F n≠0∧ke n (dZ m F) (lZ m F))↔(∀ i,i<n→qq m (qF F) i≠0)∧RedQ n (gsM m (qF F)) (qq m (qF F)):=by
 constructor
 ·intro h;exact ⟨BS.1 h.1,(sC h.1).1 h.2⟩
 ·intro h;have h1:=BS.2 h.1;exact ⟨h1,(sC h1).2 h.2⟩
end Tor
end
section
namespace Tor
open Go Go.RowKit Go.Proofs
def mM (c:Nat) (l:List Int):Nat→Nat→Int:=fun i j=>l.getD (i*c+j) 0
def IN (r c:Nat) (l:List Int):VT:=cg r c (mM c l)
theorem xZ {l:List Int} (h:(l.all fun x=>decide (-9223372036854775808≤x) && decide (x≤9223372036854775807))=true) : ∀ x∈l, -9223372036854775808≤x∧x≤9223372036854775807:=fun x hx=>by
 have:=List.all_eq_true.1 h x hx
 simpa using this
theorem mw (r c r' c':Nat) (F G:Nat→Nat→Int) (hr:r≤1048576):Ok Tryz.prog 27 [cg r c F,cg r' c' G] (one (.bool (decide ((r:Int)=r'∧(c:Int)=c'∧tab r c F=tab r' c' G)))) :=
 (rB r c r' c' (tab r c F) (tab r' c' G) (by simp;omega)).le ⟨nT _ _ _,nT _ _ _,Cq⟩ H
theorem lQ (r c:Nat) (l:List Int) (hr:r≤1048576) (hc:c≤1048576) (h:(l.all fun x=>decide (-9223372036854775808≤x) && decide (x≤9223372036854775807))=true):Ok Tryz.prog 40 [one (.int .i64 r),one (.int .i64 c),lj .i64 l] (IN r c l):=wI r c l hr hc (xZ h)
end Tor
end
section
namespace Tor
open Go Go.RowKit Go.Proofs
open Lin (dZ lZ uZ eh dR et qq cf qF dot gsB gsM sm)
attribute [local irreducible] J PJ aJ one slT cv bB bL exT cp eP aW aN slV VT.le Ret bK
attribute [local irreducible] aK
set_option maxRecDepth 100000 in
theorem j9 (m n:Nat) (A R U V:Nat→Nat→Int) (hn:n≤4) (hm:m≤4) (hA : ∀ i j,ef (A i j)) (hU : ∀ i j,ef (U i j)) (hV : ∀ i j,ef (V i j)) (hR : ∀ i j,lz 1 (R i j)) (v:Bool) (hv:v=true↔ChkP m n A R U V) :
  Ok Tryz.prog 28 [cg n m A,rdT (cg n m R) (cg n n U) (cg n n V)] (one (.bool v)):=by
 have hn':n≤1048576:=by omega
 have hm':m≤1048576:=by omega
 have v1:=nY n m A hn' (fun i j=>dC (hA i j))
 have v2:=mi n m R hn' (fun i j=>(hR i j).small W)
 have v3:=mi n n U hn' (fun i j=>dC (hU i j))
 have v4:=mi n n V hn' (fun i j=>dC (hV i j))
 have hm1:=lA n n U m A hn' hn' hm' hU hA
 have hm2:=lA n n U n V hn' hn' hn' hU hV
 have he1:=mw n m n m (iK n U A) R hn'
 have he2:=mw n n n n (iK n U V) (fun i j=>if i=j then 1 else 0) hn'
 simp only [true_and] at he1 he2
 have hid:=li n hn'
 refine Ok.enter Tryz.func28 Z Tryz.ntmps28 Z (fun w O => ?_)
 by_cases h1:tab n m (iK n U A)=tab n m R
 ·by_cases h2:tab n n (iK n U V)=tab n n (fun i j=>if i=j then 1 else 0)
  ·have hr:=mL m n R hn hm hR v ⟨fun h=>zA.1 ⟨(hv.1 h).dn,(hv.1 h).red⟩,fun h=>hv.2 ⟨h1,h2,(zA.2 h).1,(zA.2 h).2⟩⟩
   rw [decide_eq_true h1] at he1
   rw [decide_eq_true h2] at he2
   refine ae (aj ?_)
   refine aQ Z Z (ltN Z) (fun b2 => ?_)
   refine aQ Z Z (ltN Z) (fun b3 => ?_)
   refine Cn Z (Cp (aa (ae (ae (aj (Cl (aL 1 Z Z) ?_))))))
   refine Cl (am (v1) Z ⟨H,Cq⟩) ?_
   refine Cl (bS Z) (Cm Z (Co (ai Z) (Co (ak 0 Z Z Z) (Co (ai Z) (Co (ak 1 Z Z Z) (Co (ai Z) (Co (ak 1 Z Z Z) ?_)))))))
   refine Co (am (v2) Z ⟨H,H,H,Cq⟩) ?_
   refine Co (bS Z) (Cl (bj Z Z) (Cm Z (Co (ai Z) (Co (ak 0 Z Z Z) (Co (ai Z) (Co (ak 1 Z Z Z) (Co (ai Z) (Co (ak 1 Z Z Z) ?_))))))))
   refine Co (am (v3) Z ⟨H,H,H,Cq⟩) ?_
   refine Co (bS Z) (Cl (bj Z Z) (Cm Z (Co (ai Z) (Co (ak 0 Z Z Z) (Co (ai Z) (Co (ak 1 Z Z Z) (Co (ai Z) (Co (ak 1 Z Z Z) ?_))))))))
   refine Co (am (v4) Z ⟨H,H,H,Cq⟩) ?_
   refine Co (bS Z) (Cl (bj Z Z) (Cp (aa (az Z (aw (aa (ae (a4 23 aU X W (Cl (ai Z) ?_)))))))))
   refine Cl (ak 0 Z Z Z) (Cl (aL 1 Z Z) ?_)
   refine Cl (am (hm1) Z ⟨H,H,Cq⟩) ?_
   refine Cl (ai Z) (Cl (ak 0 Z Z Z) ?_)
   refine Cl (am (he1) Z ⟨H,H,Cq⟩) ?_
   refine Cm Z (Co (ai Z) (Co (ak 0 Z Z Z) (Co (ai Z) (Co (ak 0 Z Z Z) ?_))))
   refine Co (am (hm2) Z ⟨H,H,Cq⟩) ?_
   refine Co (ai Z) (Co (ak 1 Z Z Z) ?_)
   refine Co (am (hid) Z ⟨H,Cq⟩) ?_
   refine Co (am (he2) Z ⟨H,H,Cq⟩) ?_
   refine Cl (a6 Z Z) (Cm Z (Co (ai Z) (Co (ak 0 Z Z Z) ?_)))
   refine Co (am (hr) Z ⟨H,Cq⟩) ?_
   refine Cl (a6 Z Z) (Cp (Cn Z (Cp (aa (aD ?_)))))
   refine aO Tryz.results28 (.tmp Z H)
  ·obtain rfl:v=false:=by cases v;rfl;exact absurd (hv.1 Z).uv h2
   rw [decide_eq_true h1] at he1
   rw [decide_eq_false h2] at he2
   refine ae (aj ?_)
   refine aQ Z Z (ltN Z) (fun b2 => ?_)
   refine aQ Z Z (ltN Z) (fun b3 => ?_)
   refine Cn Z (Cp (aa (ae (ae (aj (Cl (aL 1 Z Z) ?_))))))
   refine Cl (am (v1) Z ⟨H,Cq⟩) ?_
   refine Cl (bS Z) (Cm Z (Co (ai Z) (Co (ak 0 Z Z Z) (Co (ai Z) (Co (ak 1 Z Z Z) (Co (ai Z) (Co (ak 1 Z Z Z) ?_)))))))
   refine Co (am (v2) Z ⟨H,H,H,Cq⟩) ?_
   refine Co (bS Z) (Cl (bj Z Z) (Cm Z (Co (ai Z) (Co (ak 0 Z Z Z) (Co (ai Z) (Co (ak 1 Z Z Z) (Co (ai Z) (Co (ak 1 Z Z Z) ?_))))))))
   refine Co (am (v3) Z ⟨H,H,H,Cq⟩) ?_
   refine Co (bS Z) (Cl (bj Z Z) (Cm Z (Co (ai Z) (Co (ak 0 Z Z Z) (Co (ai Z) (Co (ak 1 Z Z Z) (Co (ai Z) (Co (ak 1 Z Z Z) ?_))))))))
   refine Co (am (v4) Z ⟨H,H,H,Cq⟩) ?_
   refine Co (bS Z) (Cl (bj Z Z) (Cp (aa (az Z (aw (aa (ae (a4 23 aU X W (Cl (ai Z) ?_)))))))))
   refine Cl (ak 0 Z Z Z) (Cl (aL 1 Z Z) ?_)
   refine Cl (am (hm1) Z ⟨H,H,Cq⟩) ?_
   refine Cl (ai Z) (Cl (ak 0 Z Z Z) ?_)
   refine Cl (am (he1) Z ⟨H,H,Cq⟩) ?_
   refine Cm Z (Co (ai Z) (Co (ak 0 Z Z Z) (Co (ai Z) (Co (ak 0 Z Z Z) ?_))))
   refine Co (am (hm2) Z ⟨H,H,Cq⟩) ?_
   refine Co (ai Z) (Co (ak 1 Z Z Z) ?_)
   refine Co (am (hid) Z ⟨H,Cq⟩) ?_
   refine Co (am (he2) Z ⟨H,H,Cq⟩) ?_
   refine Cl (a6 Z Z) (Cm Z (sn0 Z Z Z Z Z (sn0 Z Z Z Z Z (sn0 Z Z Z Z Z (Cl (bj Z Z) (Cp (Cn Z (Cp (aa ?_)))))))))
   refine aD ?_
   refine aO Tryz.results28 (.tmp Z H)
 ·obtain rfl:v=false:=by cases v;rfl;exact absurd (hv.1 Z).ua h1
  rw [decide_eq_false h1] at he1
  refine ae (aj ?_)
  refine aQ Z Z (ltN Z) (fun b2 => ?_)
  refine aQ Z Z (ltN Z) (fun b3 => ?_)
  refine Cn Z (Cp (aa (ae (ae (aj (Cl (aL 1 Z Z) ?_))))))
  refine Cl (am (v1) Z ⟨H,Cq⟩) ?_
  refine Cl (bS Z) (Cm Z (Co (ai Z) (Co (ak 0 Z Z Z) (Co (ai Z) (Co (ak 1 Z Z Z) (Co (ai Z) (Co (ak 1 Z Z Z) ?_)))))))
  refine Co (am (v2) Z ⟨H,H,H,Cq⟩) ?_
  refine Co (bS Z) (Cl (bj Z Z) (Cm Z (Co (ai Z) (Co (ak 0 Z Z Z) (Co (ai Z) (Co (ak 1 Z Z Z) (Co (ai Z) (Co (ak 1 Z Z Z) ?_))))))))
  refine Co (am (v3) Z ⟨H,H,H,Cq⟩) ?_
  refine Co (bS Z) (Cl (bj Z Z) (Cm Z (Co (ai Z) (Co (ak 0 Z Z Z) (Co (ai Z) (Co (ak 1 Z Z Z) (Co (ai Z) (Co (ak 1 Z Z Z) ?_))))))))
  refine Co (am (v4) Z ⟨H,H,H,Cq⟩) ?_
  refine Co (bS Z) (Cl (bj Z Z) (Cp (aa (az Z (aw (aa (ae (a4 23 aU X W (Cl (ai Z) ?_)))))))))
  refine Cl (ak 0 Z Z Z) (Cl (aL 1 Z Z) ?_)
  refine Cl (am (hm1) Z ⟨H,H,Cq⟩) ?_
  refine Cl (ai Z) (Cl (ak 0 Z Z Z) ?_)
  refine Cl (am (he1) Z ⟨H,H,Cq⟩) ?_
  refine Cm Z (sn0 Z Z Z Z Z (sn0 Z Z Z Z Z (sn0 Z Z Z Z Z (sn0 Z Z Z Z Z (sn0 Z Z Z Z Z (sn0 Z Z Z Z Z (sn0 Z Z Z Z Z (sn0 Z Z Z Z Z (sn0 Z Z Z Z Z ?_)))))))))
  refine Cl (bj Z Z) (Cm Z (sn0 Z Z Z Z Z (sn0 Z Z Z Z Z (sn0 Z Z Z Z Z (Cl (bj Z Z) (Cp (Cn Z (Cp (aa ?_)))))))))
  refine aD ?_
  refine aO Tryz.results28 (.tmp Z H)
end Tor
end
section
namespace Tor.Lin
theorem x3 {n m:Nat} {f:Nat→Rat} (h:m≤n) (h0 : ∀ j,m≤j→j<n→f j=0):sm n f=sm m f:=by
  induction n with
  | zero => have : m = 0 := by omega
            rw [this]
  | succ n ih =>
    by_cases e:m=n+1
    · rw [e]
    · rw [sm,ih Y (fun j h1 h2=>h0 j h1 Y),h0 n Y Y,Rat.add_zero]
end Tor.Lin
end
section
namespace Tor
open Go Go.RowKit Go.Proofs
theorem lR {α:Type} [Inhabited α] {n:Nat} {P:Nat→α→Prop} (h : ∀ t,t<n → ∃ z,P t z) : ∃ Ca:Nat→α, ∀ t,t<n→P t (Ca t):=by
 refine ⟨fun t=>if h':t<n then Classical.choose (h t h') else default,fun t ht => ?_⟩
 have:=Classical.choose_spec (h t ht)
 dsimp only
 rw [dif_pos ht]; exact this
def Ech (B:Nat→Nat→Rat) (n k:Nat):Prop:=(∀ i,i<k→cu (B i) n<n) ∧ ∀ i j,i<j→j<k→B j (cu (B i) n)=0
theorem sD {B:Nat→Nat→Rat} {n k:Nat} (h:Ech B n k) (a:Nat→Rat) : ∀ i,i≤k → ∀ t,t<i→gu B n a i (cu (B t) n)=0
 | 0, _, t, ht => absurd ht (Nat.not_lt_zero _)
 | i + 1, hi, t, ht => by
  show gu B n a i (cu (B t) n) - gu B n a i (cu (B i) n) / B i (cu (B i) n)*B i (cu (B t) n)=0
  by_cases e:t=i
  ·subst e
   have h0:=(iO (h.1 t Y)).1
   grind
  ·rw [sD h a i Y t Y,h.2 t i Y Y]; grind
theorem sE (B:Nat→Nat→Rat) (n:Nat) (a:Nat→Rat) : ∀ i j,gu B n a i j=a j - Lin.sm i (fun t=>gu B n a t (cu (B t) n) / B t (cu (B t) n)*B t j)
 | 0, j => by show a j = a j - 0; grind
 | i + 1, j => by
  show gu B n a i j - gu B n a i (cu (B i) n) / B i (cu (B i) n)*B i j=a j - (Lin.sm i _+_)
  rw [sE B n a i j]; grind
theorem x4 {B:Nat→Nat→Rat} {n k:Nat} (h:Ech B n k) {g:Nat→Rat} (h0 : ∀ t,t<k→Lin.sm k (fun s=>g s*B s (cu (B t) n))=0) : ∀ t,t<k→g t=0:=by
 intro t
 induction t using Nat.strongRecOn with
 | _ t ih =>
  intro ht
  have z:=h0 t ht
  rw [Lin.iu ht (fun i hi hne=>by
   rcases Nat.lt_or_ge i t with h1 | h1
   ·rw [ih i h1 hi]; exact Rat.zero_mul _
   ·rw [h.2 t i Y hi]; exact Rat.mul_zero _)] at z
  have hb:=(iO (h.1 t ht)).1
  rcases Rat.mul_eq_zero.1 z with h1 | h1
  ·exact h1
  ·exact absurd h1 hb
theorem x5 {l:List (Nat→Rat)} {n:Nat} {R:Nat→Rat} (h:Ech (dS l) n l.length) (h1:cu R n<n) (h2 : ∀ t,t<l.length→R (cu (dS l t) n)=0):Ech (dS (l ++ [R])) n (l ++ [R]).length:=by
 have hl:(l ++ [R]).length=l.length+1:=by simp
 rw [hl]
 refine ⟨fun i hi => ?_,fun i j hij hj => ?_⟩
 ·by_cases e:i<l.length
  ·rw [ji e]; exact h.1 i e
  ·rw [show i=l.length by omega,iP]; exact h1
 ·rw [ji (show i<l.length by omega)]
  by_cases e:j<l.length
  ·rw [ji e]; exact h.2 i j hij e
  ·rw [show j=l.length by omega,iP]; exact h2 i Y
structure NewJ (r c:Nat) (F:Nat→Nat→Int) (i:Nat) (s:List Nat × List (Nat→Rat)):Prop where
 ech:Ech (dS s.2) c s.2.length
 sp : ∀ i',i'<i → ∃ y:Nat→Rat, ∀ j,(F i' j:Rat) - Lin.sm s.2.length (fun t=>y t*dS s.2 t j)=0∨c≤j
 cb : ∀ t,t<s.2.length → ∃ z:Nat→Rat,(∀ q,i≤q→z q=0) ∧ ∀ j,dS s.2 t j=Lin.sm r (fun q=>z q*(F q j:Rat))
 nw:s.1=Lin.ja c r (fun i j=>F j i) i
theorem sG {l:List (Nat→Rat)} {R:Nat→Rat} {y:Nat→Rat} {j:Nat} : Lin.sm (l ++ [R]).length (fun t=>y t*dS (l ++ [R]) t j)=Lin.sm l.length (fun t=>y t*dS l t j)+y l.length*R j:=by
 rw [show (l ++ [R]).length=l.length+1 by simp,Lin.sm,iP]
 congr 1
 exact Lin.a8 fun t ht=>by rw [ji ht]
theorem x6 {r c:Nat} {F:Nat→Nat→Int} : ∀ i,i≤r→NewJ r c F i (fl c F i)
 | 0, _ => ⟨⟨fun i h => absurd h (Nat.not_lt_zero _), fun i j _ h => absurd h (Nat.not_lt_zero _)⟩, fun i h => absurd h (Nat.not_lt_zero _), fun t h => absurd h (Nat.not_lt_zero _), rfl⟩
 | i + 1, hi => by
  have ih:=x6 (r:=r) (c:=c) (F:=F) i Y
  show NewJ r c F (i+1) (if _ then _ else fl c F i)
  have hz:=sD ih.ech (fun j=>(F i j:Rat)) _ (Nat.le_refl _)
  obtain ⟨co,hsp⟩ : ∃ co:Nat→Rat, ∀ j,gu (dS (fl c F i).2) c (fun j=>(F i j:Rat)) (fl c F i).2.length j=(F i j:Rat) - Lin.sm (fl c F i).2.length (fun t=>co t*dS (fl c F i).2 t j):=⟨_,fun j=>sE (dS (fl c F i).2) c (fun j=>(F i j:Rat)) (fl c F i).2.length j⟩
  generalize hR:gu (dS (fl c F i).2) c (fun j=>(F i j:Rat)) (fl c F i).2.length=R at *
  clear hR
  generalize fl c F i=Ce at *
  -- a row of the basis and the row i as combinations of the rows
  have hcR : ∃ z:Nat→Rat,z i=1∧(∀ q,i<q→z q=0) ∧ ∀ j,R j=Lin.sm r (fun q=>z q*(F q j:Rat)):=by
   have hch:=lR ih.cb
   obtain ⟨Ca,hZ⟩:=hch
   refine ⟨fun q=>(if q=i then 1 else 0) - Lin.sm Ce.2.length (fun t=>co t*Ca t q),?_,fun q hq => ?_,fun j => ?_⟩
   ·show (if i=i then (1:Rat) else 0) - _=1
    rw [if_pos Z,Lin.fP (fun t ht=>by rw [(hZ t ht).1 i (Nat.le_refl _)]; exact Rat.mul_zero _)]; grind
   ·show (if q=i then (1:Rat) else 0) - _=0
    rw [if_neg Y,Lin.fP (fun t ht=>by rw [(hZ t ht).1 q Y]; exact Rat.mul_zero _)]; grind
   ·rw [hsp j]
    rw [Lin.a8 (f:=fun q=>((if q=i then 1 else 0) - Lin.sm Ce.2.length (fun t=>co t*Ca t q))*(F q j:Rat)) (g:=fun q=>(if q=i then (F q j:Rat) else 0) - Lin.sm Ce.2.length (fun t=>co t*(Ca t q*(F q j:Rat)))) (fun q _=>by
     have e:Lin.sm Ce.2.length (fun t=>co t*(Ca t q*(F q j:Rat)))=Lin.sm Ce.2.length (fun t=>co t*Ca t q)*(F q j:Rat):=by
      rw [← Lin.i9]; exact Lin.a8 fun t _=>by grind
     rw [e]; split <;> grind),Lin.jy,Lin.th Y,Lin.m8]
    congr 1
    exact Lin.a8 fun t ht=>by
     rw [(hZ t ht).2 j,Rat.mul_comm, ← Lin.i9]
     exact Lin.a8 fun q _=>by grind
  by_cases hf:cu R c<c
  ·rw [if_pos hf]
   refine ⟨x5 ih.ech hf hz,fun i' hi' => ?_,fun t ht => ?_,?_⟩
   ·by_cases e:i'=i
    ·subst e
     refine ⟨fun t=>if t<Ce.2.length then co t else 1,fun j => .inl ?_⟩
     show _ - Lin.sm (Ce.2 ++ [R]).length (fun t=>(if t<Ce.2.length then co t else 1)*dS (Ce.2 ++ [R]) t j)=0
     rw [sG (y:=fun t=>if t<Ce.2.length then co t else 1),if_neg (Nat.lt_irrefl _),hsp j,Lin.a8 (g:=fun t=>co t*dS Ce.2 t j) (fun t ht=>by rw [if_pos ht])]
     grind
    ·obtain ⟨y,hy⟩:=ih.sp i' Y
     refine ⟨fun t=>if t<Ce.2.length then y t else 0,fun j=>(hy j).imp (fun h => ?_) id⟩
     show _ - Lin.sm (Ce.2 ++ [R]).length (fun t=>(if t<Ce.2.length then y t else 0)*dS (Ce.2 ++ [R]) t j)=0
     rw [sG (y:=fun t=>if t<Ce.2.length then y t else 0),if_neg (Nat.lt_irrefl _),Lin.a8 (g:=fun t=>y t*dS Ce.2 t j) (fun t ht=>by rw [if_pos ht])]
     grind
   ·have hl:(Ce.2 ++ [R]).length=Ce.2.length+1:=by simp
    have ht:t<(Ce.2 ++ [R]).length:=ht
    show ∃ z:Nat→Rat,(∀ q,i+1≤q→z q=0) ∧ ∀ j,dS (Ce.2 ++ [R]) t j=Lin.sm r (fun q=>z q*(F q j:Rat))
    by_cases e:t<Ce.2.length
    ·obtain ⟨z,z1,z2⟩:=ih.cb t e
     exact ⟨z,fun q hq=>z1 q Y,fun j=>by rw [ji e]; exact z2 j⟩
    ·obtain ⟨z,_,z1,z2⟩:=hcR
     exact ⟨z,fun q hq=>z1 q Y,fun j=>by rw [show t=Ce.2.length by omega,iP]; exact z2 j⟩
   ·show Ce.1 ++ [i]=_
    rw [Lin.oV, ← ih.nw]
    rintro ⟨y,y1,y2,y3⟩
    have hch:=lR ih.sp
    obtain ⟨Cb,hY⟩:=hch
    -- the row i is a combination of the basis
    have e1 : ∀ j,j<c→R j=Lin.sm Ce.2.length (fun t=>(- Lin.sm i (fun q=>y q*Cb q t) - co t)*dS Ce.2 t j):=fun j hj=>by
     have z:=y3 j hj
     rw [Lin.x3 (show i+1≤r by omega) (fun q h1 _=>by rw [y2 q Y]; exact Rat.zero_mul _),Lin.sm,y1] at z
     rw [Lin.a8 (g:=fun t=>(-1:Rat)*(Lin.sm i (fun q=>y q*Cb q t)*dS Ce.2 t j)+(-1:Rat)*(co t*dS Ce.2 t j)) (fun t _=>by grind),Lin.nZ,hsp j]
     have e2:Lin.sm Ce.2.length (fun t=>Lin.sm i (fun q=>y q*Cb q t)*dS Ce.2 t j)=Lin.sm i (fun q=>y q*(F q j:Rat)):=by
      rw [Lin.a8 (g:=fun t=>Lin.sm i (fun q=>y q*Cb q t*dS Ce.2 t j)) (fun t _=>by rw [Lin.i9]),Lin.m8]
      refine Lin.a8 fun q hq => ?_
      rcases hY q hq j with h | h
      ·have h:(F q j:Rat)=Lin.sm Ce.2.length (fun t=>Cb q t*dS Ce.2 t j):=by grind
       rw [h,Rat.mul_comm, ← Lin.i9]
       exact Lin.a8 fun t _=>by grind
      ·omega
     rw [e2]
     have z:Lin.sm i (fun j_1=>y j_1*(F j_1 j:Rat))+1*(F i j:Rat)=0:=z
     grind
    have g0:=x4 ih.ech (g:=fun t => - Lin.sm i (fun q=>y q*Cb q t) - co t) (fun t ht=>by
     have hlt:=ih.ech.1 t ht
     rw [← e1 _ hlt]; exact hz t ht)
    have:R (cu R c)=0:=by
     rw [e1 _ hf]
     exact Lin.fP fun t ht=>by rw [g0 t ht]; exact Rat.zero_mul _
    exact (iO hf).1 this
  ·rw [if_neg hf]
   have hR0 : ∀ j,j<c→R j=0:=by
    rcases lL R c with ⟨_,h⟩ | ⟨h,_⟩
    ·exact h
    ·exact absurd h hf
   refine ⟨ih.ech,fun i' hi' => ?_,fun t ht => ?_,?_⟩
   ·by_cases e:i'=i
    ·subst e
     refine ⟨co,fun j => ?_⟩
     by_cases hj:j<c
     ·exact .inl (by rw [← hsp j]; exact hR0 j hj)
     ·exact .inr Y
    ·exact ih.sp i' Y
   ·obtain ⟨z,z1,z2⟩:=ih.cb t ht
    exact ⟨z,fun q hq=>z1 q Y,z2⟩
   ·rw [Lin.oW, ← ih.nw]
    obtain ⟨z,z0,z1,z2⟩:=hcR
    exact Classical.not_not.2 ⟨z,z0,z1,fun j hj=>by
     have:=z2 j
     rw [hR0 j hj] at this
     exact this.symm⟩
theorem vN {r c i:Nat} {F:Nat→Nat→Int} (h:i≤r):(fl c F i).1=Lin.ja c r (fun i j=>F j i) i:=(x6 i h).nw
end Tor
end
section
namespace Tor
open Lin (dZ lZ uZ eh shZ exZ dR et qq cf qF dot gsB gsM sm DD a8)
theorem zB {m n:Nat} {A:Nat→Nat→Rat} : ∀ c,c<n → ∃ y:Nat→Rat,y c=1∧(∀ j,c<j→y j=0) ∧ ∀ k,gsB m A c k=sm n (fun j=>y j*A j k):=by
 intro c
 induction c using Nat.strongRecOn with
 | _ c ih =>
  intro hc
  have key : ∀ i,i≤c → ∃ y:Nat→Rat,y c=1∧(∀ j,c<j→y j=0) ∧ ∀ k,rsQ m A c i k=sm n (fun j=>y j*A j k):=by
   intro i
   induction i with
   | zero =>
    intro _
    refine ⟨fun j=>if j=c then 1 else 0,if_pos Z,fun j hj=>if_neg Y,fun k => ?_⟩
    rw [xN,a8 (g:=fun j=>if j=c then A c k else 0) (fun j _=>by
     show (if j=c then (1:Rat) else 0)*A j k=if j=c then A c k else 0
     by_cases e:j=c
     ·subst e;rw [if_pos Z,if_pos Z]; grind
     ·rw [if_neg e,if_neg e]; exact Rat.zero_mul _),Lin.th hc]
   | succ i iq =>
    intro hi
    obtain ⟨y,h1,h2,h3⟩:=iq Y
    obtain ⟨z,k1,k2,k3⟩:=ih i Y Y
    refine ⟨fun j=>y j - gsM m A c i*z j,?_,fun j hj => ?_,fun k => ?_⟩
    ·show y c - _*z c=1
     rw [h1,k2 c Y]; grind
    ·show y j - _*z j=0
     rw [h2 j hj,k2 j Y]; grind
    ·rw [xP,h3,k3, ← Lin.jW, ← Lin.jy]
     exact a8 fun j _=>by grind
  obtain ⟨y,h1,h2,h3⟩:=key c (Nat.le_refl c)
  exact ⟨y,h1,h2,fun k=>by rw [← pK]; exact h3 k⟩
theorem x7 {m n c:Nat} {A:Nat→Nat→Rat} {y:Nat→Rat} (hc:c<n) (h2 : ∀ j,c<j→y j=0):dot m (fun k=>sm n (fun j=>y j*A j k)) (gsB m A c)=y c*qq m A c:=by
 have h1:dot m (fun k=>sm n (fun j=>y j*A j k)) (gsB m A c)=sm n (fun j=>y j*dot m (A j) (gsB m A c)):=by
  unfold Lin.dot
  rw [a8 (g:=fun k=>sm n (fun j=>y j*(A j k*gsB m A c k))) (fun k _=>by
   rw [← Lin.i9]; exact a8 fun j _=>by grind),Lin.m8]
  exact a8 fun j _=>Lin.jW _ _ _
 rw [h1,a8 (g:=fun j=>if j=c then y c*qq m A c else 0) (fun j _=>by
  rw [Lin.ga]
  by_cases e:j=c
  ·subst e;rw [Lin.eR,if_pos Z]; grind
  ·rw [if_neg e]
   rcases Nat.lt_or_ge c j with h | h
   ·rw [h2 j h]; exact Rat.zero_mul _
   ·rw [Lin.ov Y]; grind),Lin.th hc]
theorem uV {m n c:Nat} {F:Nat→Nat→Int} (hc:c<n):Lin.lC m n (fun i j=>F j i) c↔qq m (qF F) c≠0:=by
 constructor
 ·intro h h0
  obtain ⟨y,h1,h2,h3⟩:=zB (m:=m) (A:=qF F) c hc
  exact h ⟨y,h1,h2,fun i hi=>by
   have h4:=Lin.oq h0 i hi
   rw [h3] at h4;exact h4⟩
 ·rintro h ⟨y,h1,h2,h3⟩
  have h4:=x7 (m:=m) (A:=qF F) (y:=y) hc h2
  rw [h1] at h4
  have h5:dot m (fun k=>sm n (fun j=>y j*qF F j k)) (gsB m (qF F) c)=0:=Lin.fP fun k hk=>by
   have:=h3 k hk
   show sm n (fun j=>y j*(F j k:Rat))*_=0
   rw [this]; exact Rat.zero_mul _
  rw [h5] at h4
  exact h (by grind)
theorem x8 {m n:Nat} {F:Nat→Nat→Int} : (fl m F n).1.length=n ↔ ∀ i,i<n→qq m (qF F) i≠0:=by
 rw [vN (Nat.le_refl n)]
 constructor
 ·intro h i hi
  refine (uV hi).1 ?_
  have h1:=Lin.vq (r:=m) (w:=n) (F:=fun i j=>F j i) (n:=n) Y
  exact (Lin.Bk.1 (by rw [h1]; exact List.mem_range.2 hi)).2
 ·intro h
  rcases Nat.lt_or_ge (Lin.ja m n (fun i j=>F j i) n).length n with h1 | h1
  ·obtain ⟨c,hc,k⟩:=Lin.tk h1
   exact absurd ((uV hc).2 (h c hc)) k
  ·exact Nat.le_antisymm (Lin.yz _ _ _ _) h1
end Tor
end
section
namespace Tor
open Go Go.RowKit Go.Proofs
open Lin (dZ lZ uZ eh dR et qq cf qF dot gsB gsM sm)
theorem zC {r:Nat} (h:r≤4):kf 1 r≤1099511627700:=by
 rcases (show r=0∨r=1∨r=2∨r=3∨r=4 by omega) with rfl | rfl | rfl | rfl | rfl <;> decide +kernel
attribute [local irreducible] J PJ aJ one slT cv bB bL exT cp eP aW aN slV VT.le Ret bK
attribute [local irreducible] aK bD dq
theorem uW (m n:Nat) (F:Nat→Nat→Int) (hn:n≤4) (hm:m≤4) (hF : ∀ i j,lz 1 (F i j)) (b:Bool) (hb:b=true↔dZ m F n≠0):Ok Tryz.prog 17 [cg n m F] (one (.bool b)):=by
 have hnew:=xL n m F 1 Y Y W hF (zC hn)
 have hiff:b=decide (((fl m F n).1.length:Int)=(n:Nat)):=by
  have h1:=x8 (m:=m) (n:=n) (F:=F)
  rw [← BS, ← hb] at h1
  cases b
  ·exact (decide_eq_false fun e=>Bool.false_ne_true (h1.1 Y)).symm
  ·exact (decide_eq_true (by have:=h1.2 Z;omega)).symm
 rw [hiff]
 refine Ok.enter Tryz.func17 Z Tryz.ntmps17 Z (fun w O => ?_)
 refine ae (aj ?_)
 refine aQ Z Z (ltN Z) (fun b1 => ?_)
 refine Cn Z (Cp (aa (ae (a4 6 aU X W (Cl (aL 0 Z Z) ?_)))))
 refine Cl (am (hnew) Z ⟨H,Cq⟩) ?_
 refine Cl (aV Z) (Cl (ai Z) (Cl (ak 0 Z Z Z) (Cl (cN Z Z) (Cp (Cn Z (Cp (aa (aD ?_))))))))
 refine aO Tryz.results17 (.tmp Z H)
theorem vO (n:Nat) (f:Nat→Int) (hn:n≤1048576) (hf : ∀ i,dc (f i)):Ok Tryz.prog 31 [cH n f] (bD ((eh n f f:Int):Rat)):=by
 have h1:=xx n f f hn hf hf
 rw [← oE,show Lin.smZ n (fun k=>f k*f k)=eh n f f from rfl] at h1
 have h2:=kD (eh n f f)
 refine Ok.enter Tryz.func31 Z Tryz.ntmps31 Z (fun w O => ?_)
 refine ae (aj ?_)
 refine aT (T:=45) Z Z Z (fun b2 => ?_)
 refine Cp (aa (ae (aj (Cm Z (Cm Z ?_)))))
 refine Cl (am (h1) Z ⟨H,H,Cq⟩) ?_
 refine Cm Z (Cl (ar Z Z) (Cl (ar Z Z) ?_))
 refine aP (T:=43) Z (ltN Z) (fun b3 => ?_)
 refine aB 0 Z Z Z Z Z (leN Z) Z (Cn Z (Cp (aa (ae (aj (Cl (ak 0 Z Z Z) ?_))))))
 refine Cl (am (h2) Z ⟨H,Cq⟩) ?_
 refine dF 1 Z Z Z Z (Cp (aa (aD ?_)))
 refine aO Tryz.results31 (.cellB 1 Z Z Z H)
end Tor
end
section
namespace Tor
open Go Go.RowKit Go.Proofs
open Lin (dZ lZ uZ eh dR et qq cf qF dot gsB gsM sm)
theorem RedOut.chk {m n N:Nat} {F:Nat→Nat→Int} {s:LS} (h:RedOut m n N F s):ChkP m n F s.R s.U s.V :=
 ⟨mh fun i j hi hj=>(h.ua i j hi hj).symm,mh fun i j hi hj=>h.uv i j hi hj,h.dn,h.red,h.ord⟩
theorem oL {x:Int} (h:x.natAbs≤4096):lz 1 x:=lz1 Y
theorem sH {x:Int} (h:(aF x.natAbs).length≤25000):ef x:=Nat.le_trans h W
section
variable {m n N:Nat} {F:Nat→Nat→Int} {s:LS}
theorem RedOut.lzR (h:RedOut m n N F s) (i j:Nat):lz 1 (s.R i j):=oL (Nat.le_trans (h.f i j) W)
theorem RedOut.mU (h:RedOut m n N F s) (i j:Nat):ef (s.U i j):=sH (h.U i j)
theorem RedOut.mV (h:RedOut m n N F s) (i j:Nat):ef (s.V i j):=sH (h.V i j)
theorem RedOut.m4R (h:RedOut m n N F s) (i j:Nat):dc (s.R i j):=fR (t:=6) (h.f i j) W
theorem RedOut.mR (h:RedOut m n N F s) (i j:Nat):ef (s.R i j):=(h.m4R i j).L
theorem RedOut.des (h:RedOut m n N F s) (hm:m≤4) (hn:n≤4):DesB m n s.R:=fC hm hn h.f
end
abbrev ex1:Nat→Nat→Int:=mM 2 [1,0,5,1]
abbrev ex2:Nat→Nat→Int:=mM 2 [1,2,2,4]
abbrev ex3:Nat→Nat→Int:=mM 2 [1,1,1,0]
abbrev ex4:Nat→Nat→Int:=mM 2 [1,0,1,1]
abbrev ex5:Nat→Nat→Int:=mM 2 [2,0,1,2]
theorem lS {c:Nat} {l:List Int} (h:(l.all fun x=>decide (x.natAbs≤64))=true) (i j:Nat):(mM c l i j).natAbs≤64:=by
 unfold mM
 by_cases hk:i*c+j<l.length
 ·have:=List.all_eq_true.1 h (l.getD (i*c+j) 0) (by simp [List.getD,hk])
  exact of_decide_eq_true this
 ·have:l.getD (i*c+j) 0=0:=by simp [List.getD,Nat.le_of_not_lt hk]
  rw [this]; decide
theorem A6 {N:Nat} {s:LS} (h:RedOut 2 2 N ex1 s):eh 2 (s.R 0) (s.R 0)=1:=by
 have h2:dZ 2 s.R 2=1:=h.vol.trans S
 have h1:dZ 2 s.R 1=eh 2 (s.R 0) (s.R 0):=Lin.qN (F:=s.R) 0 0
 have h0:dZ 2 s.R 0=1:=rfl
 have hp:=Lin.jg (Lin.cB h.dn (show 1≤2 by decide))
 have hs:=h.red 1 0 W W
 have ho:=h.ord 0 W
 unfold Lin.dR at hs
 unfold Lin.et at ho
 rw [Nat.zero_add] at hs ho
 rw [h2,h0] at ho
 rw [← h1]
 generalize dZ 2 s.R 1=d at *
 generalize lZ 2 s.R 1 0=l at *
 have e:l*l=(l.natAbs:Int)*l.natAbs:=(Int.natAbs_mul_self' l).symm
 rw [e] at ho
 have ha:0≤(l.natAbs:Int):=Int.natCast_nonneg _
 generalize (l.natAbs:Int)=a at *
 have h3:(2*a)*(2*a)≤d*d:=Int.mul_le_mul hs hs Y Y
 have h4:4*(a*a)≤d*d:=by rw [show 4*(a*a)=(2*a)*(2*a) by grind]; exact h3
 rcases (show d≤1∨2≤d by omega) with k | k
 ·omega
 ·have:2*2≤d*d:=Int.mul_le_mul k k Y Y
  omega
theorem BT {D:Nat→Int} {L:Nat→Nat→Int} (h1:mr D L 1 0) (h2:oA D L 0):ke 2 D L :=
 ⟨fun i j hi hj=>by
  obtain rfl:i=1:=by omega
  obtain rfl:j=0:=by omega
  exact h1,fun p hp=>by
  obtain rfl:p=0:=by omega
  exact h2⟩
theorem zD:dZ 2 ex5 2≠0∧ke 2 (dZ 2 ex5) (lZ 2 ex5):=⟨by decide +kernel,BT (show 2*((lZ 2 ex5 1 0).natAbs:Int)≤dZ 2 ex5 1 by decide +kernel) (show 3*(dZ 2 ex5 1*dZ 2 ex5 1)≤4*(dZ 2 ex5 2*dZ 2 ex5 0+lZ 2 ex5 1 0*lZ 2 ex5 1 0) by decide +kernel)⟩
theorem zE:dZ 2 idF 2≠0∧ke 2 (dZ 2 idF) (lZ 2 idF):=⟨by decide +kernel,BT (show 2*((lZ 2 idF 1 0).natAbs:Int)≤dZ 2 idF 1 by decide +kernel) (show 3*(dZ 2 idF 1*dZ 2 idF 1)≤4*(dZ 2 idF 2*dZ 2 idF 0+lZ 2 idF 1 0*lZ 2 idF 1 0) by decide +kernel)⟩
theorem zF : ¬ (dZ 2 ex4 2≠0∧ke 2 (dZ 2 ex4) (lZ 2 ex4)):=fun h=>absurd (show 2*((lZ 2 ex4 1 0).natAbs:Int)≤dZ 2 ex4 1 from h.2.1 1 0 W W) S
theorem zG : ¬ ke 2 (dZ 2 ex1) (lZ 2 ex1):=fun h=>absurd (show 2*((lZ 2 ex1 1 0).natAbs:Int)≤dZ 2 ex1 1 from h.1 1 0 W W) S
theorem BW : ¬ (dZ 2 (fun _ _=>0) 1≠0∧ke 1 (dZ 2 fun _ _=>0) (lZ 2 fun _ _=>0)):=fun h=>h.1 S
theorem B8 {m:Nat} {F:Nat→Nat→Int} : dZ m F 0≠0∧ke 0 (dZ m F) (lZ m F):=⟨Int.one_ne_zero,fun i j hi=>absurd hi (Nat.not_lt_zero i),fun p hp=>absurd hp (Nat.not_lt_zero _)⟩
theorem BX:grM 2 ex3 1 0=1 / 2:=by decide +kernel
theorem BY : ∀ i,i<2→grQ 2 ex3 i=if i=0 then 2 else 1 / 2:=fun i hi=>by
 rcases (show i=0∨i=1 by omega) with rfl | rfl
 ·show grQ 2 ex3 0=2
  decide +kernel
 ·show grQ 2 ex3 1=1 / 2
  decide +kernel
theorem z7 {m n:Nat} {F:Nat→Nat→Int} (hm:m≤4) (hn:n≤4) (hF : ∀ i j,(F i j).natAbs≤9):LB m n 1024 F:=by
 refine ⟨hm,hn,by decide,by decide,fun a ha => ?_,fun i j=>Nat.le_trans (hF i j) W⟩
 have h1:=lN (B:=81) (f:=fun k=>F a k*F a k) (fun k=>by rw [Int.natAbs_mul]; exact Nat.mul_le_mul (hF a k) (hF a k)) m
 have h2:m*81≤4*81:=Nat.mul_le_mul_right _ hm
 show Lin.smZ m (fun k=>F a k*F a k)≤_
 omega
theorem RedOut.lb {m n:Nat} {F:Nat→Nat→Int} {s:LS} (hm:m≤4) (hn:n≤4) (h:RedOut m n (2*1024) F s):LB m n 2048 s.R:=⟨hm,hn,by decide,by decide,h.nrm,h.f⟩
end Tor
end
section
namespace Tor
open Go Go.RowKit Go.Proofs
attribute [local irreducible] J PJ aJ one slT cv bB bL exT cp eP aW aN slV VT.le Ret bK xO
attribute [local irreducible] aK bD
theorem oM (r c:Nat) (hr:r≤1048576) (hc:c≤1048576):Ok Tryz.prog 41 [one (.int .i64 r),one (.int .i64 c)] (cg r c (fun _ _=>0)):=(lh r c hr hc).ok fun s=>rG _ s
attribute [local irreducible] cg cH fY
end Tor
end
section
namespace Tor
open Go Go.RowKit Go.Proofs
open Lin (dZ lZ uZ eh dR et qq cf qF dot gsB gsM sm)
theorem jK {x y z t:Int} : VT.le (slT .one 4 (fun q => [one (.int .i64 t),one (.int .i64 z),one (.int .i64 y),one (.int .i64 x)].reverse.getD q bK)) (lj .i64 [x,y,z,t]):=eo fun i hi=>by
 rcases (show i=0∨i=1∨i=2∨i=3 by omega) with rfl | rfl | rfl | rfl
 ·exact VT.le_refl _
 ·exact VT.le_refl _
 ·exact VT.le_refl _
 ·exact VT.le_refl _
theorem qs:VT.le (slT (.agg 4) 2 (fun q => [bD (1 / 2),bD 2].reverse.getD q bK)) (slT (.agg 4) 2 (fun i=>bD (if i=0 then 2 else 1 / 2))):=eo fun i hi=>by
 rcases (show i=0∨i=1 by omega) with rfl | rfl
 ·exact VT.le_refl (bD 2)
 ·exact VT.le_refl (bD (1 / 2))
theorem vP:VT.le (slT .one 2 (fun q => [slT (.agg 4) 1 (fun q => [bD (1 / 2)].reverse.getD q bK),slT (.agg 4) 0 (fun q => [].reverse.getD q bK)].reverse.getD q bK)) (grT 2 fun _ _=>1 / 2):=eo fun i hi=>by
 rcases (show i=0∨i=1 by omega) with rfl | rfl
 ·exact eo (φ:=fun q => [].reverse.getD q bK) fun q hq=>absurd hq (Nat.not_lt_zero q)
 ·refine eo (φ:=fun q => [bD (1 / 2)].reverse.getD q bK) fun q hq => ?_
  obtain rfl:q=0:=by omega
  exact VT.le_refl (bD (1 / 2))
theorem zH {b:Nat} {T:TypeId} {n m:Nat} {R:Nat→Nat→Int} {Cb Ca:VT} : Own.le (aW b T 9 [(0, .agg 3,cg n m R),(3, .agg 3,Cb),(6, .agg 3,Ca)]) (aW b T 9 [(0, .agg 3,cg n m R),(3, .agg 3,Cb),(6, .agg 3,Ca),(2, .one,slT .one n fun i=>cH m (R i))]) :=
 ⟨rfl,fun g k ⟨c,h1,h2,h3,h4⟩=>⟨c,h1,h2,h3,fun q hq=>by
  simp only [List.mem_cons,List.not_mem_nil,or_false] at hq
  rcases hq with rfl | rfl | rfl | rfl
  ·exact h4 _ List.mem_cons_self
  ·exact h4 _ (List.mem_cons_of_mem _ List.mem_cons_self)
  ·exact h4 _ (List.mem_cons_of_mem _ (List.mem_cons_of_mem _ List.mem_cons_self))
  ·obtain ⟨x,hx,c',rfl,k1,k2,k3⟩:=h4 _ List.mem_cons_self
   obtain ⟨y,hy,hp⟩:=k3 (2, .one,slT .one n fun i=>cH m (R i)) (List.mem_cons_of_mem _ (List.mem_cons_of_mem _ List.mem_cons_self))
   have hx:(if 0+3≤c.size then some (Value.agg (c.extract 0 (0+3))) else none)=some (.agg c'):=hx
   rw [if_pos Y] at hx
   have hx:c.extract 0 3=c':=by injection hx with hx;injection hx
   refine ⟨y,?_,hp⟩
   have hy:c'[2]? = some y:=hy
   rw [← hx,Array.getElem?_extract,if_pos Y] at hy
   exact hy⟩⟩
theorem A7 {a b c d:VT} : VT.le (bB 9 [(0, .agg 3,a),(3, .agg 3,b),(6, .agg 3,c),(2, .one,d)]) (rdT a b c):=e8 (fun q hq=>by
 simp only [List.mem_cons,List.not_mem_nil,or_false] at hq
 rcases hq with rfl | rfl | rfl
 ·exact ⟨_,List.mem_cons_self,H⟩
 ·exact ⟨_,List.mem_cons_of_mem _ List.mem_cons_self,H⟩
 ·exact ⟨_,List.mem_cons_of_mem _ (List.mem_cons_of_mem _ List.mem_cons_self),H⟩)
attribute [local irreducible] J PJ aJ one slT cv bB bL exT cp eP aW aN slV VT.le Ret bK
attribute [local irreducible] aK bD dq cg
set_option maxRecDepth 100000 in
theorem mN:Ok Tryz.prog 9 [] (one (.bool true)):=by
 have i1:Ok Tryz.prog 40 [one (.int .i64 (2:Nat)),one (.int .i64 (2:Nat)),lj .i64 [1,0,5,1]] (cg 2 2 ex1):=lQ 2 2 [1,0,5,1] W W W
 have i2:Ok Tryz.prog 40 [one (.int .i64 (2:Nat)),one (.int .i64 (2:Nat)),lj .i64 [1,2,2,4]] (cg 2 2 ex2):=lQ 2 2 [1,2,2,4] W W W
 have i3:Ok Tryz.prog 40 [one (.int .i64 (2:Nat)),one (.int .i64 (2:Nat)),lj .i64 [1,1,1,0]] (cg 2 2 ex3):=lQ 2 2 [1,1,1,0] W W W
 have i4:Ok Tryz.prog 40 [one (.int .i64 (2:Nat)),one (.int .i64 (2:Nat)),lj .i64 [1,0,1,1]] (cg 2 2 ex4):=lQ 2 2 [1,0,1,1] W W W
 have i5:Ok Tryz.prog 40 [one (.int .i64 (2:Nat)),one (.int .i64 (2:Nat)),lj .i64 [2,0,1,2]] (cg 2 2 ex5):=lQ 2 2 [2,0,1,2] W W W
 have n1:=oM 0 3 W W
 have n2:=oM 1 2 W W
 have n3:=oM 0 2 W W
 have id2:Ok Tryz.prog 39 [one (.int .i64 (2:Nat))] (cg 2 2 idF):=li 2 W
 have f1 : ∀ i j,(ex1 i j).natAbs≤64:=lS W
 have f2 : ∀ i j,(ex2 i j).natAbs≤64:=lS W
 have f3 : ∀ i j,(ex3 i j).natAbs≤64:=lS W
 have f4 : ∀ i j,(ex4 i j).natAbs≤64:=lS W
 have f5 : ∀ i j,(ex5 i j).natAbs≤64:=lS W
 have fI : ∀ i j,(idF i j).natAbs≤64:=fun i j=>by unfold idF;split <;> decide
 have f0 : ∀ i j,((fun _ _=>0:Nat→Nat→Int) i j).natAbs≤64:=fun i j=>by show (0:Int).natAbs≤64;decide
 have g1:=uP 2 2 ex3 W W (fC W W f3) S
 have g2:=uO 2 2 ex2 W W (fC W W f2) S
 have l1:LB 2 2 1024 ex1:=⟨by decide,by decide,by decide,by decide,fun a ha=>by rcases (show a=0∨a=1 by omega) with rfl | rfl <;> decide +kernel,f1⟩
 have l0:LB 3 0 1024 (fun _ _=>0):=⟨by decide,by decide,by decide,by decide,fun a ha=>absurd ha (Nat.not_lt_zero a),f0⟩
 have r1:=j8 2 2 1024 ex1 l1 S
 have r2:=pN 2 2 ex2 W W (fC W W f2) S
 have r3:=j8 3 0 1024 (fun _ _=>0) l0 Int.one_ne_zero
 have hf:=ml 1 2 W W W W W
 rw [xQ] at hf
 have q2:=jA 2 W W
 have q1:=jA 1 W W
 rw [show ((2:Int):Rat)=2 by decide +kernel] at q2
 have e1:=eO 2 2 idF W W (fC W W fI) true ⟨fun _=>zE,fun _=>rfl⟩
 have e2:=eO 2 2 ex4 W W (fC W W f4) false ⟨fun h=>absurd h W,fun h=>absurd h zF⟩
 have e3:=eO 2 2 ex5 W W (fC W W f5) true ⟨fun _=>zD,fun _=>rfl⟩
 have e4:=eO 2 1 (fun _ _=>0) W W (fC W W f0) false ⟨fun h=>absurd h W,fun h=>absurd h BW⟩
 have e5:=eO 2 0 (fun _ _=>0) W W (fC W W f0) true ⟨fun _=>B8,fun _=>rfl⟩
 have m1 : ∀ i j,ef (ex1 i j):=fun i j=>(fR (t:=6) (f1 i j) W).L
 have mI : ∀ i j,ef (idF i j):=fun i j=>(fR (t:=6) (fI i j) W).L
 have c3:=mv 2 2 ex1 ex1 idF idF W W m1 mI mI (fC W W f1) false ⟨fun h=>absurd h W,fun h=>absurd h.red zG⟩
 have hrw:=oF 2 (grM 2 ex3) (fun _ _=>1 / 2) W (fun i j hi hj=>by
  obtain rfl:i=1:=by omega
  obtain rfl:j=0:=by omega
  exact BX)
 have hli:=jY 2 2 (grQ 2 ex3) (fun i=>if i=0 then 2 else 1 / 2) W
 rw [decide_eq_true ⟨rfl,BY⟩] at hli
 refine Ok.enter Tryz.func9 Z Tryz.ntmps9 Z (fun w O => ?_)
 refine ae (aj (Cn Z (Cp (aa (ae (aj (stS Z Z Z Z (PartsK.cons Z (PartsK.cons Z ?_)))))))))
 refine PartsK.cons Z (PartsK.cons Z (PartsK.nil ?_))
 refine Cl (am (i1) Z ⟨H,H,(jK),Cq⟩) ?_
 refine aT (T:=28) Z Z Z (fun b1 => ?_)
 refine dF 0 Z Z Z Z (Cp (aa (ae (aj (stS Z Z Z Z (PartsK.cons Z (PartsK.cons Z (PartsK.cons Z (PartsK.cons Z ?_)))))))))
 refine PartsK.nil ?_
 refine Cl (am (i2) Z ⟨H,H,(jK),Cq⟩) ?_
 refine aT (T:=28) Z Z Z (fun b2 => ?_)
 refine dF 0 Z Z Z Z (Cp (aa (ae (aj (stS Z Z Z Z (PartsK.cons Z (PartsK.cons Z (PartsK.cons Z (PartsK.cons Z ?_)))))))))
 refine PartsK.nil ?_
 refine Cl (am (i3) Z ⟨H,H,(jK),Cq⟩) ?_
 refine Cl (am (g1) Z ⟨H,Cq⟩) ?_
 refine Cm Z (Cl (ar Z Z) (Cl (ar Z Z) (Cl (ar Z Z) (Cn Z (Cn Z (Cn Z (Cp (aa (ae ?_)))))))))
 refine aj (Cl (ak 0 Z Z Z) ?_)
 refine Cl (am (g2) Z ⟨H,Cq⟩) ?_
 refine Cm Z (Cl (ar Z Z) (Cl (ar Z Z) (Cl (ar Z Z) (Cn Z (Cn Z (Cn Z (Cp (aa (ae ?_)))))))))
 refine aj (Cl (ak 1 Z Z Z) ?_)
 refine ea (r1) Z ⟨H,Cq⟩ Z Z (fun s37 => ?_)
 refine Cm Z (Cl (ar Z Z) (Cl (ar Z Z) ?_))
 refine aT (T:=54) Z Z Z (fun b9 => ?_)
 refine aR 0 Z Z Z Z (Cn Z (Cp (aa (ae ?_))))
 obtain ⟨s,hs⟩:=s37
 have k1:=j9 2 2 ex1 s.R s.U s.V W W m1 hs.mU hs.mV hs.lzR true ⟨fun _=>hs.chk,fun _=>rfl⟩
 have k2:=mv 2 2 ex1 s.R s.U s.V W W m1 hs.mU hs.mV (hs.des W W) true ⟨fun _=>hs.chk,fun _=>rfl⟩
 have k3:=vO 2 (s.R 0) W (hs.m4R 0)
 rw [A6 hs] at k3
 refine aj (Cl (ak 1 Z Z Z) ?_)
 refine Cl (am (r2) Z ⟨H,Cq⟩) ?_
 refine Cm Z (Cl (ar Z Z) (Cl (ar Z Z) ?_))
 refine aT (T:=54) Z Z Z (fun b11 => ?_)
 refine aR 0 Z Z Z Z (Cn Z (Cp (aa (ae (aj ?_)))))
 refine Cl (am (n1) Z ⟨H,H,Cq⟩) ?_
 refine ea (r3) Z ⟨H,Cq⟩ Z Z (fun s47 => ?_)
 refine Cm Z (Cl (ar Z Z) (Cl (ar Z Z) ?_))
 refine aT (T:=54) Z Z Z (fun b13 => ?_)
 refine aR 0 Z Z Z Z (Cn Z (Cp (aa (ae ?_))))
 obtain ⟨s',hs'⟩:=s47
 have k4:=j9 3 0 (fun _ _=>0) s'.R s'.U s'.V W W (fun i j=>(fR (t:=6) (f0 i j) W).L) hs'.mU hs'.mV hs'.lzR true ⟨fun _=>hs'.chk,fun _=>rfl⟩
 have k5:=pA ((1:Int):Rat) ((1:Int):Rat)
 rw [decide_eq_true Z] at k5
 refine aj ?_
 refine Cl (am (hf) Z ⟨H,H,Cq⟩) ?_
 refine aT (T:=45) Z Z Z (fun b15 => ?_)
 refine dF 0 Z Z Z Z (Cp (aa (ae (a4 21 aU X W (Cm Z (Cl (sT Y (cN Z Z)) (Cm Z (Co (ab Z) (oO Z Z Z Z Z Z ?_)))))))))
 refine PartsK.nil (Co (ak 0 Z Z Z) (oO Z Z Z Z Z Z (PartsK.cons Z (PartsK.nil (oO Z Z Z Z Z Z (PartsK.cons Z (PartsK.cons Z (PartsK.nil ?_))))))))
 refine Co (am (hrw) Z ⟨H,(vP),Cq⟩) ?_
 refine Cl (a6 Z Z) (Cm Z (Co (ab Z) ?_))
 refine Co (am (q2) Z ⟨H,Cq⟩) ?_
 refine Co (ak 0 Z Z Z) (oO Z Z Z Z Z Z (PartsK.cons Z (PartsK.cons Z (PartsK.nil ?_))))
 refine Co (am (hli) Z ⟨H,(qs),Cq⟩) ?_
 refine Cl (a6 Z Z) (Cm Z (Co (ab Z) (Co (sT Y (cN Z Z)) (Cl (a6 Z Z) (Cp (Cn Z (Cp (aa (ae ?_)))))))))
 refine aj ?_
 refine Cl (am (id2) Z ⟨H,Cq⟩) ?_
 refine Cl (am (e1) Z ⟨H,Cq⟩) ?_
 refine Cm Z (oO Z Z Z Z Z Z (PartsK.cons Z (PartsK.cons Z (PartsK.cons Z (PartsK.cons Z (PartsK.nil ?_))))))
 refine Co (am (i4) Z ⟨H,H,(jK),Cq⟩) ?_
 refine Co (am (e2) Z ⟨H,Cq⟩) ?_
 refine Co (bS Z) (Cl (a6 Z Z) (Cm Z (oO Z Z Z Z Z Z (PartsK.cons Z (PartsK.cons Z (PartsK.cons Z (PartsK.cons Z (PartsK.nil ?_))))))))
 refine Co (am (i5) Z ⟨H,H,(jK),Cq⟩) ?_
 refine Co (am (e3) Z ⟨H,Cq⟩) ?_
 refine Cl (a6 Z Z) (Cm Z ?_)
 refine Co (am (n2) Z ⟨H,H,Cq⟩) ?_
 refine Co (am (e4) Z ⟨H,Cq⟩) ?_
 refine Co (bS Z) (Cl (a6 Z Z) (Cm Z ?_))
 refine Co (am (n3) Z ⟨H,H,Cq⟩) ?_
 refine Co (am (e5) Z ⟨H,Cq⟩) ?_
 refine Cl (a6 Z Z) (Cn Z (Cp (aa (ae (ae (a4 18 aU X W (Cm Z (Cl (sF Y (c8 Z Z)) (Cm Z ?_)))))))))
 refine Co (ak 5 Z Z Z) (Co (aL 3 Z Z) ?_)
 refine Co (am (k1) Z ⟨H,H,Cq⟩) ?_
 refine Co (bS Z) (Cl (bj Z Z) (Cm Z (Co (ab Z) (Co (sF Y (c8 Z Z)) (Cl (bj Z Z) (Cm Z ?_))))))
 refine Co (am (n1) Z ⟨H,H,Cq⟩) ?_
 refine Co (aL 1 Z Z) ?_
 refine Co (am (k4) Z ⟨H,H,Cq⟩) ?_
 refine Co (bS Z) (Cl (bj Z Z) (Cp (Cp (aa (az Z (aw (aa (ae (eS (ConvM.cons (ConvM.cons (ConvM.cons (ConvM.le zH)))) ?_)))))))))
 refine a4 32 aU X W (Cm Z (Cm Z (Co (ab Z) (Cl (a6 Z Z) (Cm Z (Co (ab Z) (Co (sT Y (cN Z Z)) (Cl (a6 Z Z) (Cm Z ?_)))))))))
 refine Co (ai Z) (Co (ai Z) (Co (ak 3 Z Z Z) (Co (ax Z Z W) (Co (aG Z) ?_))))
 refine Co (am (k3) Z ⟨H,Cq⟩) ?_
 refine Co (am (q1) Z ⟨H,Cq⟩) ?_
 refine Co (am (k5) Z ⟨H,H,Cq⟩) ?_
 refine Cl (a6 Z Z) (Cm Z (Co (ak 5 Z Z Z) (Co (aL 3 Z Z) ?_)))
 refine Co (am (k2) Z ⟨H,(A7),Cq⟩) ?_
 refine Cl (a6 Z Z) (Cm Z (Co (ak 5 Z Z Z) (Co (ak 5 Z Z Z) ?_)))
 refine Co (am (id2) Z ⟨H,Cq⟩) ?_
 refine Co (am (id2) Z ⟨H,Cq⟩) ?_
 refine Bh Z Z Z Z Z (BuildK.cons Z Z Z (BuildK.cons Z Z Z (BuildK.cons Z Z Z (BuildK.nil ?_))))
 refine Co (am (c3) Z ⟨H,H,Cq⟩) ?_
 refine Co (bS Z) (Cl (a6 Z Z) (Cp (Cn Z (Cp (aa (aD ?_))))))
 refine aO Tryz.results9 (.tmp Z H)
end Tor
end
section
namespace Tor
open Go Go.RowKit Go.Proofs
def jL (r c:Nat) (l:List Int):VT:=bB 3 [(0, .one,one (.int .u8 r)),(1, .one,one (.int .u8 c)),(2, .one,lj .i8 l)]
def BZ (c:Nat) (l:List Int):Nat→Nat→Int:=fun i j=>dig l (i*(c % 5)+j)
theorem z8 (n:Nat):(n:Int).tmod 5=((n % 5:Nat):Int):=by
 rw [Int.tmod_eq_emod_of_nonneg Y]; omega
attribute [local irreducible] J PJ aJ one slT cv bB bL exT cp eP aW aN slV VT.le Ret bK
attribute [local irreducible] aK dq
theorem vQ (r c:Nat) (l:List Int):OkM Tryz.prog 10 [jL r c l] (kA (r % 5) (c % 5)) (fun s => [gq s.1.2.1 s.1.2.2 (r % 5) (c % 5) s.1.1,fk (c % 5) s.1.1 (BZ c l)]):=by
 unfold jL lj
 refine OkM.enter Tryz.func10 Z Tryz.ntmps10 Z (fun w O => ?_)
 have h5:=z8 r
 have h6:=z8 c
 have hr:r % 5<5:=Nat.mod_lt _ W
 have hc:c % 5<5:=Nat.mod_lt _ W
 refine ae (aj ?_)
 refine aQ Z Z (ltN Z) (fun b => ?_)
 refine aT (T:=28) Z Z Z (fun b => ?_)
 refine Cp (aa (ae (aj (Cl (ai Z) (Cl (ak 1 Z Z Z) (Cl (tL Z Z W Z) ?_))))))
 (refine Cl (fL Z ?_ ?_) ?_;omega;omega)
 refine Cl (ai Z) (Cl (ak 1 Z Z Z) (Cl (tL Z Z W Z) ?_))
 (refine Cl (fL Z ?_ ?_) ?_;omega;omega)
 refine Cl (ai Z) (Cl (ak 1 Z Z Z) ?_)
 rw [h5]
 skip
 rw [h6]
 skip
 refine ea (rF (r % 5) (c % 5) l Y Y) Z ⟨H,H,H,Cq⟩ Z Z (fun s => ?_)
 unfold kA
 refine aR 2 Z Z Z Z (Cp (aa (aD ?_)))
 refine nB s Tryz.results10 (.cellW 2 Z Z ?_) ?_
 ·exact VT.le_refl _
 ·exact .keep Ck (.keep Ck (SubM.nilR _))
end Tor
end
section
namespace Tor
open Go Go.RowKit Go.Proofs
theorem pQ (r c:Nat) (l:List Int):Ok Tryz.prog 10 [jL r c l] (cg (r % 5) (c % 5) (fun i j=>dig l (i*(c % 5)+j))):=(vQ r c l).ok fun s=>rG _ s
attribute [local irreducible] J PJ aJ one slT cv bB bL exT cp eP aW aN slV VT.le Ret bK xO
attribute [local irreducible] aK cH
end Tor
end
section
namespace Tor
open Go Go.RowKit Go.Proofs
open Lin (dZ lZ uZ eh dR et qq cf qF dot gsB gsM sm)
theorem z9 (l:List Int) (k:Nat):(dig l k).natAbs≤9:=by
 unfold dig
 generalize l.getD k 0=x
 rw [Int.natAbs_tmod]
 have:=Nat.mod_lt x.natAbs (show 0<10 by decide)
 show x.natAbs % 10≤9
 omega
theorem jM {L:Lay} {φ:Nat→VT} : VT.le (one (.slice none 0 0)) (slT L 0 φ):=gi
attribute [local irreducible] J PJ aJ one slT cv bB bL exT cp eP aW aN slV VT.le Ret bK
attribute [local irreducible] aK bD dq cg
set_option maxRecDepth 100000 in
theorem tI (r c:Nat) (l:List Int):Ok Tryz.prog 3 [jL r c l] (one (.bool true)):=by
 have hr:r % 5≤4:=by omega
 have hc:c % 5≤4:=by omega
 have hm:=pQ r c l
 have f9 : ∀ i j,((fun i j=>dig l (i*(c % 5)+j)) i j).natAbs≤9:=fun i j=>z9 _ _
 unfold jL at hm ⊢
 generalize (fun i j=>dig l (i*(c % 5)+j))=F at *
 generalize r % 5=n at *
 generalize c % 5=m at *
 have hb:=z7 hc hr f9
 have hdes:=hb.des
 have hlz : ∀ i j,lz 1 (F i j):=fun i j=>oL (Nat.le_trans (f9 i j) W)
 have hs:=mN
 obtain ⟨v,hv⟩ : ∃ v:Bool,v=true↔(dZ m F n≠0∧ke n (dZ m F) (lZ m F)):=by
  by_cases h:dZ m F n≠0∧ke n (dZ m F) (lZ m F)
  ·exact ⟨true,fun _=>h,fun _=>rfl⟩
  ·exact ⟨false,fun e=>absurd e W,fun e=>absurd e h⟩
 have k1:=eO m n F Y Y hdes v hv
 have k2:=mL m n F hr hc hlz v (hv.trans zA)
 by_cases hd:dZ m F n=0
 ·have g1:=uO m n F Y Y hdes hd
  have g2:=lM m n F hr hc hlz false ⟨fun h=>absurd h W,fun h=>absurd hd (BS.2 h)⟩
  simp only [grO,cond_false] at g2
  have g3:=oF 0 (fun _ _=>0) (fun _ _=>0) W (fun i j hi hj=>rfl)
  have g4:=jY 0 0 (fun _=>0) (fun _=>0) W
  rw [decide_eq_true ⟨rfl,fun i hi=>rfl⟩] at g4
  refine Ok.enter Tryz.func3 Z Tryz.ntmps3 Z (fun w O => ?_)
  cases v
  ·refine ae (aj ?_)
   refine aQ Z Z (ltN Z) (fun b1 => ?_)
   refine Cn Z (Cp (aa (ae (aj (Cl (am (hs) Z trivial) (Cn Z (Cp (aa (ae ?_)))))))))
   refine aj (Cl (aL 0 Z Z) ?_)
   refine Cl (am (hm) Z ⟨H,Cq⟩) ?_
   refine aT (T:=28) Z Z Z (fun b4 => ?_)
   refine dF 0 Z Z Z Z (Cp (aa (ae (aj (Cl (ak 0 Z Z Z) ?_)))))
   refine Cl (am (g1) Z ⟨H,Cq⟩) ?_
   refine Cm Z (Cl (ar Z Z) (Cl (ar Z Z) (Cl (ar Z Z) (Cn Z (Cn Z (Cn Z (Cp (aa (ae ?_)))))))))
   refine aj (Cl (ak 0 Z Z Z) ?_)
   refine Cl (am (g2) Z ⟨H,Cq⟩) ?_
   refine Cm Z (Cl (ar Z Z) (Cl (ar Z Z) (Cl (ar Z Z) (Cn Z (Cn Z (Cn Z (Cp (aa (ae ?_)))))))))
   refine a4 23 aU X W (Cm Z (Cm Z ?_))
   refine Cl (am (g3) Z ⟨(jM),(jM),Cq⟩) ?_
   refine Cm Z (Co (ab Z) (Co (ab Z) ?_))
   refine Co (am (g4) Z ⟨(jM),(jM),Cq⟩) ?_
   refine Cl (a6 Z Z) (Cm Z (Co (ab Z) (Co (ab Z) (Co (sT Y (cN Z Z)) (Cl (a6 Z Z) (Cm Z (Co (ak 0 Z Z Z) ?_)))))))
   refine Co (am (k1) Z ⟨H,Cq⟩) ?_
   refine Co (ak 0 Z Z Z) ?_
   refine Co (am (k2) Z ⟨H,Cq⟩) ?_
   refine Co (mA Z Z) (Cl (a6 Z Z) (Cm Z (Co (ab Z) (Cl (a6 Z Z) (Cp (Cn Z (Cp (aa (aD ?_)))))))))
   refine aO Tryz.results3 (.tmp Z H)
  ·refine ae (aj ?_)
   refine aQ Z Z (ltN Z) (fun b1 => ?_)
   refine Cn Z (Cp (aa (ae (aj (Cl (am (hs) Z trivial) (Cn Z (Cp (aa (ae ?_)))))))))
   refine aj (Cl (aL 0 Z Z) ?_)
   refine Cl (am (hm) Z ⟨H,Cq⟩) ?_
   refine aT (T:=28) Z Z Z (fun b4 => ?_)
   refine dF 0 Z Z Z Z (Cp (aa (ae (aj (Cl (ak 0 Z Z Z) ?_)))))
   refine Cl (am (g1) Z ⟨H,Cq⟩) ?_
   refine Cm Z (Cl (ar Z Z) (Cl (ar Z Z) (Cl (ar Z Z) (Cn Z (Cn Z (Cn Z (Cp (aa (ae ?_)))))))))
   refine aj (Cl (ak 0 Z Z Z) ?_)
   refine Cl (am (g2) Z ⟨H,Cq⟩) ?_
   refine Cm Z (Cl (ar Z Z) (Cl (ar Z Z) (Cl (ar Z Z) (Cn Z (Cn Z (Cn Z (Cp (aa (ae ?_)))))))))
   refine a4 23 aU X W (Cm Z (Cm Z ?_))
   refine Cl (am (g3) Z ⟨(jM),(jM),Cq⟩) ?_
   refine Cm Z (Co (ab Z) (Co (ab Z) ?_))
   refine Co (am (g4) Z ⟨(jM),(jM),Cq⟩) ?_
   refine Cl (a6 Z Z) (Cm Z (Co (ab Z) (Co (ab Z) (Co (sT Y (cN Z Z)) (Cl (a6 Z Z) (Cm Z (Co (ak 0 Z Z Z) ?_)))))))
   refine Co (am (k1) Z ⟨H,Cq⟩) ?_
   refine Co (ak 0 Z Z Z) ?_
   refine Co (am (k2) Z ⟨H,Cq⟩) ?_
   refine Co (mA Z Z) (Cl (a6 Z Z) (Cm Z (Co (ab Z) (Cl (a6 Z Z) (Cp (Cn Z (Cp (aa (aD ?_)))))))))
   refine aO Tryz.results3 (.tmp Z H)
 ·have g1:=uP m n F Y Y hdes hd
  have g2:=lM m n F hr hc hlz true ⟨fun _=>BS.1 hd,fun _=>rfl⟩
  simp only [grO,cond_true] at g2
  have g3:=oF n (grM m F) (gsM m (qF F)) Y (fun i j hi hj=>A4 hd hi hj)
  have g4:=jY n n (grQ m F) (qq m (qF F)) Y
  rw [decide_eq_true ⟨rfl,fun i hi=>A5 hd hi⟩] at g4
  refine Ok.enter Tryz.func3 Z Tryz.ntmps3 Z (fun w O => ?_)
  cases v
  ·refine ae (aj ?_)
   refine aQ Z Z (ltN Z) (fun b1 => ?_)
   refine Cn Z (Cp (aa (ae (aj (Cl (am (hs) Z trivial) (Cn Z (Cp (aa (ae ?_)))))))))
   refine aj (Cl (aL 0 Z Z) ?_)
   refine Cl (am (hm) Z ⟨H,Cq⟩) ?_
   refine aT (T:=28) Z Z Z (fun b4 => ?_)
   refine dF 0 Z Z Z Z (Cp (aa (ae (aj (Cl (ak 0 Z Z Z) ?_)))))
   refine Cl (am (g1) Z ⟨H,Cq⟩) ?_
   refine Cm Z (Cl (ar Z Z) (Cl (ar Z Z) (Cl (ar Z Z) (Cn Z (Cn Z (Cn Z (Cp (aa (ae ?_)))))))))
   refine aj (Cl (ak 0 Z Z Z) ?_)
   refine Cl (am (g2) Z ⟨H,Cq⟩) ?_
   refine Cm Z (Cl (ar Z Z) (Cl (ar Z Z) (Cl (ar Z Z) (Cn Z (Cn Z (Cn Z (Cp (aa (ae ?_)))))))))
   refine a4 23 aU X W (Cm Z (Cm Z ?_))
   refine Cl (am (g3) Z ⟨H,H,Cq⟩) ?_
   refine Cm Z (Co (ab Z) (Co (ab Z) ?_))
   refine Co (am (g4) Z ⟨H,H,Cq⟩) ?_
   refine Cl (a6 Z Z) (Cm Z (Co (ab Z) (Co (ab Z) (Co (sT Y (cN Z Z)) (Cl (a6 Z Z) (Cm Z (Co (ak 0 Z Z Z) ?_)))))))
   refine Co (am (k1) Z ⟨H,Cq⟩) ?_
   refine Co (ak 0 Z Z Z) ?_
   refine Co (am (k2) Z ⟨H,Cq⟩) ?_
   refine Co (mA Z Z) (Cl (a6 Z Z) (Cm Z (Co (ab Z) (Cl (a6 Z Z) (Cp (Cn Z (Cp (aa (aD ?_)))))))))
   refine aO Tryz.results3 (.tmp Z H)
  ·refine ae (aj ?_)
   refine aQ Z Z (ltN Z) (fun b1 => ?_)
   refine Cn Z (Cp (aa (ae (aj (Cl (am (hs) Z trivial) (Cn Z (Cp (aa (ae ?_)))))))))
   refine aj (Cl (aL 0 Z Z) ?_)
   refine Cl (am (hm) Z ⟨H,Cq⟩) ?_
   refine aT (T:=28) Z Z Z (fun b4 => ?_)
   refine dF 0 Z Z Z Z (Cp (aa (ae (aj (Cl (ak 0 Z Z Z) ?_)))))
   refine Cl (am (g1) Z ⟨H,Cq⟩) ?_
   refine Cm Z (Cl (ar Z Z) (Cl (ar Z Z) (Cl (ar Z Z) (Cn Z (Cn Z (Cn Z (Cp (aa (ae ?_)))))))))
   refine aj (Cl (ak 0 Z Z Z) ?_)
   refine Cl (am (g2) Z ⟨H,Cq⟩) ?_
   refine Cm Z (Cl (ar Z Z) (Cl (ar Z Z) (Cl (ar Z Z) (Cn Z (Cn Z (Cn Z (Cp (aa (ae ?_)))))))))
   refine a4 23 aU X W (Cm Z (Cm Z ?_))
   refine Cl (am (g3) Z ⟨H,H,Cq⟩) ?_
   refine Cm Z (Co (ab Z) (Co (ab Z) ?_))
   refine Co (am (g4) Z ⟨H,H,Cq⟩) ?_
   refine Cl (a6 Z Z) (Cm Z (Co (ab Z) (Co (ab Z) (Co (sT Y (cN Z Z)) (Cl (a6 Z Z) (Cm Z (Co (ak 0 Z Z Z) ?_)))))))
   refine Co (am (k1) Z ⟨H,Cq⟩) ?_
   refine Co (ak 0 Z Z Z) ?_
   refine Co (am (k2) Z ⟨H,Cq⟩) ?_
   refine Co (mA Z Z) (Cl (a6 Z Z) (Cm Z (Co (ab Z) (Cl (a6 Z Z) (Cp (Cn Z (Cp (aa (aD ?_)))))))))
   refine aO Tryz.results3 (.tmp Z H)
set_option maxRecDepth 100000 in
theorem qV (r c:Nat) (l:List Int):Ok Tryz.prog 5 [jL r c l] (one (.bool true)):=by
 have hr:r % 5≤4:=by omega
 have hc:c % 5≤4:=by omega
 have hm:=pQ r c l
 have f9 : ∀ i j,((fun i j=>dig l (i*(c % 5)+j)) i j).natAbs≤9:=fun i j=>z9 _ _
 unfold jL at hm ⊢
 generalize (fun i j=>dig l (i*(c % 5)+j))=F at *
 generalize r % 5=n at *
 generalize c % 5=m at *
 have hb:=z7 hc hr f9
 have hdes:=hb.des
 have hlz : ∀ i j,lz 1 (F i j):=fun i j=>oL (Nat.le_trans (f9 i j) W)
 have hs:=mN
 by_cases hd:dZ m F n=0
 ·have g1:=pN m n F Y Y hdes hd
  have g2:=uW m n F hr hc hlz false ⟨fun h=>absurd h W,fun h=>absurd hd h⟩
  have g3:=mw 0 0 0 0 (fun _ _=>0) (fun _ _=>0) W
  rw [decide_eq_true ⟨rfl,rfl,rfl⟩] at g3
  refine Ok.enter Tryz.func5 Z Tryz.ntmps5 Z (fun w O => ?_)
  refine ae (aj ?_)
  refine aQ Z Z (ltN Z) (fun b1 => ?_)
  refine Cn Z (Cp (aa (ae (aj (Cl (am (hs) Z trivial) (Cn Z (Cp (aa (ae ?_)))))))))
  refine aj (Cl (aL 0 Z Z) ?_)
  refine Cl (am (hm) Z ⟨H,Cq⟩) ?_
  refine aT (T:=28) Z Z Z (fun b4 => ?_)
  refine dF 0 Z Z Z Z (Cp (aa (ae (aj (Cl (ak 0 Z Z Z) ?_)))))
  refine Cl (am (g1) Z ⟨H,Cq⟩) ?_
  refine Cm Z (Cl (ar Z Z) (Cl (ar Z Z) ?_))
  refine aT (T:=54) Z Z Z (fun b5 => ?_)
  refine aR 0 Z Z Z Z (Cn Z (Cp (aa (ae (ae (aj (Cl (ak 1 Z Z Z) ?_)))))))
  refine Cl (am (g2) Z ⟨H,Cq⟩) ?_
  refine Cl (bS Z) (Cp (aa (aI Z (ae (aj (Cm Z (Cl (sT Y (cN Z Z)) (Cm Z (Co (ai Z) ?_)))))))))
  refine Co (ak 0 Z Z Z) (Bh Z Z Z Z Z (BuildK.nil ?_))
  refine Co (am (g3) Z ⟨H,(nX _),Cq⟩) ?_
  refine Cl (a6 Z Z) (Cm Z (Co (ab Z) (Cl (a6 Z Z) (Cn Z (Cp (aa (aD (aE ?_))))))))
  refine aO Tryz.results5 (.tmp Z H)
 ·have g1:=j8 m n 1024 F hb hd
  have g2:=uW m n F hr hc hlz true ⟨fun _=>hd,fun _=>rfl⟩
  have mF : ∀ i j,ef (F i j):=fun i j=>(fR (t:=6) (hb.f i j) W).L
  refine Ok.enter Tryz.func5 Z Tryz.ntmps5 Z (fun w O => ?_)
  refine ae (aj ?_)
  refine aQ Z Z (ltN Z) (fun b1 => ?_)
  refine Cn Z (Cp (aa (ae (aj (Cl (am (hs) Z trivial) (Cn Z (Cp (aa (ae ?_)))))))))
  refine aj (Cl (aL 0 Z Z) ?_)
  refine Cl (am (hm) Z ⟨H,Cq⟩) ?_
  refine aT (T:=28) Z Z Z (fun b4 => ?_)
  refine dF 0 Z Z Z Z (Cp (aa (ae (aj (Cl (ak 0 Z Z Z) ?_)))))
  refine ea (g1) Z ⟨H,Cq⟩ Z Z (fun s14 => ?_)
  refine Cm Z (Cl (ar Z Z) (Cl (ar Z Z) ?_))
  refine aT (T:=54) Z Z Z (fun b5 => ?_)
  refine aR 0 Z Z Z Z (Cn Z (Cp (aa (ae (ae ?_)))))
  obtain ⟨s,hs'⟩:=s14
  have k1:=j9 m n F s.R s.U s.V hr hc mF hs'.mU hs'.mV hs'.lzR true ⟨fun _=>hs'.chk,fun _=>rfl⟩
  have k2:=mv m n F s.R s.U s.V Y Y mF hs'.mU hs'.mV (hs'.des hc hr) true ⟨fun _=>hs'.chk,fun _=>rfl⟩
  have k3:=eO m n s.R Y Y (hs'.des hc hr) true ⟨fun _=>⟨hs'.dn,hs'.chk.red⟩,fun _=>rfl⟩
  have k4:=j8 m n 2048 s.R (hs'.lb hc hr) hs'.dn
  refine aj (Cl (ak 1 Z Z Z) ?_)
  refine Cl (am (g2) Z ⟨H,Cq⟩) ?_
  refine Cl (bS Z) (Cp (aa (az Z (aw (aa (ae (ae (aj (Cm Z ?_)))))))))
  refine Cl (sF Y (c8 Z Z)) (Cm Z (Co (ak 1 Z Z Z) (Co (aL 0 Z Z) ?_)))
  refine Co (am (k1) Z ⟨H,H,Cq⟩) ?_
  refine Co (bS Z) (Cl (bj Z Z) (Cm Z (Co (ak 1 Z Z Z) (Co (aL 0 Z Z) ?_))))
  refine Co (am (k2) Z ⟨H,H,Cq⟩) ?_
  refine Co (bS Z) (Cl (bj Z Z) (Cp (aa (az Z (aw (aa (ae (aj (Cl (ai Z) ?_)))))))))
  refine Cl (ak 0 Z Z Z) ?_
  refine ea (k4) Z ⟨H,Cq⟩ Z Z (fun s48 => ?_)
  refine Cm Z (Cl (ar Z Z) (Cl (ar Z Z) ?_))
  refine aT (T:=54) Z Z Z (fun b7 => ?_)
  refine aR 0 Z Z Z Z (Cn Z (Cp (aa (ae ?_))))
  obtain ⟨t,ht⟩:=s48
  have k5:=j9 m n s.R t.R t.U t.V hr hc hs'.mR ht.mU ht.mV ht.lzR true ⟨fun _=>ht.chk,fun _=>rfl⟩
  refine aj (Cm Z (Cl (sT Y (cN Z Z)) (Cm Z (Co (ai Z) (Co (ak 1 Z Z Z) (Co (aL 0 Z Z) ?_))))))
  refine Co (am (k5) Z ⟨H,H,Cq⟩) ?_
  refine Cl (a6 Z Z) (Cm Z (Co (ai Z) (Co (ak 1 Z Z Z) ?_)))
  refine Co (am (k3) Z ⟨H,Cq⟩) ?_
  refine Cl (a6 Z Z) (Cm Z (Co (ab Z) (Cl (a6 Z Z) (Cn Z (Cp (aa (aD ?_)))))))
  refine aO Tryz.results5 (.tmp Z H)
end Tor
end
section
set_option maxRecDepth 100000
namespace Tor
open Go Go.RowKit Go.ChangeShapes Go.WideShapes Go.ChangeAt Go.Joins Go.Proofs
theorem x9 {Cf:Type} {enc:TypeId × Value→Cf} {Cd:World} {base:Nat} {v:Value} {d:DataW Cf} {ps:List MemPlace} (hval:Value.okWide Tryz.prog Cd .any base 24 v) (hT:DataW.Trod enc Tryz.prog Cd 0 (fun _=>true) true 24 v d ps) (hw : ∀ x∈DataW.weights Tryz.prog 24 d,x≤reachBytes) :
  ∃ (r:Nat) (c:Nat) (l:List Int),(jL r c l).p v (cn Cd)∧(r:Int)≤IntKind.max .u8∧(c:Int)≤IntKind.max .u8∧(∀ x∈l,IntKind.min .i8≤x∧x≤IntKind.max .i8)∧True:=by
 obtain ⟨cs,rfl,h⟩:=yl 8 (ts := [5,5,22]) X (.inl ⟨_,Tryz.underlying24⟩) hval hT hw
 obtain ⟨c0,r0,rfl,h0,g0⟩:=h
 obtain ⟨c1,r1,rfl,h1,g1⟩:=g0
 obtain ⟨c2,r2,rfl,h2,g2⟩:=g1
 cases g2
 obtain ⟨r,rfl,b0⟩:=rp Tryz.underlying5 Z h0
 obtain ⟨c,rfl,b1⟩:=rp Tryz.underlying5 Z h1
 obtain ⟨l,k2,b2⟩:=vb Tryz.underlying22 Tryz.underlying67 X (of_decide_eq_true X) h2
 exact ⟨r,c,l,Bf (φs := [one (.int .u8 r),one (.int .u8 c),lj .i8 l]) ⟨rfl,rfl,⟨rfl,rfl,⟨k2,yk k2,Cq⟩⟩⟩,b0,b1,b2,Cq⟩
end Tor
namespace Go.Proofs.YtpnkmoojhbjdfaaGreat
open Go.ChangeShapes Go.WideShapes Go.ChangeAt Go.RowKit Go.Joins Tor
theorem lllMatchesReference_own:ownKnob Tryz.prog.godebug=none:=by kernel_rfl
theorem lllMatchesReference_laid:laidOutB Tryz.prog=true:=by kernel_rfl
set_option maxRecDepth 100000 in
theorem lllMatchesReference_lifted (os:Os) (started:os.Started) (Cf:Type) (enc:TypeId × Value→Cf) :
  ReturnsInHanded {} Tryz.checked os 3 .any (Rows.lllMatchesReferenceSpec.pre6 enc Tryz.prog Tryz.f3 Rows.lllMatchesReferenceRow.domain false) (Rows.lllMatchesReferenceSpec.post enc Tryz.prog Tryz.f3 false true false false):=by
 refine returnsInHanded_of_change_sized (C:=Tryz.checked) lllMatchesReference_own started X Tryz.func3
  (ChangeSpec.witness6 (enc:=enc) (C:=Tryz.checked) false ⟨#[], #[.agg #[.int .u8 0, .int .u8 0, .slice none 0 0]], []⟩ 8 X X X X) ?_
 intro Cd base args ds gs before hval0 hW hcnd hsz0 _
 have hval : ∀ (j:Nat) t v,Tryz.f3.params[j]? = some t→args[j]? = some v→Value.okWide Tryz.prog Cd .any base t v:=hval0
 have hsz:(DataW.weightsEach Tryz.prog (Tryz.f3.params.toList ++ Rows.lllMatchesReferenceSpec.plain.varTypes Tryz.prog) (ds ++ gs)).all (· ≤ reachBytes)=true:=hsz0
 have hW':=hW
 obtain ⟨p,q,hA0,hV,rfl,hfz,hnd⟩:=hW
 have hA:DataW.TrodAll enc Tryz.prog Cd 0 (fun _=>true) true Tryz.f3.params.toList args.toList ds p:=hA0
 rw [Tryz.params3] at hA hval hsz
 obtain ⟨v0,d0,rfl,rfl,h0⟩:=trodAll_one hA
 obtain ⟨rfl,rfl⟩:=trodVars_none hV
 obtain ⟨r_0,c_0,l_0,x0,y0⟩:=x9 (hval 0 24 _ Z Z) h0 (mD hsz 0 Z Z)
 refine (Ok.outside (Cd:=Cd) (args := #[v0]) (tI r_0 c_0 l_0) (And.intro x0 (trivial))).mono fun e W' ⟨v,he,hv,hw⟩ => ?_
 subst he
 have hv:v = .bool true:=hv
 subst hv
 refine ⟨_,rfl,_, [],_, [],_, [],hW',trodAll_mk1 (shut_bool Tryz.underlying4 true),trodAll_mk1
  (Below.trod lllMatchesReference_laid X (of_decide_eq_true X) h0 hw (fun x hx=>by simpa using hW'.lt x (by simp only [List.mem_append] at hx ⊢; simp [hx]))),rfl,hw.frame _,fun h=>by cases h⟩
theorem lllMatchesReference_holds:Rows.LllMatchesReferenceSaid :=
 OpenClaim.holds_of_wide 3 Tryz.f3 Z Z Z Z Z Z Z ⟨rfl,rfl,rfl,rfl,rfl⟩ Z Z Z Z Z X Tryz.func3 X
  (of_decide_eq_true X) (by unfold Func.isWrapper;first | (rw [if_pos S]; kernel_rfl) | (rw [if_neg S]; exact ⟨rfl,rfl⟩))
  (fun os started Cf enc _=>lllMatchesReference_lifted os started Cf enc)
end Go.Proofs.YtpnkmoojhbjdfaaGreat
namespace Tor
end Tor
namespace Go.Proofs.YtpnkmoojhbjdfaaGreat
open Go.ChangeShapes Go.WideShapes Go.ChangeAt Go.RowKit Go.Joins Tor
theorem lllReduces_own:ownKnob Tryz.prog.godebug=none:=by kernel_rfl
theorem lllReduces_laid:laidOutB Tryz.prog=true:=by kernel_rfl
set_option maxRecDepth 100000 in
theorem lllReduces_lifted (os:Os) (started:os.Started) (Cf:Type) (enc:TypeId × Value→Cf) :
  ReturnsInHanded {} Tryz.checked os 5 .any (Rows.lllReducesSpec.pre6 enc Tryz.prog Tryz.f5 Rows.lllReducesRow.domain false) (Rows.lllReducesSpec.post enc Tryz.prog Tryz.f5 false true false false):=by
 refine returnsInHanded_of_change_sized (C:=Tryz.checked) lllReduces_own started X Tryz.func5
  (ChangeSpec.witness6 (enc:=enc) (C:=Tryz.checked) false ⟨#[], #[.agg #[.int .u8 0, .int .u8 0, .slice none 0 0]], []⟩ 8 X X X X) ?_
 intro Cd base args ds gs before hval0 hW hcnd hsz0 _
 have hval : ∀ (j:Nat) t v,Tryz.f5.params[j]? = some t→args[j]? = some v→Value.okWide Tryz.prog Cd .any base t v:=hval0
 have hsz:(DataW.weightsEach Tryz.prog (Tryz.f5.params.toList ++ Rows.lllReducesSpec.plain.varTypes Tryz.prog) (ds ++ gs)).all (· ≤ reachBytes)=true:=hsz0
 have hW':=hW
 obtain ⟨p,q,hA0,hV,rfl,hfz,hnd⟩:=hW
 have hA:DataW.TrodAll enc Tryz.prog Cd 0 (fun _=>true) true Tryz.f5.params.toList args.toList ds p:=hA0
 rw [Tryz.params5] at hA hval hsz
 obtain ⟨v0,d0,rfl,rfl,h0⟩:=trodAll_one hA
 obtain ⟨rfl,rfl⟩:=trodVars_none hV
 obtain ⟨r_0,c_0,l_0,x0,y0⟩:=x9 (hval 0 24 _ Z Z) h0 (mD hsz 0 Z Z)
 refine (Ok.outside (Cd:=Cd) (args := #[v0]) (qV r_0 c_0 l_0) (And.intro x0 (trivial))).mono fun e W' ⟨v,he,hv,hw⟩ => ?_
 subst he
 have hv:v = .bool true:=hv
 subst hv
 refine ⟨_,rfl,_, [],_, [],_, [],hW',trodAll_mk1 (shut_bool Tryz.underlying4 true),trodAll_mk1
  (Below.trod lllReduces_laid X (of_decide_eq_true X) h0 hw (fun x hx=>by simpa using hW'.lt x (by simp only [List.mem_append] at hx ⊢; simp [hx]))),rfl,hw.frame _,fun h=>by cases h⟩
theorem lllReduces_holds:Rows.LllReducesSaid :=
 OpenClaim.holds_of_wide 5 Tryz.f5 Z Z Z Z Z Z Z ⟨rfl,rfl,rfl,rfl,rfl⟩ Z Z Z Z Z X Tryz.func5 X
  (of_decide_eq_true X) (by unfold Func.isWrapper;first | (rw [if_pos S]; kernel_rfl) | (rw [if_neg S]; exact ⟨rfl,rfl⟩))
  (fun os started Cf enc _=>lllReduces_lifted os started Cf enc)
end Go.Proofs.YtpnkmoojhbjdfaaGreat
namespace Tor
end Tor
end
