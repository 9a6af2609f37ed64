/-
  Theorems that the proofs of laws of this seat rest on.
  No condition.
-/
import Derived.Test.YtamglpeiacmooaaGreatZA8
set_option maxHeartbeats 20000000
set_option linter.unusedVariables false
set_option linter.unusedSimpArgs false
section
namespace Tor
open Go Go.RowKit Go.Proofs
attribute [local irreducible] J PJ aU one slT cC bJ ci exT cH eP aY bf slV VT.le Ret bW
attribute [local irreducible] bq ce
theorem rx (r c:Nat) (F:Nat→Nat→Int) (k:Int) (hr0:r≤1048576) (hc0:c≤1048576) (hF : ∀ i j,cg (F i j)) (hk:cg k):OkM Tryz.prog 77 [be r c F,bq k] (iJ r c) (fun s => [bn s.1.2.1 s.1.2.2 r c s.1.1,aZ c s.1.1 (fun i j=>F i j*k)]):=by
 unfold be
 refine OkM.enter Tryz.func77 Z Tryz.ntmps77 Z (fun w O => ?_)
 refine ah (aj ?_)
 refine aR Z Z (ltN Z) (fun b2 => ?_)
 refine nF Z Z (ltN Z) (fun b3 => ?_)
 refine aW (T:=29) Z Z Z (fun b4 => ?_)
 refine Ap (ab (ah (aj (Al (aa Z) (Al (ak 2 Z Z Z) (Al (aa Z) (Al (ak 2 Z Z Z) ?_)))))))
 refine eO (kH _ _ (by assumption) (by assumption)) Z ⟨W,W,Aq⟩ Z Z (fun s12 => ?_)
 refine aW (T:=29) Z Z Z (fun b5 => ?_)
 refine aL 0 Z Z Z Z (Ap (ab (ah (ah (aj (An Z (Ap (ab (ao ?_)))))))))
 obtain ⟨⟨bs,sv1,cap1⟩,hlen,hsv⟩:=s12
 simp only at hlen hsv
 unfold iJ
 dsimp only
 refine bL (Γ' := [(2,_),(3,_),(4,_),(5,_),(6,_)]) Ag (SubM.refl _) ?_
 refine bE (σ:=Nat) (Γk := [(2,_),(3,_),(4,_),(5,_)]) Ag (fun i => [(6,one (.int .i64 (i:Nat)))]) (fun i M0=>(M0.set 2 (aZ c bs (fu (fun i j=>F i j*k) i 0)))) (fun i=>i≤r) (fun i=>r - i) (0) (Nat.zero_le _) Ah (.keep Ak (.keep Ak (.keep (dM fun i j hi hj=>by simp [fu]) (.keep Ak (.keep Ak (.keep Ak (.nil))))))) (fun i hi => ?_)
 refine bN (Γ' := [(6,_),(2,_),(3,_),(4,_),(5,_)]) (M' := [_,_,_,_,_,_]) Z Z (ah (ah (aj (Am Z (Al (aa Z) (Al (ak 5 Z Z Z) (Al (aO Z Z) (Ap (ab ?_)))))))))
 refine no Z (fun hc => ?_) (fun hc => ?_)
 ·obtain ⟨bo,rfl⟩:=kI hsv S
  refine av (ab (ah (ao (ah (aj (An Z (Ap (ab (ao ?_)))))))))
  refine bL (Γ' := [(2,_),(3,_),(4,_),(5,_),(6,_),(7,_)]) Ag (SubM.refl _) ?_
  refine bE (σ:=Nat) (Γk := [(2,_),(3,_),(4,_),(5,_),(6,_)]) Ag (fun j => [(7,one (.int .i64 (j:Nat)))]) (fun j M0=>(M0.set 2 (aZ c bs (fu (fun i j=>F i j*k) i j)))) (fun j=>j≤c) (fun j=>c - j) (0) (Nat.zero_le _) Ah (.keep Ak (.keep Ak (.keep Ak (.keep Ak (.keep Ak (.keep Ak (.nil))))))) (fun j hj => ?_)
  refine bN (Γ' := [(7,_),(2,_),(3,_),(4,_),(5,_),(6,_)]) (M' := [_,_,_,_,_,_]) Z Z (ah (ah (aj (Am Z (Al (aa Z) (Al (ak 5 Z Z Z) (Al (aO Z Z) (Ap (ab ?_)))))))))
  refine no Z (fun hc2 => ?_) (fun hc2 => ?_)
  ·refine av (ab (ah (ao (aN 16 aK X Y (Al (aa Z) (Al (ak 0 Z Z Z) (Am Z ?_)))))))
   (refine Al (an Z Z ?_) ?_;omega)
   (refine Al (aS 1 Z Z ?_) ?_;omega)
   refine Am Z (Al (aa Z) (Al (ak 5 Z Z Z) (Am Z ?_)))
   (refine Al (ax Z Z ?_) ?_;omega)
   refine Al (aG Z) (Am Z ?_)
   (refine Al (ax Z Z ?_) ?_;omega)
   refine Al (aG Z) (Al (ak 4 Z Z Z) ?_)
   refine Al (am (fQ _ _ (hF _ _) (by assumption)) Z ⟨W,W,Aq⟩) ?_
   refine Ap ?_
   (refine Al (an Z Z ?_) ?_;omega)
   (refine bg 2 Z Z Z (bM ?_) ?_ Z ?_;omega;omega)
   refine Ap (aD (ab (aj (Am Z (Al (bj _ 1 Z Z S) (An Z (Ap ?_)))))))
   refine aM (j+1) S S Ah (.keep Ak (.keep Ak (.keep (tG _ Z) (.keep Ak (.keep Ak (.keep Ak (.nil)))))))
  ·have hjm:j=c:=by omega
   subst hjm
   refine a4 (az (az (aI (aD (ab (aj (Am Z (Al (bj _ 1 Z Z S) (An Z ?_)))))))))
   refine Ap ?_
   refine aM (i+1) S S Ah (.keep Ak (.keep Ak (.keep (mV) (.keep Ak (.keep Ak (.keep Ak (.nil)))))))
 ·have hin:i=r:=by omega
  subst hin
  refine a4 (az (az (aI (ab (ah (aj (Al (aC 0 Z Z) (aL 3 Z Z Z Z (Ap ?_)))))))))
  refine ab (aH ?_)
  exact jg ⟨(bs,sv1,cap1),hlen,hsv⟩ Tryz.results77 (.cellW 3 Z Z W) (.drop (.keep Ak (.keep (dM fun a b ha hb=>by simp [fu]; omega) (SubM.nilR _))))
theorem qx (r c:Nat) (F:Nat→Nat→Int) (hr0:r≤1048576) (hc0:c≤1048576) (hF : ∀ i j,cg (F i j)):OkM Tryz.prog 44 [be r c F] (iJ r c) (fun s => [bn s.1.2.1 s.1.2.2 r c s.1.1,aZ c s.1.1 (fun i j=>F i j*1)]):=by
 have hs:=rx r c F 1 hr0 hc0 hF tj
 unfold be at hs ⊢
 refine OkM.enter Tryz.func44 Z Tryz.ntmps44 Z (fun w O => ?_)
 refine ah (aj ?_)
 refine aR Z Z (ltN Z) (fun b1 => ?_)
 refine aW (T:=29) Z Z Z (fun b2 => ?_)
 refine Ap (ab (ah (aN 2 aK X Y (Al (aC 1 Z Z) ?_))))
 refine Al (am (gY _ S S) Z ⟨W,Aq⟩) ?_
 refine Ap ?_
 refine eO (hs) Z ⟨W,W,Aq⟩ Z Z (fun s5 => ?_)
 refine aL 2 Z Z Z Z (Ap (ab (aH ?_)))
 exact jg s5 Tryz.results44 (.cellW 2 Z Z W) (.keep Ak (.keep Ak (SubM.nilR _)))
end Tor
end
section
namespace Tor
open Go Go.RowKit Go.Proofs
def qy (r c:Int):VT:=bJ 2 [(0, .one,one (.int .i64 r)),(1, .one,one (.int .i64 c))]
attribute [local irreducible] J PJ aU one slT cC bJ ci exT cH eP aY bf slV VT.le Ret bW
attribute [local irreducible] bq ce
theorem qz (r c:Nat) (F:Nat→Nat→Int):Ok Tryz.prog 82 [slT (.agg 3) 1 (fun _=>be r c F)] (slT (.agg 2) 1 (fun _=>qy r c)):=by
 unfold be qy
 refine Ok.enter Tryz.func82 Z Tryz.ntmps82 Z (fun w O => ?_)
 refine ah (aj (An Z (Ap (ab (ah (aj (An Z (Ap (ab ?_)))))))))
 refine ah (ah (aj (Am Z (Al (bk Z) (Am Z (Ap (ab (ao ?_))))))))
 refine pI 2 ?_
 refine ah (aj (Al (sT S (aO Z Z)) (Ap (ab (ah (aB Z (av (ab (ah ?_)))))))))
 refine ao (ah (aj ?_))
 (refine Al (ep Z Z ?_ ?_) ?_;omega;omega)
 refine Al (aG Z) ?_
 refine aW (T:=29) Z Z Z (fun b5 => ?_)
 refine aL 0 Z Z Z Z (Ap (ab (aj (Am Z (Al (aa Z) (Al (ak 0 Z Z Z) (Al (aa Z) (Al (ak 0 Z Z Z) (stB Z Z Z ?_)))))))))
 refine BuildK.cons Z Z Z (BuildK.cons Z Z Z (BuildK.nil (ol Z Z Z Z ?_)))
 (refine tc Z Z (leN Z) ?_ ?_ Z (ltN Z) (fun sv19 cap19 => ?_);omega;omega)
 refine An Z (Ap (aD (ab (aj ?_))))
 (refine Al (cr Z Z (aV ?_ ?_)) ?_;omega;omega)
 refine Am Z (Ap (nJ (ah (aj (Al (sF S (aO Z Z)) (Ap (ab (ah (ay Z ?_)))))))))
 refine a4 (az (az (aI (ab (ah (aj (Am Z (An Z (Ap ?_)))))))))
 refine ab (aH (dE (t:=2) (i:=0) Z Z ?_))
 refine aJ Tryz.results82 (.tmp Z (fx fun i hi=>VT.le_refl _))
theorem wI (r c r' c':Nat):Ok Tryz.prog 81 [slT (.agg 2) 1 (fun _=>qy r c),slT (.agg 2) 1 (fun _=>qy r' c')] (one (.bool (decide (r=r'∧c=c')))):=by
 unfold qy
 refine Ok.enter Tryz.func81 Z Tryz.ntmps81 Z (fun w O => ?_)
 refine ah (aj (An Z (Ap (ab (ah (ah (aj (Am Z (Al (bk Z) ?_)))))))))
 refine Am Z (Al (bk Z) (Al (sF S (dq Z Z)) (Ap (ab (ay Z (av (ab (ah (ah ?_)))))))))
 refine aj (Am Z (Al (bk Z) (Am Z (Ap (ab (ao ?_))))))
 refine pI 2 ?_
 by_cases h:r=r'∧c=c'
 ·obtain ⟨rfl,rfl⟩:=h
  refine ah (aj (Al (sT S (aO Z Z)) (Ap (ab (ah (aB Z (av (ab (ah ?_)))))))))
  refine ao (ah (aj (Am Z (An Z (Ap (ab (ah (aN 9 aK X Y (Am Z ?_)))))))))
  refine Am Z ?_
  (refine Al (ep Z Z ?_ ?_) ?_;omega;omega)
  refine Al (aG Z) (Am Z (Am Z ?_))
  (refine Al (ep Z Z ?_ ?_) ?_;omega;omega)
  refine Al (aG Z) ?_
  refine Al (sF (fun h=>h ⟨rfl,rfl⟩) (w6 X Z Z)) ?_
  refine Ap (Ap (ab (ay Z (av (aD (ab (aj ?_)))))))
  (refine Al (cr Z Z (aV ?_ ?_)) ?_;omega;omega)
  refine Am Z (Ap (nJ (ah (aj (Al (sF S (aO Z Z)) (Ap (ab (ah (ay Z ?_)))))))))
  refine a4 (az (az (aI (ab (ah (aj (An Z (Ap (ab ?_)))))))))
  refine aH ?_
  refine aJ Tryz.results81 (.tmp Z (ar (by simp)))
 ·have h2 : ¬ ((r:Int)=r'∧(c:Int)=c'):=fun hh=>h ⟨by omega,by omega⟩
  refine ah (aj (Al (sT S (aO Z Z)) (Ap (ab (ah (aB Z (av (ab (ah ?_)))))))))
  refine ao (ah (aj (Am Z (An Z (Ap (ab (ah (aN 9 aK X Y (Am Z ?_)))))))))
  refine Am Z ?_
  (refine Al (ep Z Z ?_ ?_) ?_;omega;omega)
  refine Al (aG Z) (Am Z (Am Z ?_))
  (refine Al (ep Z Z ?_ ?_) ?_;omega;omega)
  refine Al (aG Z) (Al (sT (by assumption) (w6 X Z Z)) (Ap (Ap (ab (aB Z (ah (aj (An Z (Ap ?_)))))))))
  refine ab (aH (a7 (aE (aE (a7 (aE ?_))))))
  refine aJ Tryz.results81 (.tmp Z (ar (by simp [h])))
theorem wJ (n:Nat) (b:Nat→Bool) (hn:n≤1048576):Ok Tryz.prog 109 [slT .one n (fun i=>one (.bool (b i))),one (.bool false)] (exT fun k:Int=>cH ((0≤k ↔ ¬ ∀ i,i<n→b i=true)) (one (.int .i64 k))):=by
 refine Ok.enter Tryz.func109 Z Tryz.ntmps109 Z (fun w O => ?_)
 refine ah (aj (An Z (Ap (ab (ah (ah (aj (Am Z (Al (bk Z) ?_)))))))))
 refine Am Z (Ap (ab (ao (bL (Γ' := [(0,_),(1,_),(4,_),(7,_),(8,_)]) Ag (SubM.refl _) ?_))))
 refine bE (σ:=Nat) (Γk := [(0,_),(1,_),(7,_)]) Ag (fun i => [(8,one (.int .i64 (i:Nat)))]) (fun i M0=>M0) (fun i=>i≤n ∧ ∀ j,j<i→b j=true) (fun i=>n - i) (0) (⟨Nat.zero_le _,fun j hj=>absurd hj (Nat.not_lt_zero _)⟩) Ah (.nil) (fun i hi => ?_)
 refine bN (Γ' := [(8,_),(0,_),(1,_),(7,_)]) (M' := []) Z Z (ah (aj (Al (aO Z Z) (Ap (ab (ah ?_))))))
 refine no Z (fun hc => ?_) (fun hc => ?_)
 ·have hin:i<n:=by omega
  refine av (ab (ah (ao (ah (aj (Am Z (An Z (Ap (ab ?_)))))))))
  refine ah (aj (Am Z (Am Z (Am Z ?_))))
  (refine Al (ax Z Z ?_) ?_;omega)
  refine Al (aG Z) (Al (ff Z Z) (Ap (ab ?_)))
  refine w5 Z (fun hb => ?_) (fun hb => ?_)
  ·have hb:b i=false:=by simpa using hb
   refine ah (aj (Am Z (An Z (Ap (ab (aH (a7 (aE (aE ?_)))))))))
   refine a7 (aE ?_)
   refine aJ Tryz.results109 (.tmp Z (mo (i:Int) (kn ⟨fun _ hall=>absurd (hall i hin) (by simp [hb]),fun _=>by omega⟩ W)))
  ·have hb:b i=true:=by simpa using hb
   refine av (aD (ab (aj (Al (bj _ 1 Z Z S) (Am Z (Ap ?_))))))
   refine aM (i+1) (⟨by omega,fun j hj=>(Nat.lt_succ_iff_lt_or_eq.1 hj).elim (hi.2 j) (fun e=>by subst e;exact hb)⟩) S Ah (.nil)
 ·refine a4 (az (az (aI (ab (ah (aj (An Z (Ap (ab ?_)))))))))
  refine aH ?_
  refine aJ Tryz.results109 (.tmp Z (mo (-1:Int) (kn ⟨fun h=>by omega,fun h=>absurd (fun j hj=>hi.2 j S) h⟩ W)))
theorem vA (n:Nat) (b:Nat→Bool) (hn:n≤1048576):Ok Tryz.prog 85 [slT .one n (fun i=>one (.bool (b i))),one (.bool false)] (exT fun t:Bool=>cH ((t=true ↔ ¬ ∀ i,i<n→b i=true)) (one (.bool t))):=by
 refine Ok.enter Tryz.func85 Z Tryz.ntmps85 Z (fun w O => ?_)
 refine ah (aj (An Z (Ap (ab (ah (aj (Am Z (Am Z ?_))))))))
 have hI:=(wJ n b hn).toM
 refine eO hI Z ⟨W,W,Aq⟩ Z Z (fun s => ?_)
 obtain ⟨k,hk⟩:=s
 refine Al (eV Z Z) (An Z (Ap (ab (aH ?_))))
 refine aJ Tryz.results85 (.tmp Z (mo _ (kn (by simpa using hk) W)))
theorem xK (x y:Int):Ok Tryz.prog 83 [bq x,bq y] (one (.bool (decide (x=y)))):=by
 refine Ok.enter Tryz.func83 Z Tryz.ntmps83 Z (fun w O => ?_)
 refine ah (aj ?_)
 refine nF Z Z (ltN Z) (fun b2 => ?_)
 refine nF Z Z (ltN Z) (fun b3 => ?_)
 refine An Z (Ap (ab (ah (aj (Al (ak 1 Z Z Z) (Al (ak 0 Z Z Z) ?_))))))
 refine Al (am (iN _ _) Z ⟨W,W,Aq⟩) ?_
 refine Al (bI Z Z) (An Z (Ap (ab (aH ?_))))
 refine aJ Tryz.results83 (.tmp Z (ar (by congr 1;unfold ek;simp;split <;> (try split) <;> simp <;> omega)))
theorem l6 {L:Lay} {φ:VT} : VT.le (slT L 1 (fun q => [φ].reverse.getD q bW)) (slT L 1 (fun _=>φ)):=fx fun i hi=>by
 have:i=0:=by omega
 subst this;exact VT.le_refl _
theorem oa (ra ca:Nat) (F:Nat→Nat→Int) (rb cb:Nat) (G:Nat→Nat→Int) (h1:ra≤1048576) (h2:ca≤1048576) :
  Ok Tryz.prog 46 [be ra ca F,be rb cb G] (one (.bool (decide (ra=rb∧ca=cb∧tab ra ca F=tab rb cb G)))):=by
 have hv:=nW ra ca F rb cb G
 have hs1:=qz ra ca F
 have hs2:=qz rb cb G
 have hq:=wI ra ca rb cb
 refine Ok.enter Tryz.func46 Z Tryz.ntmps46 Z (fun w O => ?_)
 by_cases hne:ra=rb∧ca=cb
 ·obtain ⟨rfl,rfl⟩:=hne
  rw [decide_eq_true ⟨rfl,rfl⟩] at hq
  unfold be at *
  refine ah (aj ?_)
  refine aR Z Z (ltN Z) (fun b2 => ?_)
  refine aR Z Z (ltN Z) (fun b3 => ?_)
  refine An Z (Ap (ab (ah (ah (aN 15 aK X Y (Al (aC 1 Z Z) (Al (aC 0 Z Z) (stS Z Z Z Z (PartsK.cons Z ?_)))))))))
  refine PartsK.cons Z (PartsK.nil ?_)
  refine Al (am (hv) Z ⟨(mL),Aq⟩) ?_
  refine Al (aX Z) (Am Z (Ao (aC 1 Z Z) (ou Z Z Z Z Z Z (PartsK.cons Z (PartsK.nil ?_)))))
  refine Ao (am (hs1) Z ⟨(l6),Aq⟩) ?_
  refine Ao (aC 0 Z Z) (ou Z Z Z Z Z Z (PartsK.cons Z (PartsK.nil ?_)))
  refine Ao (am (hs2) Z ⟨(l6),Aq⟩) ?_
  refine Ao (am (hq) Z ⟨W,W,Aq⟩) ?_
  refine Ao (aX Z) (Al (aw Z Z) (Ap (Ap (ab (ay Z (av (ab (ah (aj ?_)))))))))
  refine An Z (Ap (ab (ah (ah (aj (Al (aa Z) (Al (ak 1 Z Z Z) (Al (bk Z) (Am Z ?_)))))))))
  refine Ap (ab (ao (bL (Γ' := [(3,_),(4,_),(5,_),(24,_),(25,_),(26,_)]) Ag (SubM.refl _) ?_)))
  refine bE (σ:=Nat) (Γk := [(3,_),(5,_),(24,_),(25,_)]) Ag (fun i => [(26,one (.int .i64 (i:Nat)))]) (fun i M0=>M0) (fun i=>i≤ra ∧ ∀ j,j<i → ∀ k,k<ca→F j k=G j k) (fun i=>ra - i) (0) (⟨Nat.zero_le _,fun j hj=>absurd hj (Nat.not_lt_zero _)⟩) Ah (.keep Ak (.keep Ak (.nil))) (fun i hi => ?_)
  refine bN (Γ' := [(26,_),(3,_),(5,_),(24,_),(25,_)]) (M' := [_,_]) Z Z ?_
  have hcb:=uQ ca (fun k=>bq (F i k)) (fun k=>bq (G i k)) (fun k=>one (.bool (decide (F i k=G i k)))) (one (.func (.func 83) #[] #[])) h2 (fun k hk=>hP.fn (xK _ _))
  have hct:=(vA ca (fun k=>decide (F i k=G i k)) h2).toM
  refine ah (aj (Al (aO Z Z) (Ap (ab (ah ?_)))))
  refine no Z (fun hc => ?_) (fun hc => ?_)
  ·refine av (ab (ah (ao (ah (aj (Am Z ?_))))))
   (refine Al (ax Z Z ?_) ?_;omega)
   refine Al (aG Z) (An Z (An Z (Ap (ab (ah (aj (Am Z (Al (aa Z) (Al (ak 0 Z Z Z) ?_)))))))))
   refine Am Z ?_
   (refine Al (ax Z Z ?_) ?_;omega)
   refine Al (aG Z) (Am Z ?_)
   refine Al (am (hcb) Z ⟨W,W,W,Aq⟩) ?_
   refine eO (hct) Z ⟨W,W,Aq⟩ Z Z (fun s39 => ?_)
   refine Ap (ab ?_)
   obtain ⟨t,ht⟩:=s39
   refine w5 Z (fun hb => ?_) (fun hb => ?_)
   ·have hb:t=true:=hb
    subst hb
    refine ah (aj (An Z (Ap (ab (aH (a7 (aE (aE (a7 ?_)))))))))
    refine aE ?_
    refine aJ Tryz.results46 (.tmp Z (ar (by congr 1;rw [decide_eq_false]; intro h;exact (ht.1 Z) (fun k hk=>decide_eq_true (wa h.2.2 S hk)))))
   ·have hb:t=false:=hb
    subst hb
    refine av (aD (ab (aj (Al (bj _ 1 Z Z S) (Am Z (Ap ?_))))))
    have hall : ∀ k,k<ca→F i k=G i k:=fun k hk=>by
     have h3 : ¬ ¬ ∀ k,k<ca→decide (F i k=G i k)=true:=fun h4=>by have:=ht.2 h4;cases this
     exact of_decide_eq_true (Classical.not_not.1 h3 k hk)
    refine aM (i+1) (⟨by omega,fun j hj=>(Nat.lt_succ_iff_lt_or_eq.1 hj).elim (hi.2 j) (fun e=>by subst e;exact hall)⟩) S Ah (.keep Ak (.keep Ak (.nil)))
  ·refine a4 (az (az (aI (ab (ah (aj (An Z (Ap (ab ?_)))))))))
   refine aH ?_
   refine aJ Tryz.results46 (.tmp Z (ar (by congr 1;rw [decide_eq_true]; exact ⟨rfl,rfl,tg fun a b ha hb=>hi.2 a S b hb⟩)))
 ·rw [decide_eq_false hne] at hq
  unfold be at *
  refine ah (aj ?_)
  refine aR Z Z (ltN Z) (fun b2 => ?_)
  refine aR Z Z (ltN Z) (fun b3 => ?_)
  refine An Z (Ap (ab (ah (ah (aN 15 aK X Y (Al (aC 1 Z Z) (Al (aC 0 Z Z) (stS Z Z Z Z (PartsK.cons Z ?_)))))))))
  refine PartsK.cons Z (PartsK.nil ?_)
  refine Al (am (hv) Z ⟨(mL),Aq⟩) ?_
  refine Al (aX Z) (Am Z (Ao (aC 1 Z Z) (ou Z Z Z Z Z Z (PartsK.cons Z (PartsK.nil ?_)))))
  refine Ao (am (hs1) Z ⟨(l6),Aq⟩) ?_
  refine Ao (aC 0 Z Z) (ou Z Z Z Z Z Z (PartsK.cons Z (PartsK.nil ?_)))
  refine Ao (am (hs2) Z ⟨(l6),Aq⟩) ?_
  refine Ao (am (hq) Z ⟨W,W,Aq⟩) ?_
  refine Ao (aX Z) (Al (aw Z Z) (Ap (Ap (ab (aB Z (ah (aj (An Z (Ap ?_)))))))))
  refine ab (aH (aE ?_))
  refine aJ Tryz.results46 (.tmp Z (ar (by congr 1;rw [decide_eq_false (fun h=>hne ⟨h.1,h.2.1⟩)])))
end Tor
end
section
namespace Tor
open Go Go.RowKit Go.Proofs
structure ValI (r c:Nat) (A M U V:Nat→Nat→Int) (row col:Nat) (done:Bool):Prop where
 le:row≤col
 dn:done=decide (row=r∨col=c)
 ua:tab r c (eD r U A)=tab r c M
 uv:tab r r (eD r U V)=tab r r idF
 low : ∀ i j,row≤i→i<r→j<col→M i j=0
 form:IsH row col M
 last:row=0∨cU col (M (row - 1))<col
def ya (ra ca rm cm ru cu rv cv:Nat) (A M U V:Nat→Nat→Int) (row col:Int) (done:Bool):Prop:=i6 ra ca rm cm ru cu rv cv row col=true∧ValI ra ca A M U V row.toNat col.toNat done
noncomputable def m9 (r c:Nat) (A M U V:Nat→Nat→Int) (row col:Nat) (done:Bool):Bool := @decide (ValI r c A M U V row col done) (Classical.propDecidable _)
theorem jJ {r c:Nat} {A M U V:Nat→Nat→Int} {row col:Nat} {done:Bool} (h:ValI r c A M U V row col done):m9 r c A M U V row col done=true := @decide_eq_true _ (Classical.propDecidable _) h
theorem na {r c:Nat} {A M U V:Nat→Nat→Int} {row col:Nat} {done:Bool} (h : ¬ ValI r c A M U V row col done):m9 r c A M U V row col done=false := @decide_eq_false _ (Classical.propDecidable _) h
noncomputable def g8 (ra ca rm cm ru cu rv cv:Nat) (A M U V:Nat→Nat→Int) (row col:Int) (done:Bool):Bool := @decide (ya ra ca rm cm ru cu rv cv A M U V row col done) (Classical.propDecidable _)
theorem iU {ra ca rm cm ru cu rv cv:Nat} {A M U V:Nat→Nat→Int} {row col:Int} {done:Bool} (h : ¬ ya ra ca rm cm ru cu rv cv A M U V row col done):g8 ra ca rm cm ru cu rv cv A M U V row col done=false := @decide_eq_false _ (Classical.propDecidable _) h
theorem qA {ra ca rm cm ru cu rv cv:Nat} {A M U V:Nat→Nat→Int} {row col:Nat} {done:Bool} (h:i6 ra ca rm cm ru cu rv cv row col=true):g8 ra ca rm cm ru cu rv cv A M U V row col done=m9 ra ca A M U V row col done:=by
 unfold g8 m9
 exact @decide_eq_decide _ _ (Classical.propDecidable _) (Classical.propDecidable _) |>.2 ⟨fun e=>e.2,fun e=>⟨h,e⟩⟩
theorem qB (n:Nat) (f:Nat→Int):Ok Tryz.prog 48 [cM n f] (one (.bool (decide (cU n f=n)))):=(wb _).le ⟨pZ n f,Aq⟩ (ar (by
 congr 1
 rw [Bool.eq_iff_iff,List.all_eq_true,decide_eq_true_iff,uY]
 constructor
 ·intro h k hk;exact of_decide_eq_true (h _ (List.mem_map.2 ⟨k,List.mem_range.2 hk,rfl⟩))
 ·intro h x hx
  obtain ⟨k,hk,rfl⟩:=List.mem_map.1 hx
  exact decide_eq_true (h k (List.mem_range.1 hk))))
theorem l7 {c:Nat} {f:Nat→Int} : VT.le (slT (.agg 2) ((c:Int) - 0).toNat fun j=>bq (f (Int.toNat 0+j))) (cM c f):=cR S fun q hq=>by
 rw [show Int.toNat 0+q=q from Nat.zero_add q]
theorem tQ {bo r i c:Nat} {M:Nat→Nat→Int} : Own.le (bf (some bo) 57 .one r r (upd (fun q=>if q<i then cM c (M q) else bW) i (slT (.agg 2) ((c:Int) - 0).toNat fun j=>bq (M i (Int.toNat 0+j))))) (bf (some bo) 57 .one r r (fun q=>if q<i+1 then cM c (M q) else bW)):=eM fun q hq=>by
 unfold upd
 by_cases h:q=i
 ·subst h;rw [if_pos Z,if_pos S]; exact l7
 ·rw [if_neg h]
  dsimp only
  by_cases h2:q<i
  ·rw [if_pos h2,if_pos S]; exact VT.le_refl _
  ·rw [if_neg h2,if_neg S]; exact VT.le_refl _
theorem tS {bo r i c:Nat} {M:Nat→Nat→Int} (h:r≤i):Own.le (bf (some bo) 57 .one r r (fun q=>if q<i then cM c (M q) else bW)) (bf (some bo) 57 .one r r (fun q=>if q<i+1 then cM c (M q) else bW)):=eM fun q hq=>by
 rw [if_pos S,if_pos S]; exact VT.le_refl _
attribute [local irreducible] J PJ aU one slT cC bJ ci exT cH eP aY bf slV VT.le Ret bW
attribute [local irreducible] ce bq
set_option maxRecDepth 100000 in
theorem ob (r c:Nat) (A M U V:Nat→Nat→Int) (r0 c0:Nat) (done:Bool) (hr:r≤1048576) (hc:c≤1048576) (hr0:r0≤r) (hc0:c0≤c) (hmA : ∀ i j,bV (A i j)) (hmM : ∀ i j,bV (M i j)) (hmU : ∀ i j,bV (U i j)) (hmV : ∀ i j,bV (V i j)) :
  Ok Tryz.prog 19 [fW (be r c A) (be r c M) (be r r U) (be r r V) r0 c0 (one (.bool done))] (one (.bool (m9 r c A M U V r0 c0 done))):=by
 have hf1:=j7 r c r c r r r r A M U V r0 c0 (one (.bool done))
 have hfit:i6 r c r c r r r r r0 c0=true:=decide_eq_true S
 rw [hfit] at hf1
 have hf2:=dZ r c (slT .one r fun i=>cM c (A i)) (be r c M) (be r r U) (be r r V) r0 c0 (one (.bool done))
 rw [it] at hf2
 have hm1:=qm r r U r c A hr hr hc hmU hmA
 have hm2:=qm r r U r r V hr hr hr hmU hmV
 rw [decide_eq_true (show r=r from rfl)] at hm1 hm2
 unfold n0 at hm1 hm2
 simp only [if_true] at hm1 hm2
 have he1:=oa r c (eD r U A) r c M hr hc
 have he2:=oa r r (eD r U V) r r idF hr hr
 have hid:=qk r hr
 rw [show (fun i j=>if i=j then (1:Int) else 0)=idF from rfl] at hid
 rw [show decide (r=r∧c=c∧tab r c (eD r U A)=tab r c M)=decide (tab r c (eD r U A)=tab r c M) from decide_eq_decide.2 ⟨fun h=>h.2.2,fun h=>⟨rfl,rfl,h⟩⟩] at he1
 rw [show decide (r=r∧r=r∧tab r r (eD r U V)=tab r r idF)=decide (tab r r (eD r U V)=tab r r idF) from decide_eq_decide.2 ⟨fun h=>h.2.2,fun h=>⟨rfl,rfl,h⟩⟩] at he2
 refine Ok.enter Tryz.func19 Z Tryz.ntmps19 Z (fun w O => ?_)
 have hno : ¬ ValI r c A M U V r0 c0 done→m9 r c A M U V r0 c0 done=false:=fun h=>na h
 by_cases hle:r0≤c0
 ·by_cases hdn:done=decide (r0=r∨c0=c)
  ·rw [← hdn] at hf2
   have hbb:(!(done == done))=false:=by cases done <;> rfl
   by_cases hua:tab r c (eD r U A)=tab r c M
   ·by_cases huv:tab r r (eD r U V)=tab r r idF
    ·refine ah (aj ?_)
     refine aR Z Z (ltN Z) (fun b1 => ?_)
     refine An Z (Ap (ab (ah (ah (aN 17 aK X Y (Al (aC 0 Z Z) ?_))))))
     refine Al (am (hf1) Z ⟨W,Aq⟩) ?_
     refine Al (aX Z) (Am Z (Ao (aa Z) (Ao (ak 0 Z Z Z) (Ao (aa Z) (Ao (ak 0 Z Z Z) (Ao (sF S (cK Z Z)) (Al (aw Z Z) (Am Z (Ao (aa Z) ?_)))))))))
     refine Ao (ak 0 Z Z Z) (Ao (aC 0 Z Z) ?_)
     refine Ao (am (hf2) Z ⟨W,Aq⟩) ?_
     refine Ao (sBf (by assumption) (eI Z Z)) (Al (aw Z Z) (Ap (Ap (ab (ay Z (av (ab (ah (ah ?_)))))))))
     refine aj (Al (aa Z) (Al (ak 0 Z Z Z) (Al (aa Z) (Al (ak 0 Z Z Z) ?_))))
     refine Al (am (hm1) Z ⟨W,W,Aq⟩) ?_
     refine Am Z (Al (a6 Z Z) (Al (a6 Z Z) ?_))
     refine aW (T:=29) Z Z Z (fun b3 => ?_)
     refine aL 0 Z Z Z Z (An Z (Ap (ab (ah (aj (Am Z (Al (sF S (dq Z Z)) (Am Z (Ao (aC 0 Z Z) ?_)))))))))
     refine Ao (aa Z) (Ao (ak 1 Z Z Z) ?_)
     refine Ao (sT (by assumption) (am (he1) Z ⟨W,W,Aq⟩)) ?_
     refine Ao (aX Z) (Al (aw Z Z) (Ap (ab (ay Z (av (ab (ah (ah (aj ?_)))))))))
     refine Al (aa Z) (Al (ak 1 Z Z Z) (Al (aa Z) (Al (ak 1 Z Z Z) ?_)))
     refine Al (am (hm2) Z ⟨W,W,Aq⟩) ?_
     refine Am Z (Al (a6 Z Z) (Al (a6 Z Z) ?_))
     refine aW (T:=29) Z Z Z (fun b5 => ?_)
     refine aL 0 Z Z Z Z (An Z (Ap (ab (ah (aN 11 aK X Y (Am Z (Al (sF S (dq Z Z)) (Am Z (Ao (aC 0 Z Z) ?_)))))))))
     refine Ao (aa Z) (Ao (aa Z) (Ao (au 2 0 0 Z Z Z Z Z) ?_))
     refine Ao (am (hid) Z ⟨W,Aq⟩) ?_
     refine Ao (sT (by assumption) (am (he2) Z ⟨W,W,Aq⟩)) ?_
     refine Ao (aX Z) (Al (aw Z Z) (Ap (Ap (ab (ay Z (av (ab (ah ?_))))))))
     refine bL (Γ' := [(2,one (.bool false)),(1,one (.pointer (some ⟨b1,0,none⟩)))]) (M' := [aY b1 32 15 (ew (be r c A) (be r c M) (be r r U) (be r r V) r0 c0 (one (.bool done)))]) Aj (.drop (.drop (SubM.refl _))) ?_
     refine qX aK X X (fun a1 w1 hS1 => ?_)
     refine ux (fun B=>aa Z) Z Z ?_
     refine ux (fun B=>ak 0 Z Z Z) Z Z ?_
     refine ux (fun B=>aa Z) Z Z ?_
     refine ux (fun B=>ak 0 Z Z Z) Z Z ?_
     refine ux (fun B=>aa Z) Z Z ?_
     refine ux (fun B=>ak 0 Z Z Z) Z Z ?_
     refine ux (fun B=>iF w1.heap.size r0 Z Z Z Z Z Z Z ?_) Z Z ?_
     ·omega
     refine uB Z Z Z (BuildK.cons Z Z Z (BuildK.cons Z Z Z (BuildK.cons Z Z Z (BuildK.nil (ua Z (us Z ?_))))))
     refine RunU.nil (fun γ a2 w2 hS2 hx hk2 => ?_)
     obtain ⟨bo,hS3⟩:=jW (t:=7) (b:=γ 7) (T:=29) (m:=3) (k:=2) (n:=r0) (cs1 := [(0, .one,one (.int .i64 r0)),(1, .one,one (.int .i64 c0))])
      (Γk := [(2,one (.bool false)),(1,one (.pointer (some ⟨b1,0,none⟩)))])
      hS1 Z hS2 hx hk2 (.cons Z X (.cons Z X .nil)) Z Z (fun q hq=>by
       rcases List.mem_cons.1 hq with rfl | hq
       ·exact ⟨_,rfl,rfl⟩
       rcases List.mem_cons.1 hq with rfl | hq
       ·exact ⟨_,rfl,rfl⟩
       cases hq)
     generalize γ 7=b7 at hS3
     refine qY ?_ hS3
     clear hS3 hS2 hx hk2 hS1
     refine ab (ah (ah (aj (Al (aa Z) (Al (aa Z) (Al (au 2 3 2 Z Z Z Z Z) (Al (bk Z) (Am Z (Ap ?_)))))))))
     refine ab (ao (bL (Γ' := [(1,_),(2,_),(7,_),(73,_),(74,_),(75,_)]) Ag (SubM.refl _) ?_))
     refine bE (σ:=Nat) (Γk := [(1,_),(7,_),(73,_),(74,_)]) Ag (fun i => [(75,one (.int .i64 (i:Nat)))]) (fun i M0=>(M0.set 1 (bf (some bo) 57 .one r0 r0 (fun q=>if q<i then cM c0 (M q) else bW)))) (fun i=>i≤r ∧ ∀ q,r0≤q→q<i → ∀ j,j<c0→M q j=0) (fun i=>r - i) (0) (⟨Nat.zero_le _,fun q h1 h2=>absurd h2 (Nat.not_lt_zero q)⟩) Ah (.keep Ak (.keep (eM fun q hq=>by simp only [Nat.not_lt_zero,if_false]; exact lj _) (.keep Ak (.nil)))) (fun i hi => ?_)
     refine bN (Γ' := [(75,_),(1,_),(7,_),(73,_),(74,_)]) (M' := [_,_,_]) Z Z ?_
     obtain ⟨hi1,hi2⟩:=hi
     by_cases hi:i<r
     ·by_cases hir:i<r0
      ·unfold cM
       refine ah (aj (Al (sT S (aO Z Z)) (Ap (ab (ah (aB Z (av (ab (ah ?_)))))))))
       refine ao (ah (aj (Am Z (Al (ax Z Z S) (Al (aG Z) (An Z (An Z (Ap (ab ?_)))))))))
       refine ah (aj (Am Z (Al (aa Z) (Al (ak 2 Z Z Z) (Al (sT S (aO Z Z)) (Ap (ab (aB Z (aN 9 aK X Y ?_)))))))))
       refine Al (aa Z) (Al (ak 0 Z Z Z) (Am Z (Am Z (Al (aa Z) (Al (ak 2 Z Z Z) (Al (aa Z) (Al (ak 2 Z Z Z) ?_)))))))
       refine Al (fj Z Z Z Z (fun _=>rfl) S S S S) ?_
       refine Ap (Al (an Z Z S) ?_)
       (refine bK 1 Z Z Z ?_ Z ?_;omega)
       refine Ap (aD (ab (aj (Al (bj _ 1 Z Z S) (Am Z (Ap ?_))))))
       refine aM (i+1) (⟨hi,fun q h1 h2=>absurd h2 S⟩) S Ah (.keep Ak (.keep (tQ) (.keep Ak (.nil))))
      ·have hz:=qB c0 (M i)
       by_cases h0:cU c0 (M i)=c0
       ·rw [decide_eq_true h0] at hz
        unfold cM
        refine ah (aj (Al (sT S (aO Z Z)) (Ap (ab (ah (aB Z (av (ab (ah ?_)))))))))
        refine ao (ah (aj (Am Z (Al (ax Z Z S) (Al (aG Z) (An Z (An Z (Ap (ab ?_)))))))))
        refine ah (aj (Am Z (Al (aa Z) (Al (ak 2 Z Z Z) (Al (sF S (aO Z Z)) (Ap (ab (ay Z (ah ?_)))))))))
        refine aj (Am Z (Al (aa Z) (Al (ak 2 Z Z Z) ?_)))
        refine Al (fj Z Z Z Z (fun _=>rfl) S S S S) ?_
        refine Al (am (hz) Z ⟨(l7),Aq⟩) ?_
        refine Al (aX Z) (Ap (ab (ay Z (av (aD (ab (aj (Al (bj _ 1 Z Z S) (Am Z ?_)))))))))
        refine Ap ?_
        refine aM (i+1) (⟨hi,fun q h1 h2=>by rcases Nat.lt_or_eq_of_le (Nat.lt_succ_iff.1 h2) with h | h;exact hi2 q h1 h;exact h▸uY.1 h0⟩) S Ah (.keep Ak (.keep (tS S) (.keep Ak (.nil))))
       ·rw [decide_eq_false h0] at hz
        rw [hno (fun e=>h0 (uY.2 fun k hk=>e.low i k S hi hk))]
        unfold cM
        refine ah (aj (Al (sT S (aO Z Z)) (Ap (ab (ah (aB Z (av (ab (ah ?_)))))))))
        refine ao (ah (aj (Am Z (Al (ax Z Z S) (Al (aG Z) (An Z (An Z (Ap (ab ?_)))))))))
        refine ah (aj (Am Z (Al (aa Z) (Al (ak 2 Z Z Z) (Al (sF S (aO Z Z)) (Ap (ab (ay Z (ah ?_)))))))))
        refine aj (Am Z (Al (aa Z) (Al (ak 2 Z Z Z) ?_)))
        refine Al (fj Z Z Z Z (fun _=>rfl) S S S S) ?_
        refine Al (am (hz) Z ⟨(l7),Aq⟩) ?_
        refine Al (aX Z) (Ap (ab (aB Z (ah (aj (An Z (Ap (ab (aH ?_)))))))))
        refine a7 (aE (aE (a7 (aE ?_))))
        refine aJ Tryz.results19 (.tmp Z W)
     ·have hie:i=r:=by omega
      subst hie
      refine ah (aj (Al (sF S (aO Z Z)) (Ap (ab (ah (ay Z (a4 (az (az ?_)))))))))
      refine aI (ab (ah ?_))
      refine qS [bf (some bo) 57 .one r0 r0 fun q=>if q<i then cM c0 (M q) else bW] (Kp := [_,_]) (Kp' := [aY b7 29 3 [(0, .one,one (.int .i64 r0)),(1, .one,one (.int .i64 c0)),(2, .one,slT .one r0 fun q=>cM c0 (M q))],_]) (List.Perm.swap _ _ _) (.keep (vO.box (.cons (a8 1 Z) (Ent.refl _) (.cons (a8 2 Z) (Ent.refl _) (.cons (a8 0 Z) (Ent.slE List.mem_cons_self fun q hq=>Ent.le (by rw [if_pos S]; exact VT.le_refl _)) .nil)))) (EntM.refl _)) (qR.refl _) ?_
      have hH:=wA r0 c0 M S S hmM
      by_cases hform:IsH r0 c0 M
      ·rw [ip hform] at hH
       by_cases hr00:r0=0
       ·rw [jJ ⟨hle,hdn,hua,huv,fun q j h1 h2 h3=>hi2 q h1 h2 j h3,hform, .inl hr00⟩]
        refine aj (Al (aC 0 Z Z) ?_)
        refine Al (am (hH) Z ⟨W,Aq⟩) ?_
        refine Am Z (Ao (aa Z) (Ao (ak 1 Z Z Z) (Ao (sT S (bI Z Z)) (Ao (ae Z) (sn0 Z Z Z Z Z (sn0 Z Z Z Z Z (sn0 Z Z Z Z Z (sn0 Z Z Z Z Z (sn0 Z Z Z Z Z ?_)))))))))
        refine sn0 Z Z Z Z Z (sn0 Z Z Z Z Z (sn0 Z Z Z Z Z (sn0 Z Z Z Z Z (Ao (aA Z Z) (Al (aA Z Z) (An Z (Ap (ab (aH ?_)))))))))
        refine aJ Tryz.results19 (.tmp Z W)
       ·have hz:=qB c0 (M (r0 - 1))
        have hll:=we (c:=c0) (f:=M (r0 - 1))
        by_cases h0:cU c0 (M (r0 - 1))=c0
        ·rw [decide_eq_true h0] at hz
         rw [hno (fun e=>by have:=e.last;omega)]
         refine aj (Al (aC 0 Z Z) ?_)
         refine Al (am (hH) Z ⟨W,Aq⟩) ?_
         refine Am Z (Ao (aa Z) (Ao (ak 1 Z Z Z) (Ao (sF S (bI Z Z)) (Ao (ae Z) (Ao (aa Z) (Ao (ak 0 Z Z Z) (Ao (aa Z) (Ao (ak 1 Z Z Z) (Ao (dH _ 1 Z Z S S) ?_)))))))))
         refine Ao (ax Z Z S) (Ao (aG Z) ?_)
         refine Ao (am (hz) Z ⟨W,Aq⟩) ?_
         refine Ao (aX Z) (Ao (aw Z Z) (Al (aA Z Z) (An Z (Ap (ab (aH ?_))))))
         refine aJ Tryz.results19 (.tmp Z W)
        ·rw [decide_eq_false h0] at hz
         rw [jJ ⟨hle,hdn,hua,huv,fun q j h1 h2 h3=>hi2 q h1 h2 j h3,hform, .inr S⟩]
         refine aj (Al (aC 0 Z Z) ?_)
         refine Al (am (hH) Z ⟨W,Aq⟩) ?_
         refine Am Z (Ao (aa Z) (Ao (ak 1 Z Z Z) (Ao (sF S (bI Z Z)) (Ao (ae Z) (Ao (aa Z) (Ao (ak 0 Z Z Z) (Ao (aa Z) (Ao (ak 1 Z Z Z) (Ao (dH _ 1 Z Z S S) ?_)))))))))
         refine Ao (ax Z Z S) (Ao (aG Z) ?_)
         refine Ao (am (hz) Z ⟨W,Aq⟩) ?_
         refine Ao (aX Z) (Ao (aw Z Z) (Al (aA Z Z) (An Z (Ap (ab (aH ?_))))))
         refine aJ Tryz.results19 (.tmp Z W)
      ·rw [hno (fun e=>hform e.form)]
       rw [iQ hform] at hH
       refine aj (Al (aC 0 Z Z) ?_)
       refine Al (am (hH) Z ⟨W,Aq⟩) ?_
       refine Am Z (sn0 Z Z Z Z Z (sn0 Z Z Z Z Z (sn0 Z Z Z Z Z (sn0 Z Z Z Z Z (snU Z Z Z Z (snU Z Z Z Z (snU Z Z Z Z (snU Z Z Z Z (snU Z Z Z Z ?_)))))))))
       refine snU Z Z Z Z (snU Z Z Z Z (snU Z Z Z Z (snU Z Z Z Z (sn0 Z Z Z Z Z (Al (aw Z Z) (An Z (Ap (ab (aH ?_)))))))))
       refine aJ Tryz.results19 (.tmp Z W)
    ·rw [hno (fun e=>huv e.uv)]
     refine ah (aj ?_)
     refine aR Z Z (ltN Z) (fun b1 => ?_)
     refine An Z (Ap (ab (ah (ah (aN 17 aK X Y (Al (aC 0 Z Z) ?_))))))
     refine Al (am (hf1) Z ⟨W,Aq⟩) ?_
     refine Al (aX Z) (Am Z (Ao (aa Z) (Ao (ak 0 Z Z Z) (Ao (aa Z) (Ao (ak 0 Z Z Z) (Ao (sF S (cK Z Z)) (Al (aw Z Z) (Am Z (Ao (aa Z) ?_)))))))))
     refine Ao (ak 0 Z Z Z) (Ao (aC 0 Z Z) ?_)
     refine Ao (am (hf2) Z ⟨W,Aq⟩) ?_
     refine Ao (sBf (by assumption) (eI Z Z)) (Al (aw Z Z) (Ap (Ap (ab (ay Z (av (ab (ah (ah ?_)))))))))
     refine aj (Al (aa Z) (Al (ak 0 Z Z Z) (Al (aa Z) (Al (ak 0 Z Z Z) ?_))))
     refine Al (am (hm1) Z ⟨W,W,Aq⟩) ?_
     refine Am Z (Al (a6 Z Z) (Al (a6 Z Z) ?_))
     refine aW (T:=29) Z Z Z (fun b3 => ?_)
     refine aL 0 Z Z Z Z (An Z (Ap (ab (ah (aj (Am Z (Al (sF S (dq Z Z)) (Am Z (Ao (aC 0 Z Z) ?_)))))))))
     refine Ao (aa Z) (Ao (ak 1 Z Z Z) ?_)
     refine Ao (sT (by assumption) (am (he1) Z ⟨W,W,Aq⟩)) ?_
     refine Ao (aX Z) (Al (aw Z Z) (Ap (ab (ay Z (av (ab (ah (ah (aj ?_)))))))))
     refine Al (aa Z) (Al (ak 1 Z Z Z) (Al (aa Z) (Al (ak 1 Z Z Z) ?_)))
     refine Al (am (hm2) Z ⟨W,W,Aq⟩) ?_
     refine Am Z (Al (a6 Z Z) (Al (a6 Z Z) ?_))
     refine aW (T:=29) Z Z Z (fun b5 => ?_)
     refine aL 0 Z Z Z Z (An Z (Ap (ab (ah (aN 11 aK X Y (Am Z (Al (sF S (dq Z Z)) (Am Z (Ao (aC 0 Z Z) ?_)))))))))
     refine Ao (aa Z) (Ao (aa Z) (Ao (au 2 0 0 Z Z Z Z Z) ?_))
     refine Ao (am (hid) Z ⟨W,Aq⟩) ?_
     refine Ao (sF (by assumption) (am (he2) Z ⟨W,W,Aq⟩)) ?_
     refine Ao (aX Z) (Al (aw Z Z) (Ap (Ap (ab (aB Z (ah (aj (An Z (Ap ?_)))))))))
     refine ab (aH (aE ?_))
     refine aJ Tryz.results19 (.tmp Z W)
   ·rw [hno (fun e=>hua e.ua)]
    refine ah (aj ?_)
    refine aR Z Z (ltN Z) (fun b1 => ?_)
    refine An Z (Ap (ab (ah (ah (aN 17 aK X Y (Al (aC 0 Z Z) ?_))))))
    refine Al (am (hf1) Z ⟨W,Aq⟩) ?_
    refine Al (aX Z) (Am Z (Ao (aa Z) (Ao (ak 0 Z Z Z) (Ao (aa Z) (Ao (ak 0 Z Z Z) (Ao (sF S (cK Z Z)) (Al (aw Z Z) (Am Z (Ao (aa Z) ?_)))))))))
    refine Ao (ak 0 Z Z Z) (Ao (aC 0 Z Z) ?_)
    refine Ao (am (hf2) Z ⟨W,Aq⟩) ?_
    refine Ao (sBf (by assumption) (eI Z Z)) (Al (aw Z Z) (Ap (Ap (ab (ay Z (av (ab (ah (ah ?_)))))))))
    refine aj (Al (aa Z) (Al (ak 0 Z Z Z) (Al (aa Z) (Al (ak 0 Z Z Z) ?_))))
    refine Al (am (hm1) Z ⟨W,W,Aq⟩) ?_
    refine Am Z (Al (a6 Z Z) (Al (a6 Z Z) ?_))
    refine aW (T:=29) Z Z Z (fun b3 => ?_)
    refine aL 0 Z Z Z Z (An Z (Ap (ab (ah (aj (Am Z (Al (sF S (dq Z Z)) (Am Z (Ao (aC 0 Z Z) ?_)))))))))
    refine Ao (aa Z) (Ao (ak 1 Z Z Z) ?_)
    refine Ao (sF (by assumption) (am (he1) Z ⟨W,W,Aq⟩)) ?_
    refine Ao (aX Z) (Al (aw Z Z) (Ap (ab (aB Z (ah (aj (An Z (Ap (ab ?_)))))))))
    refine aH (aE ?_)
    refine aJ Tryz.results19 (.tmp Z W)
  ·rw [hno (fun e=>hdn e.dn)]
   have hbb:(!(done == decide (r0=r∨c0=c)))=true:=by
    generalize decide (r0=r∨c0=c)=b at *
    cases done <;> cases b <;> first | rfl | exact absurd Z hdn
   refine ah (aj ?_)
   refine aR Z Z (ltN Z) (fun b1 => ?_)
   refine An Z (Ap (ab (ah (ah (aN 17 aK X Y (Al (aC 0 Z Z) ?_))))))
   refine Al (am (hf1) Z ⟨W,Aq⟩) ?_
   refine Al (aX Z) (Am Z (Ao (aa Z) (Ao (ak 0 Z Z Z) (Ao (aa Z) (Ao (ak 0 Z Z Z) (Ao (sF S (cK Z Z)) (Al (aw Z Z) (Am Z (Ao (aa Z) ?_)))))))))
   refine Ao (ak 0 Z Z Z) (Ao (aC 0 Z Z) ?_)
   refine Ao (am (hf2) Z ⟨W,Aq⟩) ?_
   refine Ao (sBt (by assumption) (eI Z Z)) (Al (aw Z Z) (Ap (Ap (ab (aB Z (ah (aj (An Z (Ap ?_)))))))))
   refine ab (aH (aE ?_))
   refine aJ Tryz.results19 (.tmp Z W)
 ·rw [hno (fun e=>hle e.le)]
  refine ah (aj ?_)
  refine aR Z Z (ltN Z) (fun b1 => ?_)
  refine An Z (Ap (ab (ah (ah (aN 17 aK X Y (Al (aC 0 Z Z) ?_))))))
  refine Al (am (hf1) Z ⟨W,Aq⟩) ?_
  refine Al (aX Z) (Am Z (Ao (aa Z) (Ao (ak 0 Z Z Z) (Ao (aa Z) (Ao (ak 0 Z Z Z) (Ao (sT S (cK Z Z)) (Al (aw Z Z) (Am Z (sn0 Z Z Z Z Z ?_)))))))))
  refine sn0 Z Z Z Z Z (sn0 Z Z Z Z Z (sn0 Z Z Z Z Z (sn0 Z Z Z Z Z (Al (aA Z Z) (Ap (Ap (ab (aB Z (ah ?_)))))))))
  refine aj (An Z (Ap (ab (aH (aE ?_)))))
  refine aJ Tryz.results19 (.tmp Z W)
set_option maxRecDepth 100000 in
theorem tT (ra ca rm cm ru cu rv cv:Nat) (A M U V:Nat→Nat→Int) (row col:Int) (done:Bool) (hf:i6 ra ca rm cm ru cu rv cv row col=false) :
  Ok Tryz.prog 19 [fW (be ra ca A) (be rm cm M) (be ru cu U) (be rv cv V) row col (one (.bool done))] (one (.bool false)):=by
 have hf1:=j7 ra ca rm cm ru cu rv cv A M U V row col (one (.bool done))
 have hf2:=dZ ra ca (slT .one ra fun i=>cM ca (A i)) (be rm cm M) (be ru cu U) (be rv cv V) row col (one (.bool done))
 rw [hf] at hf1
 refine Ok.enter Tryz.func19 Z Tryz.ntmps19 Z (fun w O => ?_)
 refine ah (aj ?_)
 refine aR Z Z (ltN Z) (fun b1 => ?_)
 refine An Z (Ap (ab (ah (ah (aN 17 aK X Y (Al (aC 0 Z Z) ?_))))))
 refine Al (am (hf1) Z ⟨W,Aq⟩) ?_
 refine Al (aX Z) (Am Z (sn0 Z Z Z Z Z (sn0 Z Z Z Z Z (sn0 Z Z Z Z Z (sn0 Z Z Z Z Z (sn0 Z Z Z Z Z (Al (aA Z Z) (Am Z (sn0 Z Z Z Z Z ?_)))))))))
 refine sn0 Z Z Z Z Z (sn0 Z Z Z Z Z (sn0 Z Z Z Z Z (sn0 Z Z Z Z Z (Al (aA Z Z) (Ap (Ap (ab (aB Z (ah ?_)))))))))
 refine aj (An Z (Ap (ab (aH (aE ?_)))))
 refine aJ Tryz.results19 (.tmp Z W)
theorem dh (ra ca rm cm ru cu rv cv:Nat) (A M U V:Nat→Nat→Int) (row col:Int) (done:Bool) (hr:ra≤1048576) (hc:ca≤1048576) (hmA : ∀ i j,bV (A i j)) (hmM : ∀ i j,bV (M i j)) (hmU : ∀ i j,bV (U i j)) (hmV : ∀ i j,bV (V i j)) :
  Ok Tryz.prog 19 [fW (be ra ca A) (be rm cm M) (be ru cu U) (be rv cv V) row col (one (.bool done))] (one (.bool (g8 ra ca rm cm ru cu rv cv A M U V row col done))):=by
 cases hf:i6 ra ca rm cm ru cu rv cv row col with
 | false =>
  rw [iU (fun e=>by have:=e.1;rw [hf] at this;cases this)]
  exact tT ra ca rm cm ru cu rv cv A M U V row col done hf
 | true =>
  obtain ⟨rfl,rfl,rfl,rfl,rfl,rfl,h1,h2,h3,h4⟩:=of_decide_eq_true hf
  obtain ⟨r0,rfl⟩:=Int.eq_ofNat_of_zero_le h1
  obtain ⟨c0,rfl⟩:=Int.eq_ofNat_of_zero_le h3
  rw [show g8 _ _ _ _ _ _ _ _ A M U V (r0:Int) (c0:Int) done=m9 _ _ A M U V r0 c0 done from qA hf]
  exact ob _ _ A M U V r0 c0 done hr hc S S hmA hmM hmU hmV
end Tor
end
section
namespace Tor
open Go Go.RowKit Go.Proofs
abbrev wK (h u v:VT):cw := [(0, .agg 3,h),(3, .agg 3,u),(6, .agg 3,v)]
abbrev qC (h u v:VT):VT:=bJ 9 (wK h u v)
theorem vB {Ms:Mem} {h h' u u' v v':VT} (hm:Ent Ms h h') (hu:Ent Ms u u') (hv:Ent Ms v v'):oq Ms (wK h u v) (wK h' u' v') :=
 .cons (a8 0 Z) hm (.cons (a8 1 Z) hu (.cons (a8 2 Z) hv .nil))
def t5W:Nat→S3→VT→VT→VT
 | 2, s, φ, ψ => φ
 | _, s, φ, ψ => ψ
def t5N:Nat→S3→Mem→Mem→Mem→Mem
 | 2, s, φ, ψ, χ => φ
 | 5, s, φ, ψ, χ => ψ
 | _, s, φ, ψ, χ => χ
attribute [local irreducible] J PJ aU one slT cC bJ ci exT cH eP aY bf slV VT.le Ret bW
attribute [local irreducible] ce
set_option maxRecDepth 100000 in
theorem ry (r c:Nat) (A M U V:VT) (row col:Nat) (d:VT) (hv:Ok Tryz.prog 19 [fW (gF r c A) M U V row col d] (one (.bool true))) (hf : ¬ (row=r∨col=c)) :
  Ok Tryz.prog 20 [fW (gF r c A) M U V row col d] (ci [bJ 9 [],one (.int .i64 210)]):=by
 have hf2:=dZ r c A M U V row col d
 rw [it,decide_eq_false hf] at hf2
 refine Ok.enter Tryz.func20 Z Tryz.ntmps20 Z (fun w O => ?_)
 refine ah (aj ?_)
 refine aR Z Z (ltN Z) (fun b1 => ?_)
 refine aW (T:=43) Z Z Z (fun b2 => ?_)
 refine An Z (Ap (ab (ah (ah (aj (Al (aC 1 Z Z) ?_))))))
 refine Al (am (hv) Z ⟨W,Aq⟩) ?_
 refine Al (aX Z) (Am Z (Ao (aC 1 Z Z) ?_))
 refine Ao (am (hf2) Z ⟨W,Aq⟩) ?_
 refine Ao (aX Z) (Al (aw Z Z) (Ap (ab (aB Z (ah (aj (stB Z Z Z (BuildK.nil (aL 0 Z Z Z Z ?_)))))))))
 refine An Z (Ap (ab (aH (aE ?_))))
 exact gI Tryz.results20 (.cellW 0 Z Z (eC fun q hq=>by cases hq)) (.tmp Z W)
set_option maxRecDepth 100000 in
theorem tU (r c:Nat) (A:VT) (M U V:Nat→Nat→Int) (row col:Nat) (d:VT) (hr:r≤1048576) (hc:c≤1048576) (hv:Ok Tryz.prog 19 [fW (gF r c A) (be r c M) (be r r U) (be r r V) row col d] (one (.bool true))) (hf:row=r∨col=c) :
  Ok Tryz.prog 20 [fW (gF r c A) (be r c M) (be r r U) (be r r V) row col d] (ci [qC (be r c M) (be r r U) (be r r V),one (.int .i64 0)]):=by
 have hf2:=dZ r c A (be r c M) (be r r U) (be r r V) row col d
 rw [it,decide_eq_true hf] at hf2
 have hcm:=fM (fb r c M hr hc)
 have hcu:=fM (fb r r U hr hr)
 have hcv:=fM (fb r r V hr hr)
 refine Ok.enter Tryz.func20 Z Tryz.ntmps20 Z (fun w O => ?_)
 refine ah (aj ?_)
 refine aR Z Z (ltN Z) (fun b1 => ?_)
 refine aW (T:=43) Z Z Z (fun b2 => ?_)
 refine An Z (Ap (ab (ah (ah (aj (Al (aC 1 Z Z) ?_))))))
 refine Al (am (hv) Z ⟨W,Aq⟩) ?_
 refine Al (aX Z) (Am Z (Ao (aC 1 Z Z) ?_))
 refine Ao (am (hf2) Z ⟨W,Aq⟩) ?_
 refine Ao (aX Z) (Al (aw Z Z) (Ap (ab (ay Z (av (ab (ah ?_)))))))
 refine bL (Γ' := [(2,_),(1,_)]) (M' := [_,_]) Aj (SubM.refl _) ?_
 refine m4 2 10 [2,5,8] ([],none,0) (fun j s=>t5W j s (bh r c s) (bh r r s)) (fun j s=>t5N j s (fX r c s M) (fX r r s U) (fX r r s V)) aK X Y Z Y ?_
 refine kx Z (fun s B=>aa Z) Z ?_
 refine kx Z (fun s B=>ak 1 Z Z Z) Z ?_
 refine kc Z (fun s B=>dN hcm Z ⟨W,Aq⟩) Z ?_
 refine kx Z (fun s B=>aa Z) Z ?_
 refine kx Z (fun s B=>ak 1 Z Z Z) Z ?_
 refine kc Z (fun s B=>dN hcu Z ⟨W,Aq⟩) Z ?_
 refine kx Z (fun s B=>aa Z) Z ?_
 refine kx Z (fun s B=>ak 1 Z Z Z) Z ?_
 refine kc Z (fun s B=>dN hcv Z ⟨W,Aq⟩) Z ?_
 refine kd [2,5,8] (ψ:=fun s=>qC (bh r c (s 2)) (bh r r (s 5)) (bh r r (s 8))) Z H (fun s s' h=>by rw [h 2 Y,h 5 Y,h 8 Y]) (fun s B=>iC (.cons (φ:=bh r c (s 2)) Z Z Z (.cons (φ:=bh r r (s 5)) Z Z Z (.cons (φ:=bh r r (s 8)) Z Z Z .nil))) Z Z) Z ?_
 refine .nil fun s => ?_
 refine kv (Γ' := [(22,qC (bh r c (s 2)) (bh r r (s 5)) (bh r r (s 8))),(2,_),(1,_)]) (M' := [ed (ok3 r (s 2)),bn (s 2).2.1 (s 2).2.2 r c (s 2).1,aZ c (s 2).1 M,ed (ok3 r (s 5)),bn (s 5).2.1 (s 5).2.2 r r (s 5).1,aZ r (s 5).1 U,ed (ok3 r (s 8)),bn (s 8).2.1 (s 8).2.2 r r (s 8).1,aZ r (s 8).1 V,_,_]) Aj (SubM.refl _) ?_
 generalize s 2=sM
 generalize s 5=sU
 generalize s 8=sV
 refine aL 9 Z Z Z Z (An Z (Ap (ab (aH ?_))))
 refine kM (i:=0) (F:=ok3 r sM) Z (fun g h hp=>hp) (fun hM => ?_)
 refine kM (i:=3) (F:=ok3 r sU) Z (fun g h hp=>hp) (fun hU => ?_)
 refine kM (i:=6) (F:=ok3 r sV) Z (fun g h hp=>hp) (fun hV => ?_)
 have hE:=(vO.box (b:=b2) (T:=43) (m:=9) (vB (Ms := [bn sM.2.1 sM.2.2 r c sM.1,aZ c sM.1 M,bn sU.2.1 sU.2.2 r r sU.1,aZ r sU.1 U,bn sV.2.1 sV.2.2 r r sV.1,aZ r sV.1 V]) (cn hM.1 (a8 0 Z) (a8 1 Z)) (cn hU.1 (a8 2 Z) (a8 3 Z)) (cn hV.1 (a8 4 Z) (a8 5 Z))))
 refine fJ [bn sM.2.1 sM.2.2 r c sM.1,aZ c sM.1 M,bn sU.2.1 sU.2.2 r r sU.1,aZ r sU.1 U,bn sV.2.1 sV.2.2 r r sV.1,aZ r sV.1 V] (iR 11 [1,2,4,5,7,8,0,3,6,9,10] H Z Z) (.keep (vO.refl _) (.keep (vO.refl _) (.keep (vO.refl _) (.keep hE (EntM.refl _))))) (qR.refl _) ?_
 refine gI Tryz.results20 (.cellW 3 Z Z W) (.tmp Z W)
end Tor
end
section
namespace Tor
open Go Go.RowKit Go.Proofs
def jq (c:Nat) (l:List Int):Nat→Nat→Int:=fun i j=>l.getD (i*c+j) 0
def IN (r c:Nat) (l:List Int):VT:=be r c (jq c l)
theorem vC {l:List Int} (h:(l.all fun x=>decide (-9223372036854775808≤x) && decide (x≤9223372036854775807))=true) : ∀ x∈l, -9223372036854775808≤x∧x≤9223372036854775807:=fun x hx=>by
 have:=List.all_eq_true.1 h x hx
 simpa using this
theorem fc (r c r' c':Nat) (F G:Nat→Nat→Int) (hr:r≤1048576):Ok Tryz.prog 22 [be r c F,be r' c' G] (one (.bool (decide ((r:Int)=r'∧(c:Int)=c'∧tab r c F=tab r' c' G)))) :=
 (pX r c r' c' (tab r c F) (tab r' c' G) (by simp;omega)).le ⟨mH _ _ _,mH _ _ _,Aq⟩ W
theorem jK (r c:Nat) (F:Nat→Nat→Int) (hr:r≤1048576):Ok Tryz.prog 22 [be r c F,be r c F] (one (.bool true)):=by
 have h:=fc r c r c F F hr
 simpa using h
theorem l8 (r c:Nat) (l:List Int) (hr:r≤1048576) (hc:c≤1048576) (h:(l.all fun x=>decide (-9223372036854775808≤x) && decide (x≤9223372036854775807))=true):Ok Tryz.prog 26 [one (.int .i64 r),one (.int .i64 c),iL .i64 l] (IN r c l):=uM r c l hr hc (vC h)
end Tor
end
section
namespace Tor
open Go Go.RowKit Go.Proofs
theorem xL {r c:Nat} {s:SS} (hr:s.row≤r) (hc:s.col≤c):cz r c s=decide (r≤s.row∨c≤s.col):=decide_eq_decide.2 S
attribute [local irreducible] J PJ aU one slT cC bJ ci exT cH eP aY bf slV VT.le Ret bW
attribute [local irreducible] ce bq
theorem gf (r c:Nat) (φ m u v:VT) (row col:Int) (d:VT):Ok Tryz.prog 33 [fW (gF r c φ) m u v row col d] (one (.bool (decide ((r:Int)≤row∨(c:Int)≤col)))):=by
 refine Ok.enter Tryz.func33 Z Tryz.ntmps33 Z (fun w O => ?_)
 by_cases h:(r:Int)≤row
 ·rw [decide_eq_true (Or.inl h)]
  refine ah (aj ?_)
  refine aR Z Z (ltN Z) (fun b1 => ?_)
  refine An Z (Ap (ab (ah (aj (Al (aa Z) (Al (ak 0 Z Z Z) (Al (aa Z) (Al (aa Z) (Al (au 0 0 0 Z Z Z Z Z) ?_)))))))))
  refine Al (sT (by assumption) (eV Z Z)) (Am Z (sn0 Z Z Z Z Z (sn0 Z Z Z Z Z (sn0 Z Z Z Z Z (sn0 Z Z Z Z Z (sn0 Z Z Z Z Z (sn0 Z Z Z Z Z (Al (aA Z Z) (An Z ?_)))))))))
  refine Ap (ab (aH ?_))
  refine aJ Tryz.results33 (.tmp Z W)
 ·by_cases h2:(c:Int)≤col
  ·rw [decide_eq_true (Or.inr h2)]
   refine ah (aj ?_)
   refine aR Z Z (ltN Z) (fun b1 => ?_)
   refine An Z (Ap (ab (ah (aj (Al (aa Z) (Al (ak 0 Z Z Z) (Al (aa Z) (Al (aa Z) (Al (au 0 0 0 Z Z Z Z Z) ?_)))))))))
   refine Al (sF (by assumption) (eV Z Z)) (Am Z (Ao (aa Z) (Ao (ak 0 Z Z Z) (Ao (aa Z) (Ao (aa Z) (Ao (au 0 0 1 Z Z Z Z Z) (Ao (sT (by assumption) (eV Z Z)) (Al (aw Z Z) (An Z ?_)))))))))
   refine Ap (ab (aH ?_))
   refine aJ Tryz.results33 (.tmp Z W)
  ·rw [decide_eq_false (fun e=>e.elim h h2)]
   refine ah (aj ?_)
   refine aR Z Z (ltN Z) (fun b1 => ?_)
   refine An Z (Ap (ab (ah (aj (Al (aa Z) (Al (ak 0 Z Z Z) (Al (aa Z) (Al (aa Z) (Al (au 0 0 0 Z Z Z Z Z) ?_)))))))))
   refine Al (sF (by assumption) (eV Z Z)) (Am Z (Ao (aa Z) (Ao (ak 0 Z Z Z) (Ao (aa Z) (Ao (aa Z) (Ao (au 0 0 1 Z Z Z Z Z) (Ao (sF (by assumption) (eV Z Z)) (Al (aw Z Z) (An Z ?_)))))))))
   refine Ap (ab (aH ?_))
   refine aJ Tryz.results33 (.tmp Z W)
theorem vD (r c:Nat) (φ m u v:VT) (s:SS) (d:VT) (hr:s.row≤r) (hc:s.col≤c):Ok Tryz.prog 33 [fW (gF r c φ) m u v s.row s.col d] (one (.bool (cz r c s))):=by
 have h:=gf r c φ m u v s.row s.col d
 rw [xL hr hc,show decide (r≤s.row∨c≤s.col)=decide ((r:Int)≤s.row∨(c:Int)≤s.col) from decide_eq_decide.2 S]
 exact h
theorem jL (r c:Nat) (A:Nat→Nat→Int) (s:SS) (d:Bool) (hr:r≤1048576):Ok Tryz.prog 11 [stT r c A s (one (.bool d)),stT r c A s (one (.bool d))] (one (.bool true)):=by
 have h1:=jK r c A hr
 have h2:=jK r c s.M hr
 have h3:=jK r r s.U hr
 have h4:=jK r r s.V hr
 have hd:(d == d)=true:=beq_self_eq_true d
 refine Ok.enter Tryz.func11 Z Tryz.ntmps11 Z (fun w O => ?_)
 refine ah (aj ?_)
 refine aR Z Z (ltN Z) (fun b2 => ?_)
 refine aR Z Z (ltN Z) (fun b3 => ?_)
 refine An Z (Ap (ab (ah (aj (Al (aa Z) (Al (ak 1 Z Z Z) (Al (aa Z) (Al (ak 0 Z Z Z) ?_))))))))
 refine Al (am (h1) Z ⟨W,W,Aq⟩) ?_
 refine Am Z (Ao (aa Z) (Ao (ak 1 Z Z Z) (Ao (aa Z) (Ao (ak 0 Z Z Z) ?_))))
 refine Ao (am (h2) Z ⟨W,W,Aq⟩) ?_
 refine Al (aA Z Z) (Am Z (Ao (aa Z) (Ao (ak 1 Z Z Z) (Ao (aa Z) (Ao (ak 0 Z Z Z) ?_)))))
 refine Ao (am (h3) Z ⟨W,W,Aq⟩) ?_
 refine Al (aA Z Z) (Am Z (Ao (aa Z) (Ao (ak 1 Z Z Z) (Ao (aa Z) (Ao (ak 0 Z Z Z) ?_)))))
 refine Ao (am (h4) Z ⟨W,W,Aq⟩) ?_
 refine Al (aA Z Z) (Am Z (Ao (aa Z) (Ao (ak 1 Z Z Z) (Ao (aa Z) (Ao (ak 0 Z Z Z) (Ao (sT S (bI Z Z)) (Al (aA Z Z) (Am Z (Ao (aa Z) ?_)))))))))
 refine Ao (ak 1 Z Z Z) (Ao (aa Z) (Ao (ak 0 Z Z Z) (Ao (sT S (bI Z Z)) (Al (aA Z Z) (Am Z (Ao (aa Z) (Ao (ak 1 Z Z Z) (Ao (aa Z) (Ao (ak 0 Z Z Z) ?_)))))))))
 refine Ao (sBt (by assumption) (ff Z Z)) (Al (aA Z Z) (An Z (Ap (ab (aH ?_)))))
 refine aJ Tryz.results11 (.tmp Z W)
theorem iV (r c:Nat) (F:Nat→Nat→Int) (hr:r≤1048576) (hc:c≤1048576):Ok Tryz.prog 12 [be r c F] (stT r c F (bA F) (one (.bool (cz r c (bA F))))):=by
 have hid:=iK r hr
 rw [show (fun i j=>if i=j then (1:Int) else 0)=idF from rfl] at hid
 have hf:=vD r c (slT .one r fun i=>cM c (F i)) (be r c F) (be r r idF) (be r r idF) (bA F) (one (.bool false)) (Nat.zero_le _) (Nat.zero_le _)
 refine Ok.enter Tryz.func12 Z Tryz.ntmps12 Z (fun w O => ?_)
 refine ah (aj ?_)
 refine aR Z Z (ltN Z) (fun b1 => ?_)
 refine aW (T:=32) Z Z Z (fun b2 => ?_)
 refine Ap (ab (ah ?_))
 refine cT aK X X ?_
 refine ux (fun B=>aC 1 Z Z) Z Z ?_
 refine ux (fun B=>aC 1 Z Z) Z Z ?_
 refine ux (fun B=>aa Z) Z Z ?_
 refine ux (fun B=>ak 1 Z Z Z) Z Z ?_
 refine uxk (hid) Z ⟨W,Aq⟩ Z ?_
 refine ux (fun B=>aa Z) Z Z ?_
 refine ux (fun B=>ak 1 Z Z Z) Z Z ?_
 refine uxk (hid) Z ⟨W,Aq⟩ Z ?_
 refine uB Z Z Z (BuildK.cons Z Z Z (BuildK.cons Z Z Z (BuildK.cons Z Z Z (BuildK.cons Z Z Z (BuildK.nil (ua Z (us Z ?_)))))))
 refine RunU.nil (fun γ => ?_)
 refine bY (M' := [_,_,_]) Z (oe (fg.refl _) (.keep pP (SubM.refl _)) (ab (ah (aj (Al (aC 0 Z Z) ?_)))))
 refine Al (am (hf) Z ⟨W,Aq⟩) ?_
 refine Al (aa Z) (aF 0 Z Z Z Z Z (leN Z) Z (Ap (ab (ah (aj (Al (aC 0 Z Z) (aL 1 Z Z Z Z (Ap (ab ?_)))))))))
 refine aH ?_
 refine aJ Tryz.results12 (.cellW 1 Z Z W)
theorem wL {x y:Int} : ek x y<0↔x<y:=by
 unfold ek
 by_cases h:x<y
 ·rw [if_pos h]; exact ⟨fun _=>h,fun _=>by decide⟩
 ·rw [if_neg h]
  constructor
  ·intro h2;split at h2 <;> cases h2
  ·intro h2;exact absurd h2 h
theorem tV (r c:Nat) (A u v:VT) (M:Nat→Nat→Int) (row col:Nat) (d:VT) (hr:r≤1048576) (hc:c≤1048576) (hrow:row<r) (hcol:col<c) (hm : ∀ i j,bV (M i j)) :
  Ok Tryz.prog 71 [fW A (be r c M) u v row col d] (one (.int .i64 (da (fun i=>M i col) row (r - row)))):=by
 refine Ok.enter Tryz.func71 Z Tryz.ntmps71 Z (fun w O => ?_)
 refine ah (aj ?_)
 refine aR Z Z (ltN Z) (fun b1 => ?_)
 refine An Z (Ap (ab (ah (aj (An Z (Ap (ab (ah (ah ?_)))))))))
 refine aj (Al (aa Z) (Al (ak 0 Z Z Z) (An Z (Ap (ab (ao (bL (Γ' := [(1,_),(2,_),(3,_),(4,_)]) Ag (SubM.refl _) ?_)))))))
 refine bE (σ:=Nat) (Γk := [(1,_),(2,_)]) Ag (fun j => [(4,one (.int .i64 ((row+j:Nat):Int))),(3,one (.int .i64 (da (fun i=>M i col) row j)))]) (fun j M0=>M0) (fun j=>j≤r - row) (fun j=>r - row - j) (0) (Nat.zero_le _) Ah (.keep Ak (.nil)) (fun j hj => ?_)
 refine bN (Γ' := [(4,_),(3,_),(1,_),(2,_)]) (M' := [_]) Z Z ?_
 by_cases hj:j<r - row
 ·have hjr:row+j<r:=by omega
  have hab:=p9 (M (row+j) col) (bv (hm _ _))
  unfold be cM
  have hsm : ∀ i j,cg ((M i j).natAbs:Int):=fun i j=>bv (hm i j)
  by_cases hx:M (row+j) col=0
  ·have hs1:dm ((M (row+j) col).natAbs:Int)=0:=(cJ _).2 S
   have hk:=ir (x:=fun i=>M i col) (r:=row) (j:=j) (fun h=>h.1 hx)
   refine ah (ah (aj (Am Z (Al (aa Z) (Al (aa Z) (Al (au 0 3 0 Z Z Z Z Z) (Al (sT S (aO Z Z)) (Ap (ab ?_)))))))))
   refine aB Z (av (ab (ah (ao (ah ?_)))))
   refine cT aK X X ?_
   refine ux (fun B=>aa Z) Z Z ?_
   refine ux (fun B=>aa Z) Z Z ?_
   refine ux (fun B=>au 0 3 2 Z Z Z Z Z) Z Z ?_
   refine ux (fun B=>ae Z) Z Z ?_
   refine ux (fun B=>ax Z Z S) Z Z ?_
   refine ux (fun B=>aG Z) Z Z ?_
   refine ux (fun B=>aa Z) Z Z ?_
   refine ux (fun B=>ak 0 Z Z Z) Z Z ?_
   refine ux (fun B=>ax Z Z S) Z Z ?_
   refine ux (fun B=>aG Z) Z Z ?_
   refine uxk (hab) Z ⟨W,Aq⟩ Z ?_
   refine ua Z (us Z ?_)
   refine RunU.nil (fun γ => ?_)
   refine bY (M' := [_,_]) Z (ab (ah (aN 23 aK X Y (Al (ak 0 Z Z Z) ?_))))
   refine Al (am (cd _) Z ⟨W,Aq⟩) ?_
   refine Al (sF S (dq Z Z)) (Am Z (sn0 Z Z Z Z Z (sn0 Z Z Z Z Z (sn0 Z Z Z Z Z (snU Z Z Z Z (snU Z Z Z Z (snU Z Z Z Z (snU Z Z Z Z (snU Z Z Z Z ?_)))))))))
   refine snU Z Z Z Z (snU Z Z Z Z (snU Z Z Z Z (snU Z Z Z Z (snU Z Z Z Z (snU Z Z Z Z (snU Z Z Z Z (snU Z Z Z Z (snU Z Z Z Z (sn0 Z Z Z Z Z ?_)))))))))
   refine Al (aw Z Z) (Ap (Ap (ab (ay Z (av (aD (ab (aj (Am Z ?_)))))))))
   refine Al (bj _ 1 Z Z S) (An Z (Ap ?_))
   refine aM (j+1) (hj) S Ah (.drop (.keep Ak (.nil)))
  ·have hs1 : ¬ dm ((M (row+j) col).natAbs:Int)=0:=fun e=>hx (by have:=(cJ _).1 e;omega)
   by_cases hL:da (fun i=>M i col) row j<0
   ·have hk:=iq (x:=fun i=>M i col) (r:=row) (j:=j) ⟨hx, .inl hL⟩
    refine ah (ah (aj (Am Z (Al (aa Z) (Al (aa Z) (Al (au 0 3 0 Z Z Z Z Z) (Al (sT S (aO Z Z)) (Ap (ab ?_)))))))))
    refine aB Z (av (ab (ah (ao (ah ?_)))))
    refine cT aK X X ?_
    refine ux (fun B=>aa Z) Z Z ?_
    refine ux (fun B=>aa Z) Z Z ?_
    refine ux (fun B=>au 0 3 2 Z Z Z Z Z) Z Z ?_
    refine ux (fun B=>ae Z) Z Z ?_
    refine ux (fun B=>ax Z Z S) Z Z ?_
    refine ux (fun B=>aG Z) Z Z ?_
    refine ux (fun B=>aa Z) Z Z ?_
    refine ux (fun B=>ak 0 Z Z Z) Z Z ?_
    refine ux (fun B=>ax Z Z S) Z Z ?_
    refine ux (fun B=>aG Z) Z Z ?_
    refine uxk (hab) Z ⟨W,Aq⟩ Z ?_
    refine ua Z (us Z ?_)
    refine RunU.nil (fun γ => ?_)
    refine bY (M' := [_,_]) Z (ab (ah (aN 23 aK X Y (Al (ak 0 Z Z Z) ?_))))
    refine Al (am (cd _) Z ⟨W,Aq⟩) ?_
    refine Al (sT (by assumption) (dq Z Z)) (Am Z (Ao (ae Z) (Ao (sT (by assumption) (aO Z Z)) (Ao (ae Z) (sn0 Z Z Z Z Z (sn0 Z Z Z Z Z (sn0 Z Z Z Z Z (sn0 Z Z Z Z Z (sn0 Z Z Z Z Z ?_)))))))))
    refine sn0 Z Z Z Z Z (sn0 Z Z Z Z Z (sn0 Z Z Z Z Z (sn0 Z Z Z Z Z (sn0 Z Z Z Z Z (sn0 Z Z Z Z Z (sn0 Z Z Z Z Z (sn0 Z Z Z Z Z (sn0 Z Z Z Z Z (Ao (aA Z Z) ?_)))))))))
    refine Al (aA Z Z) (Ap (Ap (ab (aB Z (aj (Am Z (An Z (Ap (aD ?_)))))))))
    refine ab (aj (Am Z (Al (bj _ 1 Z Z S) (An Z (Ap ?_)))))
    refine aM (j+1) (hj) S Ah (.drop (.keep Ak (.nil)))
   ·obtain ⟨q,hq,hqr⟩ : ∃ q:Nat,da (fun i=>M i col) row j=(q:Int)∧q<r:=by
     rcases dz (fun i=>M i col) row j with ⟨e,_⟩ | ⟨k,e,_,hk,_⟩
     ·exact absurd (by rw [e]; decide) hL
     ·exact ⟨k,e,by omega⟩
    have hab2:=p9 (M q col) (bv (hm _ _))
    rw [hq]
    by_cases hl:(M (row+j) col).natAbs<(M q col).natAbs
    ·have hk:=iq (x:=fun i=>M i col) (r:=row) (j:=j) ⟨hx, .inr (by rw [hq]; exact hl)⟩
     have hcm:ek ((M (row+j) col).natAbs:Int) ((M q col).natAbs:Int)<0:=wL.2 S
     refine ah (ah (aj (Am Z (Al (aa Z) (Al (aa Z) (Al (au 0 3 0 Z Z Z Z Z) (Al (sT S (aO Z Z)) (Ap (ab ?_)))))))))
     refine aB Z (av (ab (ah (ao (ah ?_)))))
     refine cT aK X X ?_
     refine ux (fun B=>aa Z) Z Z ?_
     refine ux (fun B=>aa Z) Z Z ?_
     refine ux (fun B=>au 0 3 2 Z Z Z Z Z) Z Z ?_
     refine ux (fun B=>ae Z) Z Z ?_
     refine ux (fun B=>ax Z Z S) Z Z ?_
     refine ux (fun B=>aG Z) Z Z ?_
     refine ux (fun B=>aa Z) Z Z ?_
     refine ux (fun B=>ak 0 Z Z Z) Z Z ?_
     refine ux (fun B=>ax Z Z S) Z Z ?_
     refine ux (fun B=>aG Z) Z Z ?_
     refine uxk (hab) Z ⟨W,Aq⟩ Z ?_
     refine ua Z (us Z ?_)
     refine RunU.nil (fun γ => ?_)
     refine bY (M' := [_,_]) Z (ab (ah (aN 23 aK X Y (Al (ak 0 Z Z Z) ?_))))
     refine Al (am (cd _) Z ⟨W,Aq⟩) ?_
     refine Al (sT (by assumption) (dq Z Z)) (Am Z (Ao (ae Z) (Ao (sF S (aO Z Z)) (Ao (ae Z) (Ao (ak 0 Z Z Z) (Ao (aa Z) (Ao (aa Z) (Ao (au 1 3 2 Z Z Z Z Z) (Ao (ae Z) ?_)))))))))
     refine Ao (ax Z Z S) (Ao (aG Z) (Ao (aa Z) (Ao (ak 1 Z Z Z) (Ao (ax Z Z S) (Ao (aG Z) ?_)))))
     refine Ao (am (hab2) Z ⟨W,Aq⟩) ?_
     refine Ao (am (ij _ _ (hsm _ _) (hsm _ _)) Z ⟨W,W,Aq⟩) ?_
     refine Ao (sT (by assumption) (aO Z Z)) (Ao (aw Z Z) (Al (aA Z Z) (Ap (Ap (ab (aB Z (aj (Am Z (An Z ?_)))))))))
     refine Ap (aD (ab (aj (Am Z (Al (bj _ 1 Z Z S) (An Z (Ap ?_)))))))
     refine aM (j+1) (hj) S Ah (.drop (.keep Ak (.nil)))
    ·have hk:=ir (x:=fun i=>M i col) (r:=row) (j:=j) (fun h=>h.2.elim hL (fun h2=>hl (by rw [hq] at h2;exact h2)))
     rw [hq] at hk
     have hcm : ¬ ek ((M (row+j) col).natAbs:Int) ((M q col).natAbs:Int)<0:=fun h=>hl (by have:=wL.1 h;omega)
     refine ah (ah (aj (Am Z (Al (aa Z) (Al (aa Z) (Al (au 0 3 0 Z Z Z Z Z) (Al (sT S (aO Z Z)) (Ap (ab ?_)))))))))
     refine aB Z (av (ab (ah (ao (ah ?_)))))
     refine cT aK X X ?_
     refine ux (fun B=>aa Z) Z Z ?_
     refine ux (fun B=>aa Z) Z Z ?_
     refine ux (fun B=>au 0 3 2 Z Z Z Z Z) Z Z ?_
     refine ux (fun B=>ae Z) Z Z ?_
     refine ux (fun B=>ax Z Z S) Z Z ?_
     refine ux (fun B=>aG Z) Z Z ?_
     refine ux (fun B=>aa Z) Z Z ?_
     refine ux (fun B=>ak 0 Z Z Z) Z Z ?_
     refine ux (fun B=>ax Z Z S) Z Z ?_
     refine ux (fun B=>aG Z) Z Z ?_
     refine uxk (hab) Z ⟨W,Aq⟩ Z ?_
     refine ua Z (us Z ?_)
     refine RunU.nil (fun γ => ?_)
     refine bY (M' := [_,_]) Z (ab (ah (aN 23 aK X Y (Al (ak 0 Z Z Z) ?_))))
     refine Al (am (cd _) Z ⟨W,Aq⟩) ?_
     refine Al (sT (by assumption) (dq Z Z)) (Am Z (Ao (ae Z) (Ao (sF S (aO Z Z)) (Ao (ae Z) (Ao (ak 0 Z Z Z) (Ao (aa Z) (Ao (aa Z) (Ao (au 1 3 2 Z Z Z Z Z) (Ao (ae Z) ?_)))))))))
     refine Ao (ax Z Z S) (Ao (aG Z) (Ao (aa Z) (Ao (ak 1 Z Z Z) (Ao (ax Z Z S) (Ao (aG Z) ?_)))))
     refine Ao (am (hab2) Z ⟨W,Aq⟩) ?_
     refine Ao (am (ij _ _ (hsm _ _) (hsm _ _)) Z ⟨W,W,Aq⟩) ?_
     refine Ao (sF (by assumption) (aO Z Z)) (Ao (aw Z Z) (Al (aA Z Z) (Ap (Ap (ab (ay Z (av (aD (ab ?_)))))))))
     refine aj (Am Z (Al (bj _ 1 Z Z S) (An Z (Ap ?_))))
     refine aM (j+1) (hj) S Ah (.drop (.keep Ak (.nil)))
 ·have hje:j=r - row:=by omega
  subst hje
  refine ah (ah (aj (Am Z (Al (aa Z) (Al (aa Z) (Al (au 0 3 0 Z Z Z Z Z) (Al (sF S (aO Z Z)) (Ap (ab ?_)))))))))
  refine ay Z (a4 (az (az (aI (ab (ah (aj (Am Z (An Z ?_)))))))))
  refine Ap (ab (aH ?_))
  refine aJ Tryz.results71 (.tmp Z W)
end Tor
end
section
namespace Tor
open Go Go.RowKit Go.Proofs
theorem wM (a b:Nat):VT.le (slT .one 2 (fun q => [one (.int .u32 (b:Int)),one (.int .u32 (a:Int))].reverse.getD q bW)) (slT .one 2 (fun q=>one (.int .u32 (([a,b].getD q 0:Nat):Int)))) :=
 cR Z (fun q hq=>by
  match q,hq with
  | 0, _ => rfl
  | 1, _ => rfl)
theorem xM {k q:Nat} (hq:q<18446744073709551616) (hk:k≤1099511627776):VT.le (slT .one (k+2) (fun p=>if p<k then one (.int .u32 0) else (fun j=>one (.int .u32 (([q % 4294967296,q / 4294967296 % 4294967296].getD j 0:Nat):Int))) (p - k))) (nq (q*4294967296^k)) :=
 VT.le_trans (cR (m:=(List.replicate k 0 ++ [q % 4294967296,q / 4294967296 % 4294967296]).length) (ψ:=fV (List.replicate k 0 ++ [q % 4294967296,q / 4294967296 % 4294967296])) (by simp) (fun p hp=>by
  unfold fV
  by_cases h:p<k
  ·rw [if_pos h]; simp [List.getD,List.getElem?_append,h]
  ·rw [if_neg h]; simp only [List.getD,List.getElem?_append,List.length_replicate,if_neg h])) (gO (fun d hd=>by
   rcases List.mem_append.1 hd with h | h
   ·rw [(List.mem_replicate.1 h).2]; decide
   ·rcases List.mem_cons.1 h with rfl | h
    ·exact Nat.mod_lt _ Y
    ·rw [List.mem_singleton.1 h]; exact Nat.mod_lt _ Y) (by
   rw [fC,el,List.length_replicate,Nat.zero_add,Nat.mul_comm]
   congr 1
   simp only [lv]
   omega) (by simp;omega))
attribute [local irreducible] J PJ aU one slT cC bJ ci exT cH eP aY bf slV VT.le Ret bW
theorem qD (r d:Nat) (hd:d≠0) (h:d≤r) (hl:(aP r).length≤1099511627776):Ok Tryz.prog 113 [ct (aP r),ct (aP d)] (bq ((tF r d:Nat):Int)):=by
 have hlen:=cx h
 have hdl:(aP d).length≠0:=fun k=>hd (io k)
 have hx:=bt (bp d) ((aP d).length - 1)
 have hy:=bt (bp r) ((aP r).length - 1)
 have hz:=bt (bp r) ((aP r).length - 2)
 unfold tF
 refine Ok.enter Tryz.func113 Z Tryz.ntmps113 Z (fun w O => ?_)
 by_cases hk:(aP r).length=(aP d).length
 ·rw [if_pos hk]
  refine ah (aj ?_)
  refine a5 (T:=55) Z (ltN Z) (fun b4 => ?_)
  refine Ap (ab (ah (aN 17 aK X Y (Am Z (Al (bk Z) (Am Z (Al (bk Z) (Al (dH _ _ Z Z S S) (Am Z ?_)))))))))
  refine Al (bk Z) (Am Z (Am Z (Al (bk Z) (Al (dH _ 1 Z Z S S) (Al (ax Z Z S) (Al (aG Z) (Al (bR Z S) (Al (ei (b:=1) Z Z S) (An Z ?_)))))))))
  refine An Z (Ap (An Z (Ap (ab (ah (ah (aj (Am Z (Al (sT S (bI Z Z)) ?_)))))))))
  refine Ap (ab (aB Z (ah (aj (Am Z (Am Z (Al (dH _ 1 Z Z S S) (Al (ax Z Z S) (Al (aG Z) ?_)))))))))
  refine Al (bR Z S) (Am Z (Al (jU Z Z S S) (Al (nD Z Z) ?_)))
  have hq:=Nat.div_le_self ((aP r).getD ((aP r).length - 1) 0) ((aP d).getD ((aP d).length - 1) 0+1)
  generalize (aP r).getD ((aP r).length - 1) 0 / ((aP d).getD ((aP d).length - 1) 0+1)=q at *
  refine Al (cY Z S S) ?_
  refine Al (am (gY _ S S) Z ⟨W,Aq⟩) ?_
  refine aF 0 Z Z Z Z Z (leN Z) Z (Ap (ab (aH (aE ?_))))
  refine aJ Tryz.results113 (.cellB 0 Z Z Z (cf S))
 ·rw [if_neg hk]
  refine ah (aj ?_)
  refine a5 (T:=55) Z (ltN Z) (fun b4 => ?_)
  refine Ap (ab (ah (aN 17 aK X Y (Am Z (Al (bk Z) (Am Z (Al (bk Z) (Al (dH _ _ Z Z S S) (Am Z ?_)))))))))
  refine Al (bk Z) (Am Z (Am Z (Al (bk Z) (Al (dH _ 1 Z Z S S) (Al (ax Z Z S) (Al (aG Z) (Al (bR Z S) (Al (ei (b:=1) Z Z S) (An Z ?_)))))))))
  refine An Z (Ap (An Z (Ap (ab (ah (ah (aj (Am Z (Al (sF S (bI Z Z)) ?_)))))))))
  refine Ap (ab (ay Z (av (ab (ah (aN 16 aK X Y (Am Z (Am Z (Al (dH _ 1 Z Z S S) ?_)))))))))
  refine Al (ax Z Z S) (Al (aG Z) (Al (bR Z S) (Al (gW (b:=4294967296) Z Z S) (Am Z (Am Z (Al (dH _ 2 Z Z S S) (Al (ax Z Z S) (Al (aG Z) (Al (bR Z S) ?_)))))))))
  refine Al (ei Z Z S) (Am Z (Al (jU Z Z S S) (Ap (An Z (Ap (ab (ah (aj (Am Z ?_)))))))))
  refine Al (dH _ 1 Z Z S S) ?_
  have hq:=Nat.div_le_self ((aP r).getD ((aP r).length - 1) 0*4294967296+(aP r).getD ((aP r).length - 2) 0) ((aP d).getD ((aP d).length - 1) 0+1)
  generalize ((aP r).getD ((aP r).length - 1) 0*4294967296+(aP r).getD ((aP r).length - 2) 0) / ((aP d).getD ((aP d).length - 1) 0+1)=q at *
  obtain ⟨k,hkk⟩ : ∃ k,k=(aP r).length - (aP d).length - 1:=⟨_,rfl⟩
  rw [← hkk]
  refine cO k k Z Z Z Z (Nat.le_refl _) Z Z S Z Z (fun bz => ?_)
  refine An Z (Ap (ab (ah (aj (Am Z (Am Z (Al (cS Z) (Am Z (Al (f9 Z) ?_)))))))))
  refine Al (cS Z) (stS Z Z Z Z (PartsK.cons Z (PartsK.cons Z (PartsK.nil (de (t:=63) Z (wM _ _) ?_)))))
  (refine fk 0 Z Z Z (leN Z) ?_ ?_ Z (ltN Z) (fun sv64 cap64 => ?_);omega;omega)
  refine iy (t:=64) (j:=0) Z Z ?_
  have hq64:q<18446744073709551616:=by omega
  have hmd:=dx false (q*4294967296^k)
  rw [if_neg Y] at hmd
  refine Al (am (hmd) Z ⟨(xM hq64 S),W,Aq⟩) ?_
  refine aF 0 Z Z Z Z Z (leN Z) Z (Ap (ab (aH ?_)))
  refine aJ Tryz.results113 (.cellB 0 Z Z Z (cf (by rw [hkk])))
theorem qE {d:Nat} (hd:d<4294967296):VT.le (slT .one 1 fun _=>one (.int .u32 (d:Int))) (nq d) :=
 VT.le_trans (cR (m := [d].length) (ψ:=fV [d]) Z (fun q hq=>by
  have hq:q=0:=by omega
  subst hq;rfl)) (gO (fun x hx=>by rw [List.mem_singleton.1 hx]; exact hd) (by simp [lv]) (by simp))
theorem vE {b:Nat} (hb:b≠0):0<(aP b).getD ((aP b).length - 1) 0:=by
 have hdl:(aP b).length≠0:=fun k=>hb (io k)
 obtain ⟨m,hm⟩ : ∃ m,(aP b).length=m+1:=⟨(aP b).length - 1,by omega⟩
 obtain ⟨d1,d2⟩:=jC hm
 rw [hm,Nat.add_sub_cancel]
 rcases Nat.eq_zero_or_pos ((aP b).getD m 0) with h | h
 ·rw [h,Nat.mul_zero,Nat.add_zero] at d1
  have:=dj (n:=b) (k:=m) (by rw [d1]; exact d2)
  omega
 ·exact h
theorem nf {a s:Nat} (hs:s<4294967296):(aP (a*s)).length≤(aP a).length+1:=dj (by
 rw [Nat.pow_succ]
 have h1:=dJ a
 rcases Nat.eq_zero_or_pos s with h | h
 ·subst h;rw [Nat.mul_zero]; exact Nat.mul_pos (Nat.pow_pos Y) Y
 ·exact Nat.mul_lt_mul'' h1 hs)
theorem xN {a b s q r:Nat} (hs:0<s) (hb:0<b) (h:q*(b*s)+r=a*s) (hr:r<b*s):q=a / b∧r / s=a % b:=by
 have h1:(a*s) / (b*s)=q:=by rw [← h,Nat.mul_comm q,Nat.mul_add_div S,Nat.div_eq_of_lt hr,Nat.add_zero]
 have h2:(a*s) % (b*s)=r:=by rw [← h,Nat.mul_comm q,Nat.mul_add_mod,Nat.mod_eq_of_lt hr]
 rw [Nat.mul_div_mul_right _ _ hs] at h1
 rw [Nat.mul_mod_mul_right] at h2
 exact ⟨h1.symm,by rw [← h2,Nat.mul_div_cancel _ hs]⟩
theorem rz (a b:Nat) (hb:b≠0) (ha:(aP a).length≤1099511627700) (hbl:(aP b).length≤1099511627700):Ok Tryz.prog 93 [ct (aP a),ct (aP b)] (ci [bq ((a / b:Nat):Int),bq ((a % b:Nat):Int)]):=by
 have hbp:0<b:=by omega
 have hdl:(aP b).length≠0:=fun k=>hb (io k)
 refine Ok.enter Tryz.func93 Z Tryz.ntmps93 Z (fun w O => ?_)
 by_cases h1:(aP b).length=1
 ·have hb1:=qh h1
  have hd:=bt (bp b) 0
  have hsh:=nZ (aP a) b (bp a) S S S
  rw [bZ] at hsh
  have hr:=Nat.mod_lt a hbp
  have hm1:=dx false (a / b)
  have hm2:=dx false (a % b)
  rw [if_neg Y] at hm1 hm2
  refine ah (aj ?_)
  refine a5 (T:=55) Z (ltN Z) (fun b4 => ?_)
  refine a5 (T:=55) Z (ltN Z) (fun b5 => ?_)
  refine Ap (ab (ah (ah (aj (Am Z (Al (bk Z) (Al (sT S (bI Z Z)) (Ap (ab ?_)))))))))
  refine aB Z (ah (aj (Am Z (Am Z (Al (ep Z Z S S) (Al (aG Z) ?_))))))
  refine Al (am (hsh) Z ⟨W,(ar (by rw [show (aP b).getD (Int.toNat 0) 0=b from hb1])),Aq⟩) ?_
  refine Am Z (Al (a6 Z Z) (Al (a6 Z Z) (An Z (An Z (Ap (ab (ah (aj (Am Z ?_)))))))))
  refine Al (am (hm1) Z ⟨W,W,Aq⟩) ?_
  refine Am Z (ol Z Z Z Z ?_)
  refine Al (am (hm2) Z ⟨(qE S),W,Aq⟩) ?_
  refine aF 1 Z Z Z Z Z (leN Z) Z (aF 0 Z Z Z Z Z (leN Z) Z (Ap (ab (aH (aE ?_)))))
  refine gI Tryz.results93 (.cellB 1 Z Z Z W) (.cellB 0 Z Z Z W)
 ·have hx:=bt (bp b) ((aP b).length - 1)
  have hx0:=vE hb
  refine ah (aj ?_)
  refine a5 (T:=55) Z (ltN Z) (fun b4 => ?_)
  refine a5 (T:=55) Z (ltN Z) (fun b5 => ?_)
  refine Ap (ab (ah (ah (aj (Am Z (Al (bk Z) (Al (sF S (bI Z Z)) (Ap (ab ?_)))))))))
  refine ay Z (av (ab (ah (aj (An Z (Ap (ab (ah (ao ?_)))))))))
  refine bL (Γ' := [(0,_),(1,_),(4,_),(5,_),(8,_)]) Ag (SubM.refl _) ?_
  refine bE (σ:=Nat) (Γk := [(0,_),(1,_),(4,_),(5,_)]) Ag (fun s => [(8,one (.int .u32 (s:Nat)))]) (fun s M0=>M0) (fun s=>0<s∧s<4294967296) (fun s=>4294967296 - s) (1) (⟨by decide,by decide⟩) Ah (.keep Ak (.keep Ak (.nil))) (fun s hs => ?_)
  refine bN (Γ' := [(8,_),(0,_),(1,_),(4,_),(5,_)]) (M' := [_,_]) Z Z ?_
  obtain ⟨s0,s1⟩:=hs
  have hb1:=Nat.mul_le_mul (show (aP b).getD ((aP b).length - 1) 0≤4294967295 by omega) (show s≤4294967295 by omega)
  have hb2:=Nat.mul_le_mul_right s hx0
  by_cases hc:(aP b).getD ((aP b).length - 1) 0*s<2147483648
  ·refine ah (ah (aj (Am Z (Am Z (Al (bk Z) (Al (dH _ 1 Z Z S S) (Al (ax Z Z S) (Al (aG Z) (Al (bR Z S) ?_)))))))))
   refine Am Z (Al (bR Z S) (Al (gW Z Z S) (Al (sT S (aO Z Z)) (Ap (ab (aB Z (av (ab (ao ?_)))))))))
   refine aj (Am Z (Al (xH (a:=2) Z Z S) (An Z (Ap (aD ?_)))))
   refine aM (2*s) (⟨by omega,by omega⟩) S Ah (.keep Ak (.keep Ak (.nil)))
  ·have hma:=dx false a
   have hmb:=dx false b
   have hms:=dx false s
   rw [if_neg Y] at hma hmb hms
   have la:=nf (a:=a) s1
   have lb:=nf (a:=b) s1
   have ls:cg ((s:Nat):Int):=kJ (by rw [Int.natAbs_natCast]; exact Nat.lt_trans s1 H)
   have hMa:=fQ (a:Int) (s:Int) (show (aP a).length≤_ by omega) ls
   have hMb:=fQ (b:Int) (s:Int) (show (aP b).length≤_ by omega) ls
   rw [← Int.natCast_mul] at hMa hMb
   refine ah (ah (aj (Am Z (Am Z (Al (bk Z) (Al (dH _ 1 Z Z S S) (Al (ax Z Z S) (Al (aG Z) (Al (bR Z S) ?_)))))))))
   refine Am Z (Al (bR Z S) (Al (gW Z Z S) (Al (sF S (aO Z Z)) (Ap (ab (ay Z (a4 (az (az ?_)))))))))
   refine aI (ab (ah (aj (Am Z (ol Z Z Z Z ?_)))))
   refine Al (am (hms) Z ⟨(qE s1),W,Aq⟩) ?_
   refine a5 (T:=55) Z (ltN Z) (fun b9 => ?_)
   refine aF 0 Z Z Z Z Z (leN Z) Z (Ap (ab (ah ?_)))
   refine cT aK X X ?_
   refine ux (fun B=>ae Z) Z Z ?_
   refine uxk (hma) Z ⟨(c7 S),W,Aq⟩ Z ?_
   refine ux (fun B=>ak 0 Z Z Z) Z Z ?_
   refine uxk (hMa) Z ⟨W,W,Aq⟩ Z ?_
   refine ux (fun B=>ae Z) Z Z ?_
   refine uxk (hmb) Z ⟨(c7 S),W,Aq⟩ Z ?_
   refine ux (fun B=>ak 0 Z Z Z) Z Z ?_
   refine uxk (hMb) Z ⟨W,W,Aq⟩ Z ?_
   refine uB Z Z Z (BuildK.nil (ua Z (ua Z (ua Z (us Z (us Z (us Z ?_)))))))
   refine RunU.nil (fun γ => ?_)
   refine bY (M' := [_,_,_,_,_,_]) Z (oe (fg.refl _) (.keep pP (.keep Ak (.keep Ak (SubM.refl _)))) (ab (ah (ao ?_))))
   have hbs:0<b*s:=Nat.mul_pos hbp s0
   refine bL (Γ' := [(4,_),(5,_),(8,_),(10,_),(11,_),(12,_)]) Ag (SubM.refl _) ?_
   refine bE (σ:=Nat × Nat) (Γk := [(4,_),(5,_),(8,_),(10,_),(11,_),(12,_)]) Ag (fun p => []) (fun p M0=>((M0.set 0 (aY (γ 12) 55 (Lay.agg 2).sz [(0,Lay.agg 2,bq (p.1:Int))])).set 2 (aY (γ 10) 55 (Lay.agg 2).sz [(0,Lay.agg 2,bq (p.2:Int))]))) (fun p=>p.1*(b*s)+p.2=a*s) (fun p=>p.2) ((0,a*s)) ((by simp)) Ah (.keep (wy nR) (.keep Ak (.keep Ak (.keep Ak (.keep Ak (.keep Ak (.nil))))))) (fun p hp => ?_)
   refine bN (Γ' := [(4,_),(5,_),(8,_),(10,_),(11,_),(12,_)]) (M' := [_,_,_,_,_,_]) Z Z ?_
   obtain ⟨q,r⟩:=p
   dsimp only at hp ⊢
   have hle:=kD r (b*s)
   by_cases hr:r<b*s
   ·obtain ⟨f1,f2⟩:=xN s0 hbp hp hr
    have lr:(aP r).length≤1099511627776:=by
     have:=cx (show r≤a*s by omega)
     omega
    have hsh:=nZ (aP r) s (bp r) lr s0 s1
    rw [bZ,f2] at hsh
    have hm2:=dx false (a % b)
    rw [if_neg Y] at hm2
    refine ah (ah (aj (Al (aa Z) (Al (au 2 0 1 Z Z Z Z Z) (Al (aa Z) (Al (au 1 0 1 Z Z Z Z Z) ?_))))))
    refine Al (sT (by assumption) (am (hle) Z ⟨W,W,Aq⟩)) ?_
    refine Al (aX Z) (Ap (ab (ay Z (a4 (az (az (aI (ab (ah ?_)))))))))
    refine aj (Al (aa Z) (Al (au 2 0 1 Z Z Z Z Z) (Am Z ?_)))
    refine Al (am (hsh) Z ⟨W,W,Aq⟩) ?_
    refine Am Z (Al (a6 Z Z) (Al (a6 Z Z) (An Z (An Z (Ap (ab (ah (gL 3 aK X Y (Al (ak 0 Z Z Z) ?_)))))))))
    refine Am Z ?_
    refine Al (am (hm2) Z ⟨W,W,Aq⟩) ?_
    refine Ap (aF 5 Z Z Z Z Z (leN Z) Z (aF 4 Z Z Z Z Z (leN Z) Z (Ap (ab (aH ?_)))))
    refine gI Tryz.results93 (.cellB 5 Z Z Z (cf (by rw [f1]))) (.cellB 4 Z Z Z W)
   ·have lr:(aP r).length≤1099511627776:=by
     have:=cx (show r≤a*s by omega)
     omega
    obtain ⟨e0,e1⟩:=u9 (show b*s≠0 by omega) (Nat.le_of_not_lt hr)
    have hes:=qD r (b*s) S (Nat.le_of_not_lt hr) lr
    generalize tF r (b*s)=e at *
    have hq0:q≤q*(b*s):=Nat.le_mul_of_pos_right _ hbs
    have he0:e≤e*(b*s):=Nat.le_mul_of_pos_right _ hbs
    have le0:cg (e:Int):=Nat.le_trans (cx (show (e:Int).natAbs≤r by omega)) lr
    have lq0:cg (q:Int):=Nat.le_trans (cx (show (q:Int).natAbs≤a*s by omega)) S
    have lbs:cg ((b*s:Nat):Int):=Nat.le_trans (cx (show ((b*s:Nat):Int).natAbs≤b*s by omega)) S
    have lrs:cg (r:Int):=Nat.le_trans (cx (show (r:Int).natAbs≤r by omega)) lr
    have les:cg ((e*(b*s):Nat):Int):=Nat.le_trans (cx (show ((e*(b*s):Nat):Int).natAbs≤r by omega)) lr
    have hmu:=fQ (e:Int) ((b*s:Nat):Int) le0 lbs
    rw [← Int.natCast_mul] at hmu
    have hsu:=jp (r:Int) ((e*(b*s):Nat):Int) lrs les
    rw [← Int.ofNat_sub e1] at hsu
    have had:=eL (q:Int) (e:Int) lq0 le0
    rw [← Int.natCast_add] at had
    refine ah (ah (aj (Al (aa Z) (Al (au 2 0 1 Z Z Z Z Z) (Al (aa Z) (Al (au 1 0 1 Z Z Z Z Z) ?_))))))
    refine Al (sF (by assumption) (am (hle) Z ⟨W,W,Aq⟩)) ?_
    refine Al (aX Z) (Ap (ab (aB Z (av (ab (ao (ah (aj (Al (aa Z) ?_)))))))))
    refine Al (au 2 0 1 Z Z Z Z Z) (Al (aa Z) (Al (au 1 0 1 Z Z Z Z Z) ?_))
    refine Al (am (hes) Z ⟨W,W,Aq⟩) ?_
    refine a5 (T:=55) Z (ltN Z) (fun b13 => ?_)
    refine aF 0 Z Z Z Z Z (leN Z) Z (Ap (ab (ah (aj (Al (ak 1 Z Z Z) (Al (ak 0 Z Z Z) ?_))))))
    refine Al (am (had) Z ⟨W,W,Aq⟩) ?_
    refine aF 1 Z Z Z Z Z (leN Z) Z (Ap (ab (aN 5 aK X Y (Al (ak 3 Z Z Z) (Al (ak 0 Z Z Z) (Al (ak 2 Z Z Z) ?_))))))
    refine Al (am (hmu) Z ⟨W,W,Aq⟩) ?_
    refine Al (am (hsu) Z ⟨W,W,Aq⟩) ?_
    refine Ap (aF 3 Z Z Z Z Z (leN Z) Z (Ap (aD ?_)))
    refine aM ((q+e,r - e*(b*s))) ((by dsimp only;rw [Nat.add_mul]; omega)) S Ah (.drop (.keep Ak (.keep Ak (.keep Ak (.keep Ak (.keep Ak (.keep Ak (.nil))))))))
end Tor
end
section
namespace Tor
open Go Go.RowKit Go.Proofs
def lA (x:Int):Prop:=(aP x.natAbs).length≤1099511627700
theorem lA.small {x:Int} (h:lA x):cg x:=by unfold lA at h;unfold Tor.cg;omega
theorem iW {x y:Int} (h:cg y) (hl:x.natAbs≤y.natAbs):cg x:=Nat.le_trans (cx hl) h
theorem nx (n:Nat):(aP (n+1)).length≤(aP n).length+1:=dj (by
 have h:=dJ n
 rw [Nat.pow_succ]
 have h0:0<4294967296^(aP n).length:=Nat.pow_pos Y
 generalize 4294967296^(aP n).length=z at *
 omega)
attribute [local irreducible] J PJ aU one slT cC bJ ci exT cH eP aY bf slV VT.le Ret bW
theorem oc (x:Int):Ok Tryz.prog 58 [nq x.natAbs,one (.bool (decide (x<0)))] (bq x):=by
 have h:=dx (decide (x<0)) x.natAbs
 have e:(if decide (x<0)=true then -(x.natAbs:Int) else (x.natAbs:Int))=x:=by
  by_cases hx:x<0
  ·rw [if_pos (by simpa using hx)]; omega
  ·rw [if_neg (by simpa using hx)]; omega
 rw [e] at h
 exact h
set_option maxRecDepth 20000 in
theorem rA (a b:Int) (hb:b≠0) (ha:lA a) (hbs:lA b):Ok Tryz.prog 52 [bq a,bq b] (ci [bq (a / b),bq (a % b),one (.int .i64 0)]):=by
 obtain ⟨g1,g2,g3⟩:=ss (a:=a) hb
 have hB:b.natAbs≠0:=by omega
 have ha':(aP a.natAbs).length≤1099511627700:=ha
 have hb':(aP b.natAbs).length≤1099511627700:=hbs
 have hdiv:=rz a.natAbs b.natAbs hB ha' hb'
 have hlt:=Nat.mod_lt a.natAbs (Nat.pos_of_ne_zero hB)
 have hql:=Nat.div_le_self a.natAbs b.natAbs
 have hma:=oc a
 have hmb:=oc b
 have hsb:dm b≠0:=by unfold dm;rw [if_neg hb]; split <;> decide
 have hmb2:=dx false b.natAbs
 rw [if_neg Y] at hmb2
 have hsg:=cd ((a.natAbs % b.natAbs:Nat):Int)
 have hof:=gY 1 Y Y
 have sq:cg ((a.natAbs / b.natAbs:Nat):Int):=iW ha.small (by rw [Int.natAbs_natCast]; exact hql)
 have s1:cg 1:=kJ H
 have had:=eL ((a.natAbs / b.natAbs:Nat):Int) 1 sq s1
 have hsu:=jp (b.natAbs:Int) ((a.natAbs % b.natAbs:Nat):Int) (iW hbs.small S) (iW hbs.small (by rw [Int.natAbs_natCast]; exact Nat.le_of_lt hlt))
 have hsu2:=jp b ((a.natAbs % b.natAbs:Nat):Int) hbs.small (iW hbs.small (by rw [Int.natAbs_natCast]; exact Nat.le_of_lt hlt))
 have hn1:=gx ((a.natAbs / b.natAbs:Nat):Int) sq
 have sq1:cg (((a.natAbs / b.natAbs:Nat):Int)+1):=by
  have h1:=nx (a.natAbs / b.natAbs)
  have h2:=cx hql
  have e:(((a.natAbs / b.natAbs:Nat):Int)+1).natAbs=a.natAbs / b.natAbs+1:=by generalize a.natAbs / b.natAbs=z;omega
  unfold Tor.cg
  rw [e]
  omega
 have hn2:=gx (((a.natAbs / b.natAbs:Nat):Int)+1) sq1
 refine Ok.enter Tryz.func52 Z Tryz.ntmps52 Z (fun w O => ?_)
 by_cases hn:a<0
 ·by_cases hr:a.natAbs % b.natAbs=0
  ·obtain ⟨k1,k2⟩:=g2 hn hr
   have hs0:dm ((a.natAbs % b.natAbs:Nat):Int)=0:=by rw [hr]; rfl
   by_cases hm:b<0
   ·rw [if_pos hm] at k1
    refine ah (aj ?_)
    refine aR Z Z (ltN Z) (fun b2 => ?_)
    refine aR Z Z (ltN Z) (fun b3 => ?_)
    refine a5 (T:=55) Z (ltN Z) (fun b4 => ?_)
    refine a5 (T:=55) Z (ltN Z) (fun b5 => ?_)
    refine An Z (Ap (ab (ah (gL 9 aK X Y (Al (aa Z) (Al (ak 3 Z Z Z) (Al (aa Z) (Al (sT (by assumption) (ak 3 Z Z Z)) ?_))))))))
    refine Al (am (hma) Z ⟨(c7 S),(ar (by rw [decide_eq_true hn])),Aq⟩) ?_
    refine Al (aa Z) (Al (ak 2 Z Z Z) (Al (aa Z) (Al (sT (by assumption) (ak 2 Z Z Z)) (Ap ?_))))
    refine Al (am (hmb) Z ⟨(c7 S),(ar (by rw [decide_eq_true hm])),Aq⟩) ?_
    refine aL 3 Z Z Z Z (aL 2 Z Z Z Z (Ap (ab (ah (ah (aj (Al (aC 2 Z Z) ?_)))))))
    refine Al (am (cd _) Z ⟨W,Aq⟩) ?_
    refine Al (sF (by assumption) (bI Z Z)) (Ap (ab (ay Z (av (ab (ah (aj (Al (aa Z) (Al (ak 3 Z Z Z) ?_)))))))))
    refine Al (aa Z) (Al (ak 2 Z Z Z) ?_)
    refine Al (am (hdiv) Z ⟨W,W,Aq⟩) ?_
    refine Am Z (Al (a6 Z Z) (Al (a6 Z Z) ?_))
    refine a5 (T:=55) Z (ltN Z) (fun b7 => ?_)
    refine a5 (T:=55) Z (ltN Z) (fun b8 => ?_)
    refine aF 1 Z Z Z Z Z (leN Z) Z (aF 0 Z Z Z Z Z (leN Z) Z (Ap (ab (ah (ah (aj (Al (aa Z) (Al (sT (by assumption) (ak 5 Z Z Z)) (Am Z ?_)))))))))
    refine Ao (ak 0 Z Z Z) ?_
    refine Ao (am (hsg) Z ⟨W,Aq⟩) ?_
    refine Ao (sF S (cK Z Z)) (Al (aA Z Z) (Ap (ab (ay Z (av (ab (ah (ah (aj ?_)))))))))
    refine Al (aa Z) (Al (sT (by assumption) (ak 5 Z Z Z)) (Al (aa Z) (Al (sT (by assumption) (ak 4 Z Z Z)) (Al (eI Z Z) (Ap (ab (ay Z (av (ab ?_)))))))))
    refine ah ?_
    refine ju [⟨5,b5,55,Lay.agg 2⟩,⟨4,b4,55,Lay.agg 2⟩] [_,_] [_,_,_,_] aK X Z ((d8 2 Z).trans (.cons _ ((d8 2 Z).trans (.cons _ (List.Perm.refl _))))) Z (And.intro Z (And.intro Z (trivial))) ?_
    refine ux (fun B=>ak 1 Z Z Z) Z Z ?_
    refine ux (fun B=>ak 0 Z Z Z) Z Z ?_
    refine us Z (us Z ?_)
    refine ux (fun B=>ai Z) Z Z ?_
    refine RunU.nil ⟨And.intro Z (And.intro Z (And.intro Z (And.intro Z (trivial)))),?_⟩
    refine bY (M' := [_,_,_,_,_,_]) Z (ab (aH ?_))
    refine ki Tryz.results52 (.cellB 1 Z Z Z (cf (by rw [k1]))) (.cellB 0 Z Z Z (cf (by rw [k2,hr]; rfl))) (.tmp Z W)
   ·rw [if_neg hm] at k1
    refine ah (aj ?_)
    refine aR Z Z (ltN Z) (fun b2 => ?_)
    refine aR Z Z (ltN Z) (fun b3 => ?_)
    refine a5 (T:=55) Z (ltN Z) (fun b4 => ?_)
    refine a5 (T:=55) Z (ltN Z) (fun b5 => ?_)
    refine An Z (Ap (ab (ah (gL 9 aK X Y (Al (aa Z) (Al (ak 3 Z Z Z) (Al (aa Z) (Al (sT (by assumption) (ak 3 Z Z Z)) ?_))))))))
    refine Al (am (hma) Z ⟨(c7 S),(ar (by rw [decide_eq_true hn])),Aq⟩) ?_
    refine Al (aa Z) (Al (ak 2 Z Z Z) (Al (aa Z) (Al (sF (by assumption) (ak 2 Z Z Z)) (Ap ?_))))
    refine Al (am (hmb) Z ⟨(c7 S),(ar (by rw [decide_eq_false hm])),Aq⟩) ?_
    refine aL 3 Z Z Z Z (aL 2 Z Z Z Z (Ap (ab (ah (ah (aj (Al (aC 2 Z Z) ?_)))))))
    refine Al (am (cd _) Z ⟨W,Aq⟩) ?_
    refine Al (sF (by assumption) (bI Z Z)) (Ap (ab (ay Z (av (ab (ah (aj (Al (aa Z) (Al (ak 3 Z Z Z) ?_)))))))))
    refine Al (aa Z) (Al (ak 2 Z Z Z) ?_)
    refine Al (am (hdiv) Z ⟨W,W,Aq⟩) ?_
    refine Am Z (Al (a6 Z Z) (Al (a6 Z Z) ?_))
    refine a5 (T:=55) Z (ltN Z) (fun b7 => ?_)
    refine a5 (T:=55) Z (ltN Z) (fun b8 => ?_)
    refine aF 1 Z Z Z Z Z (leN Z) Z (aF 0 Z Z Z Z Z (leN Z) Z (Ap (ab (ah (ah (aj (Al (aa Z) (Al (sT (by assumption) (ak 5 Z Z Z)) (Am Z ?_)))))))))
    refine Ao (ak 0 Z Z Z) ?_
    refine Ao (am (hsg) Z ⟨W,Aq⟩) ?_
    refine Ao (sF S (cK Z Z)) (Al (aA Z Z) (Ap (ab (ay Z (av (ab (ah (ah (aj ?_)))))))))
    refine Al (aa Z) (Al (sT (by assumption) (ak 5 Z Z Z)) (Al (aa Z) (Al (sF (by assumption) (ak 4 Z Z Z)) (Al (eI Z Z) (Ap (ab (aB Z (aj (Al (ak 1 Z Z Z) ?_)))))))))
    refine Al (am (hn1) Z ⟨W,Aq⟩) ?_
    refine aF 1 Z Z Z Z Z (leN Z) Z (Ap (ab (ah ?_)))
    refine ju [⟨5,b5,55,Lay.agg 2⟩,⟨4,b4,55,Lay.agg 2⟩] [_,_] [_,_,_,_] aK X Z ((d8 2 Z).trans (.cons _ ((d8 2 Z).trans (.cons _ (List.Perm.refl _))))) Z (And.intro Z (And.intro Z (trivial))) ?_
    refine ux (fun B=>ak 1 Z Z Z) Z Z ?_
    refine ux (fun B=>ak 0 Z Z Z) Z Z ?_
    refine us Z (us Z ?_)
    refine ux (fun B=>ai Z) Z Z ?_
    refine RunU.nil ⟨And.intro Z (And.intro Z (And.intro Z (And.intro Z (trivial)))),?_⟩
    refine bY (M' := [_,_,_,_,_,_]) Z (ab (aH ?_))
    refine ki Tryz.results52 (.cellB 1 Z Z Z (cf (by rw [k1]))) (.cellB 0 Z Z Z (cf (by rw [k2,hr]; rfl))) (.tmp Z W)
  ·obtain ⟨k1,k2⟩:=g3 hn hr
   have hs0:dm ((a.natAbs % b.natAbs:Nat):Int)=1:=by unfold dm;rw [if_neg S,if_neg S]
   by_cases hm:b<0
   ·rw [if_pos hm] at k1
    refine ah (aj ?_)
    refine aR Z Z (ltN Z) (fun b2 => ?_)
    refine aR Z Z (ltN Z) (fun b3 => ?_)
    refine a5 (T:=55) Z (ltN Z) (fun b4 => ?_)
    refine a5 (T:=55) Z (ltN Z) (fun b5 => ?_)
    refine An Z (Ap (ab (ah (gL 9 aK X Y (Al (aa Z) (Al (ak 3 Z Z Z) (Al (aa Z) (Al (sT (by assumption) (ak 3 Z Z Z)) ?_))))))))
    refine Al (am (hma) Z ⟨(c7 S),(ar (by rw [decide_eq_true hn])),Aq⟩) ?_
    refine Al (aa Z) (Al (ak 2 Z Z Z) (Al (aa Z) (Al (sT (by assumption) (ak 2 Z Z Z)) (Ap ?_))))
    refine Al (am (hmb) Z ⟨(c7 S),(ar (by rw [decide_eq_true hm])),Aq⟩) ?_
    refine aL 3 Z Z Z Z (aL 2 Z Z Z Z (Ap (ab (ah (ah (aj (Al (aC 2 Z Z) ?_)))))))
    refine Al (am (cd _) Z ⟨W,Aq⟩) ?_
    refine Al (sF (by assumption) (bI Z Z)) (Ap (ab (ay Z (av (ab (ah (aj (Al (aa Z) (Al (ak 3 Z Z Z) ?_)))))))))
    refine Al (aa Z) (Al (ak 2 Z Z Z) ?_)
    refine Al (am (hdiv) Z ⟨W,W,Aq⟩) ?_
    refine Am Z (Al (a6 Z Z) (Al (a6 Z Z) ?_))
    refine a5 (T:=55) Z (ltN Z) (fun b7 => ?_)
    refine a5 (T:=55) Z (ltN Z) (fun b8 => ?_)
    refine aF 1 Z Z Z Z Z (leN Z) Z (aF 0 Z Z Z Z Z (leN Z) Z (Ap (ab (ah (ah (aj (Al (aa Z) (Al (sT (by assumption) (ak 5 Z Z Z)) (Am Z ?_)))))))))
    refine Ao (ak 0 Z Z Z) ?_
    refine Ao (am (hsg) Z ⟨W,Aq⟩) ?_
    refine Ao (sT S (cK Z Z)) (Al (aA Z Z) (Ap (ab (aB Z (ah (aN 2 aK X Y (Al (ak 1 Z Z Z) ?_)))))))
    refine Al (am (hof) Z ⟨W,Aq⟩) ?_
    refine Ap ?_
    refine Al (am (had) Z ⟨W,W,Aq⟩) ?_
    refine aF 1 Z Z Z Z Z (leN Z) Z (Ap (ab (aN 5 aK X Y (Al (aa Z) (Al (ak 4 Z Z Z) ?_)))))
    refine Al (am (hmb2) Z ⟨(c7 S),W,Aq⟩) ?_
    refine Al (ak 0 Z Z Z) ?_
    refine Al (am (hsu) Z ⟨W,W,Aq⟩) ?_
    refine Ap (aF 0 Z Z Z Z Z (leN Z) Z (Ap (ab (ah (ah (aj (Al (aa Z) (Al (sT (by assumption) (ak 5 Z Z Z)) (Al (aa Z) ?_)))))))))
    refine Al (sT (by assumption) (ak 4 Z Z Z)) (Al (eI Z Z) (Ap (ab (ay Z (av (ab (ah ?_)))))))
    refine ju [⟨5,b5,55,Lay.agg 2⟩,⟨4,b4,55,Lay.agg 2⟩] [_,_] [_,_,_,_] aK X Z ((d8 2 Z).trans (.cons _ ((d8 2 Z).trans (.cons _ (List.Perm.refl _))))) Z (And.intro Z (And.intro Z (trivial))) ?_
    refine ux (fun B=>ak 1 Z Z Z) Z Z ?_
    refine ux (fun B=>ak 0 Z Z Z) Z Z ?_
    refine us Z (us Z ?_)
    refine ux (fun B=>ai Z) Z Z ?_
    refine RunU.nil ⟨And.intro Z (And.intro Z (And.intro Z (And.intro Z (trivial)))),?_⟩
    refine bY (M' := [_,_,_,_,_,_]) Z (ab (aH ?_))
    refine ki Tryz.results52 (.cellB 1 Z Z Z (cf (by rw [k1,Int.natCast_add]; rfl))) (.cellB 0 Z Z Z (cf (by rw [k2,Int.ofNat_sub (Nat.le_of_lt hlt)]))) (.tmp Z W)
   ·rw [if_neg hm] at k1
    refine ah (aj ?_)
    refine aR Z Z (ltN Z) (fun b2 => ?_)
    refine aR Z Z (ltN Z) (fun b3 => ?_)
    refine a5 (T:=55) Z (ltN Z) (fun b4 => ?_)
    refine a5 (T:=55) Z (ltN Z) (fun b5 => ?_)
    refine An Z (Ap (ab (ah (gL 9 aK X Y (Al (aa Z) (Al (ak 3 Z Z Z) (Al (aa Z) (Al (sT (by assumption) (ak 3 Z Z Z)) ?_))))))))
    refine Al (am (hma) Z ⟨(c7 S),(ar (by rw [decide_eq_true hn])),Aq⟩) ?_
    refine Al (aa Z) (Al (ak 2 Z Z Z) (Al (aa Z) (Al (sF (by assumption) (ak 2 Z Z Z)) (Ap ?_))))
    refine Al (am (hmb) Z ⟨(c7 S),(ar (by rw [decide_eq_false hm])),Aq⟩) ?_
    refine aL 3 Z Z Z Z (aL 2 Z Z Z Z (Ap (ab (ah (ah (aj (Al (aC 2 Z Z) ?_)))))))
    refine Al (am (cd _) Z ⟨W,Aq⟩) ?_
    refine Al (sF (by assumption) (bI Z Z)) (Ap (ab (ay Z (av (ab (ah (aj (Al (aa Z) (Al (ak 3 Z Z Z) ?_)))))))))
    refine Al (aa Z) (Al (ak 2 Z Z Z) ?_)
    refine Al (am (hdiv) Z ⟨W,W,Aq⟩) ?_
    refine Am Z (Al (a6 Z Z) (Al (a6 Z Z) ?_))
    refine a5 (T:=55) Z (ltN Z) (fun b7 => ?_)
    refine a5 (T:=55) Z (ltN Z) (fun b8 => ?_)
    refine aF 1 Z Z Z Z Z (leN Z) Z (aF 0 Z Z Z Z Z (leN Z) Z (Ap (ab (ah (ah (aj (Al (aa Z) (Al (sT (by assumption) (ak 5 Z Z Z)) (Am Z ?_)))))))))
    refine Ao (ak 0 Z Z Z) ?_
    refine Ao (am (hsg) Z ⟨W,Aq⟩) ?_
    refine Ao (sT S (cK Z Z)) (Al (aA Z Z) (Ap (ab (aB Z (ah (aN 2 aK X Y (Al (ak 1 Z Z Z) ?_)))))))
    refine Al (am (hof) Z ⟨W,Aq⟩) ?_
    refine Ap ?_
    refine Al (am (had) Z ⟨W,W,Aq⟩) ?_
    refine aF 1 Z Z Z Z Z (leN Z) Z (Ap (ab (aN 5 aK X Y (Al (aa Z) (Al (ak 4 Z Z Z) ?_)))))
    refine Al (am (hmb) Z ⟨(c7 S),(ar (by rw [decide_eq_false hm])),Aq⟩) ?_
    refine Al (ak 0 Z Z Z) ?_
    refine Al (am (hsu2) Z ⟨W,W,Aq⟩) ?_
    refine Ap (aF 0 Z Z Z Z Z (leN Z) Z (Ap (ab (ah (ah (aj (Al (aa Z) (Al (sT (by assumption) (ak 5 Z Z Z)) (Al (aa Z) ?_)))))))))
    refine Al (sF (by assumption) (ak 4 Z Z Z)) (Al (eI Z Z) (Ap (ab (aB Z (aj (Al (ak 1 Z Z Z) ?_))))))
    refine Al (am (hn2) Z ⟨W,Aq⟩) ?_
    refine aF 1 Z Z Z Z Z (leN Z) Z (Ap (ab (ah ?_)))
    refine ju [⟨5,b5,55,Lay.agg 2⟩,⟨4,b4,55,Lay.agg 2⟩] [_,_] [_,_,_,_] aK X Z ((d8 2 Z).trans (.cons _ ((d8 2 Z).trans (.cons _ (List.Perm.refl _))))) Z (And.intro Z (And.intro Z (trivial))) ?_
    refine ux (fun B=>ak 1 Z Z Z) Z Z ?_
    refine ux (fun B=>ak 0 Z Z Z) Z Z ?_
    refine us Z (us Z ?_)
    refine ux (fun B=>ai Z) Z Z ?_
    refine RunU.nil ⟨And.intro Z (And.intro Z (And.intro Z (And.intro Z (trivial)))),?_⟩
    refine bY (M' := [_,_,_,_,_,_]) Z (ab (aH ?_))
    refine ki Tryz.results52 (.cellB 1 Z Z Z (cf (by rw [k1,Int.natCast_add]; rfl))) (.cellB 0 Z Z Z (cf (by rw [k2,Int.ofNat_sub (Nat.le_of_lt hlt),Int.natAbs_of_nonneg (show 0≤b by omega)]))) (.tmp Z W)
 ·obtain ⟨k1,k2⟩:=g1 S
  by_cases hm:b<0
  ·rw [if_pos hm] at k1
   refine ah (aj ?_)
   refine aR Z Z (ltN Z) (fun b2 => ?_)
   refine aR Z Z (ltN Z) (fun b3 => ?_)
   refine a5 (T:=55) Z (ltN Z) (fun b4 => ?_)
   refine a5 (T:=55) Z (ltN Z) (fun b5 => ?_)
   refine An Z (Ap (ab (ah (gL 9 aK X Y (Al (aa Z) (Al (ak 3 Z Z Z) (Al (aa Z) (Al (sF (by assumption) (ak 3 Z Z Z)) ?_))))))))
   refine Al (am (hma) Z ⟨(c7 S),(ar (by rw [decide_eq_false hn])),Aq⟩) ?_
   refine Al (aa Z) (Al (ak 2 Z Z Z) (Al (aa Z) (Al (sT (by assumption) (ak 2 Z Z Z)) (Ap ?_))))
   refine Al (am (hmb) Z ⟨(c7 S),(ar (by rw [decide_eq_true hm])),Aq⟩) ?_
   refine aL 3 Z Z Z Z (aL 2 Z Z Z Z (Ap (ab (ah (ah (aj (Al (aC 2 Z Z) ?_)))))))
   refine Al (am (cd _) Z ⟨W,Aq⟩) ?_
   refine Al (sF (by assumption) (bI Z Z)) (Ap (ab (ay Z (av (ab (ah (aj (Al (aa Z) (Al (ak 3 Z Z Z) ?_)))))))))
   refine Al (aa Z) (Al (ak 2 Z Z Z) ?_)
   refine Al (am (hdiv) Z ⟨W,W,Aq⟩) ?_
   refine Am Z (Al (a6 Z Z) (Al (a6 Z Z) ?_))
   refine a5 (T:=55) Z (ltN Z) (fun b7 => ?_)
   refine a5 (T:=55) Z (ltN Z) (fun b8 => ?_)
   refine aF 1 Z Z Z Z Z (leN Z) Z (aF 0 Z Z Z Z Z (leN Z) Z (Ap (ab (ah (ah (aj (Al (aa Z) (Al (sF (by assumption) (ak 5 Z Z Z)) (Am Z ?_)))))))))
   refine sg0 Z Z Z Z (sg0 Z Z Z Z (sg0 Z Z Z Z (Al (aw Z Z) (Ap (ab (ay Z (av (ab (ah ?_)))))))))
   refine ah (aj (Al (aa Z) (Al (sF (by assumption) (ak 5 Z Z Z)) (Al (aa Z) (Al (sT (by assumption) (ak 4 Z Z Z)) (Al (eI Z Z) (Ap (ab (aB Z ?_)))))))))
   refine aj (Al (ak 1 Z Z Z) ?_)
   refine Al (am (hn1) Z ⟨W,Aq⟩) ?_
   refine aF 1 Z Z Z Z Z (leN Z) Z (Ap (ab (ah ?_)))
   refine ju [⟨5,b5,55,Lay.agg 2⟩,⟨4,b4,55,Lay.agg 2⟩] [_,_] [_,_,_,_] aK X Z ((d8 2 Z).trans (.cons _ ((d8 2 Z).trans (.cons _ (List.Perm.refl _))))) Z (And.intro Z (And.intro Z (trivial))) ?_
   refine ux (fun B=>ak 1 Z Z Z) Z Z ?_
   refine ux (fun B=>ak 0 Z Z Z) Z Z ?_
   refine us Z (us Z ?_)
   refine ux (fun B=>ai Z) Z Z ?_
   refine RunU.nil ⟨And.intro Z (And.intro Z (And.intro Z (And.intro Z (trivial)))),?_⟩
   refine bY (M' := [_,_,_,_,_,_]) Z (ab (aH ?_))
   refine ki Tryz.results52 (.cellB 1 Z Z Z (cf (by rw [k1]))) (.cellB 0 Z Z Z (cf (by rw [k2]))) (.tmp Z W)
  ·rw [if_neg hm] at k1
   refine ah (aj ?_)
   refine aR Z Z (ltN Z) (fun b2 => ?_)
   refine aR Z Z (ltN Z) (fun b3 => ?_)
   refine a5 (T:=55) Z (ltN Z) (fun b4 => ?_)
   refine a5 (T:=55) Z (ltN Z) (fun b5 => ?_)
   refine An Z (Ap (ab (ah (gL 9 aK X Y (Al (aa Z) (Al (ak 3 Z Z Z) (Al (aa Z) (Al (sF (by assumption) (ak 3 Z Z Z)) ?_))))))))
   refine Al (am (hma) Z ⟨(c7 S),(ar (by rw [decide_eq_false hn])),Aq⟩) ?_
   refine Al (aa Z) (Al (ak 2 Z Z Z) (Al (aa Z) (Al (sF (by assumption) (ak 2 Z Z Z)) (Ap ?_))))
   refine Al (am (hmb) Z ⟨(c7 S),(ar (by rw [decide_eq_false hm])),Aq⟩) ?_
   refine aL 3 Z Z Z Z (aL 2 Z Z Z Z (Ap (ab (ah (ah (aj (Al (aC 2 Z Z) ?_)))))))
   refine Al (am (cd _) Z ⟨W,Aq⟩) ?_
   refine Al (sF (by assumption) (bI Z Z)) (Ap (ab (ay Z (av (ab (ah (aj (Al (aa Z) (Al (ak 3 Z Z Z) ?_)))))))))
   refine Al (aa Z) (Al (ak 2 Z Z Z) ?_)
   refine Al (am (hdiv) Z ⟨W,W,Aq⟩) ?_
   refine Am Z (Al (a6 Z Z) (Al (a6 Z Z) ?_))
   refine a5 (T:=55) Z (ltN Z) (fun b7 => ?_)
   refine a5 (T:=55) Z (ltN Z) (fun b8 => ?_)
   refine aF 1 Z Z Z Z Z (leN Z) Z (aF 0 Z Z Z Z Z (leN Z) Z (Ap (ab (ah (ah (aj (Al (aa Z) (Al (sF (by assumption) (ak 5 Z Z Z)) (Am Z ?_)))))))))
   refine sg0 Z Z Z Z (sg0 Z Z Z Z (sg0 Z Z Z Z (Al (aw Z Z) (Ap (ab (ay Z (av (ab (ah ?_)))))))))
   refine ah (aj (Al (aa Z) (Al (sF (by assumption) (ak 5 Z Z Z)) (Al (aa Z) (Al (sF (by assumption) (ak 4 Z Z Z)) (Al (eI Z Z) (Ap (ab (ay Z ?_)))))))))
   refine av (ab (ah ?_))
   refine ju [⟨5,b5,55,Lay.agg 2⟩,⟨4,b4,55,Lay.agg 2⟩] [_,_] [_,_,_,_] aK X Z ((d8 2 Z).trans (.cons _ ((d8 2 Z).trans (.cons _ (List.Perm.refl _))))) Z (And.intro Z (And.intro Z (trivial))) ?_
   refine ux (fun B=>ak 1 Z Z Z) Z Z ?_
   refine ux (fun B=>ak 0 Z Z Z) Z Z ?_
   refine us Z (us Z ?_)
   refine ux (fun B=>ai Z) Z Z ?_
   refine RunU.nil ⟨And.intro Z (And.intro Z (And.intro Z (And.intro Z (trivial)))),?_⟩
   refine bY (M' := [_,_,_,_,_,_]) Z (ab (aH ?_))
   refine ki Tryz.results52 (.cellB 1 Z Z Z (cf (by rw [k1]))) (.cellB 0 Z Z Z (cf (by rw [k2]))) (.tmp Z W)
end Tor
end
section
namespace Tor
open Go Go.RowKit Go.Proofs
theorem wN {x:Nat→Int} {p:Int} {r k:Nat} (h:r<k):bQ x p r k=decide (x k≠0):=decide_eq_decide.2 ⟨fun ⟨_,h2⟩=>by
 rcases h2 with ⟨h3,_⟩ | ⟨_,h3⟩
 ·omega
 ·exact h3,fun h2=>⟨by omega, .inr ⟨h,h2⟩⟩⟩
theorem wO {x:Nat→Int} {p:Int} {r:Nat} : bQ x p r r=false:=decide_eq_false fun ⟨h,_⟩=>h Z
theorem wP {x:Nat→Int} {p:Int} {r k:Nat} (h:k<r) (hp:0<p):bQ x p r k=decide (x k<0∨p≤x k):=decide_eq_decide.2 (by
 have h0:x k / p=0↔0≤x k∧x k<p:=by
  constructor
  ·intro e
   have h1:=Int.emod_nonneg (x k) (by omega:p≠0)
   have h2:=Int.emod_lt_of_pos (x k) hp
   have h3:=Int.emod_add_mul_ediv (x k) p
   rw [e,Int.mul_zero] at h3
   omega
  ·rintro ⟨h1,h2⟩;exact Int.ediv_eq_zero_of_lt h1 h2
 constructor
 ·rintro ⟨_,⟨_,h3⟩ | ⟨h3,_⟩⟩
  ·rw [ne_eq,h0] at h3;omega
  ·omega
 ·intro h3
  refine ⟨by omega, .inl ⟨h,?_⟩⟩
  rw [ne_eq,h0]; omega)
theorem ym {x y:Int} : 0≤ek x y↔y≤x:=by
 have := @wL x y
 omega
theorem lI {x:Int} (h:bV x):lA x:=by unfold bV at h;unfold lA;omega
theorem yn {x:Int} : dm x<0↔x<0:=by unfold dm;split <;> (try split) <;> omega
attribute [local irreducible] J PJ aU one slT cC bJ ci exT cH eP aY bf slV VT.le Ret bW
attribute [local irreducible] ce bq
theorem tW (x y:Int) (hx:bV x) (hy:bV y) (h0:0<y):Ok Tryz.prog 57 [bq x,bq y] (bq (x / y)):=by
 have hd:=rA x y S (lI hx) (lI hy)
 refine Ok.enter Tryz.func57 Z Tryz.ntmps57 Z (fun w O => ?_)
 refine ah (aj ?_)
 refine nF Z Z (ltN Z) (fun b2 => ?_)
 refine nF Z Z (ltN Z) (fun b3 => ?_)
 refine a5 (T:=55) Z (ltN Z) (fun b4 => ?_)
 refine Ap (ab (ah (aj (Al (ak 2 Z Z Z) (Al (ak 1 Z Z Z) ?_)))))
 refine Al (am (hd) Z ⟨W,W,Aq⟩) ?_
 refine Am Z (Al (a6 Z Z) (Al (a6 Z Z) (Al (a6 Z Z) ?_)))
 refine a5 (T:=55) Z (ltN Z) (fun b5 => ?_)
 refine a5 (T:=55) Z (ltN Z) (fun b6 => ?_)
 refine aF 1 Z Z Z Z Z (leN Z) Z (aF 0 Z Z Z Z Z (leN Z) Z (An Z (Ap (ab (ah (aj (Al (ak 1 Z Z Z) (aF 2 Z Z Z Z Z (leN Z) Z (Ap ?_)))))))))
 refine ab (aH ?_)
 refine aJ Tryz.results57 (.cellB 2 Z Z Z W)
theorem vF (r c:Nat) (A u v:VT) (M:Nat→Nat→Int) (row col:Nat) (d:VT) (hr:r≤1048576) (hc:c≤1048576) (hrow:row<r) (hcol:col<c) (hm : ∀ i j,bV (M i j)) (hp:0<M row col) :
  Ok Tryz.prog 72 [fW A (be r c M) u v row col d] (one (.int .i64 (if cG (bQ (fun i=>M i col) (M row col) row) r<r then (cG (bQ (fun i=>M i col) (M row col) row) r:Int) else -1))):=by
 refine Ok.enter Tryz.func72 Z Tryz.ntmps72 Z (fun w O => ?_)
 unfold be cM
 refine ah (aj ?_)
 refine aR Z Z (ltN Z) (fun b1 => ?_)
 refine An Z (Ap (ab (ah ?_)))
 refine cT aK X X ?_
 refine ux (fun B=>aa Z) Z Z ?_
 refine ux (fun B=>aa Z) Z Z ?_
 refine ux (fun B=>au 0 3 2 Z Z Z Z Z) Z Z ?_
 refine ux (fun B=>aa Z) Z Z ?_
 refine ux (fun B=>ak 0 Z Z Z) Z Z ?_
 refine ux (fun B=>ax Z Z S) Z Z ?_
 refine ux (fun B=>aG Z) Z Z ?_
 refine ux (fun B=>aa Z) Z Z ?_
 refine ux (fun B=>ak 0 Z Z Z) Z Z ?_
 refine ux (fun B=>ax Z Z S) Z Z ?_
 refine ux (fun B=>aG Z) Z Z ?_
 refine ua Z (us Z ?_)
 refine RunU.nil (fun γ => ?_)
 refine bY (M' := [_,_]) Z (ab (ah (ah (aj (An Z (Ap (ab (ao ?_))))))))
 have hmx : ∀ i j,cg (M i j):=fun i j=>bv (hm i j)
 refine bL (Γ' := [(1,_),(2,_),(3,_),(4,_)]) Ag (SubM.refl _) ?_
 refine bE (σ:=Nat) (Γk := [(1,_),(3,_)]) Ag (fun k => [(4,one (.int .i64 (k:Nat)))]) (fun k M0=>M0) (fun k=>k≤r ∧ ∀ q,q<k→bQ (fun i=>M i col) (M row col) row q=false) (fun k=>r - k) (0) (⟨Nat.zero_le _,fun q hq=>absurd hq (Nat.not_lt_zero q)⟩) Ah (.keep Ak (.keep Ak (.nil))) (fun k hk => ?_)
 refine bN (Γ' := [(4,_),(1,_),(3,_)]) (M' := [_,_]) Z Z ?_
 obtain ⟨hk1,hk2⟩:=hk
 by_cases hk:k<r
 ·have hno:bQ (fun i=>M i col) (M row col) row k=false → ∀ q,q<k+1→bQ (fun i=>M i col) (M row col) row q=false:=fun h q hq=>by
   rcases Nat.lt_or_eq_of_le (Nat.lt_succ_iff.1 hq) with h2 | h2
   ·exact hk2 q h2
   ·subst h2;exact h
  have hyes:bQ (fun i=>M i col) (M row col) row k=true→(if cG (bQ (fun i=>M i col) (M row col) row) r<r then (cG (bQ (fun i=>M i col) (M row col) row) r:Int) else -1)=(k:Int):=fun h=>by
   rw [lW hk hk2 h,if_pos hk]
  rcases Nat.lt_trichotomy k row with h1 | h1 | h1
  ·have hn:=wP (x:=fun i=>M i col) h1 hp
   by_cases h2:M k col<0
   ·have hs:=yn.2 h2
    rw [hyes (by rw [hn]; exact decide_eq_true (.inl h2))]
    refine ah (ah (aj (Am Z (Al (aa Z) (Al (aa Z) (Al (au 1 3 0 Z Z Z Z Z) (Al (sT S (aO Z Z)) (Ap (ab ?_)))))))))
    refine aB Z (av (ab (ah (ao (ah ?_)))))
    refine cT aK X X ?_
    refine ux (fun B=>aa Z) Z Z ?_
    refine ux (fun B=>aa Z) Z Z ?_
    refine ux (fun B=>au 1 3 2 Z Z Z Z Z) Z Z ?_
    refine ux (fun B=>ae Z) Z Z ?_
    refine ux (fun B=>ax Z Z S) Z Z ?_
    refine ux (fun B=>aG Z) Z Z ?_
    refine ux (fun B=>aa Z) Z Z ?_
    refine ux (fun B=>ak 1 Z Z Z) Z Z ?_
    refine ux (fun B=>ax Z Z S) Z Z ?_
    refine ux (fun B=>aG Z) Z Z ?_
    refine ua Z (us Z ?_)
    refine RunU.nil (fun γ => ?_)
    refine bY (M' := [_,_,_]) Z (ab (ah (aj (Am Z (Al (aa Z) (Al (ak 2 Z Z Z) (Al (sF S (cK Z Z)) (Am Z (sn0 Z Z Z Z Z ?_)))))))))
    refine sn0 Z Z Z Z Z (sn0 Z Z Z Z Z (Al (aw Z Z) (Am Z (Ao (ae Z) (Ao (aa Z) (Ao (ak 2 Z Z Z) (Ao (sT S (aO Z Z)) (Ao (ae Z) (Ao (ak 0 Z Z Z) ?_)))))))))
    refine Ao (am (cd _) Z ⟨W,Aq⟩) ?_
    refine Ao (sT (by assumption) (aO Z Z)) (Ao (ae Z) (sn0 Z Z Z Z Z (sn0 Z Z Z Z Z (sn0 Z Z Z Z Z (sn0 Z Z Z Z Z (Ao (aA Z Z) (Ao (aA Z Z) (Al (aw Z Z) (Ap ?_)))))))))
    refine ab (aB Z (ah (aj (Am Z (An Z (Ap (ab (aH (a7 ?_)))))))))
    refine aE (aE (a7 (aE ?_)))
    refine aJ Tryz.results72 (.tmp Z W)
   ·have hs:=fun e=>h2 (yn.1 e)
    by_cases h3:M row col≤M k col
    ·have hcm:=ym.2 h3
     rw [hyes (by rw [hn]; exact decide_eq_true (.inr h3))]
     refine ah (ah (aj (Am Z (Al (aa Z) (Al (aa Z) (Al (au 1 3 0 Z Z Z Z Z) (Al (sT S (aO Z Z)) (Ap (ab ?_)))))))))
     refine aB Z (av (ab (ah (ao (ah ?_)))))
     refine cT aK X X ?_
     refine ux (fun B=>aa Z) Z Z ?_
     refine ux (fun B=>aa Z) Z Z ?_
     refine ux (fun B=>au 1 3 2 Z Z Z Z Z) Z Z ?_
     refine ux (fun B=>ae Z) Z Z ?_
     refine ux (fun B=>ax Z Z S) Z Z ?_
     refine ux (fun B=>aG Z) Z Z ?_
     refine ux (fun B=>aa Z) Z Z ?_
     refine ux (fun B=>ak 1 Z Z Z) Z Z ?_
     refine ux (fun B=>ax Z Z S) Z Z ?_
     refine ux (fun B=>aG Z) Z Z ?_
     refine ua Z (us Z ?_)
     refine RunU.nil (fun γ => ?_)
     refine bY (M' := [_,_,_]) Z (ab (ah (aj (Am Z (Al (aa Z) (Al (ak 2 Z Z Z) (Al (sF S (cK Z Z)) (Am Z (sn0 Z Z Z Z Z ?_)))))))))
     refine sn0 Z Z Z Z Z (sn0 Z Z Z Z Z (Al (aw Z Z) (Am Z (Ao (ae Z) (Ao (aa Z) (Ao (ak 2 Z Z Z) (Ao (sT S (aO Z Z)) (Ao (ae Z) (Ao (ak 0 Z Z Z) ?_)))))))))
     refine Ao (am (cd _) Z ⟨W,Aq⟩) ?_
     refine Ao (sF (by assumption) (aO Z Z)) (Ao (ae Z) (Ao (ak 0 Z Z Z) (Ao (ak 1 Z Z Z) ?_)))
     refine Ao (am (ij _ _ (hmx _ _) (hmx _ _)) Z ⟨W,W,Aq⟩) ?_
     refine Ao (sT (by assumption) (eV Z Z)) (Ao (aw Z Z) (Ao (aA Z Z) (Al (aw Z Z) (Ap (ab (aB Z (ah (aj (Am Z ?_)))))))))
     refine An Z (Ap (ab (aH (a7 (aE (aE (a7 (aE ?_))))))))
     refine aJ Tryz.results72 (.tmp Z W)
    ·have hcm:=fun e=>h3 (ym.1 e)
     have hn2:=hno (by rw [hn]; exact decide_eq_false (fun e=>e.elim h2 h3))
     refine ah (ah (aj (Am Z (Al (aa Z) (Al (aa Z) (Al (au 1 3 0 Z Z Z Z Z) (Al (sT S (aO Z Z)) (Ap (ab ?_)))))))))
     refine aB Z (av (ab (ah (ao (ah ?_)))))
     refine cT aK X X ?_
     refine ux (fun B=>aa Z) Z Z ?_
     refine ux (fun B=>aa Z) Z Z ?_
     refine ux (fun B=>au 1 3 2 Z Z Z Z Z) Z Z ?_
     refine ux (fun B=>ae Z) Z Z ?_
     refine ux (fun B=>ax Z Z S) Z Z ?_
     refine ux (fun B=>aG Z) Z Z ?_
     refine ux (fun B=>aa Z) Z Z ?_
     refine ux (fun B=>ak 1 Z Z Z) Z Z ?_
     refine ux (fun B=>ax Z Z S) Z Z ?_
     refine ux (fun B=>aG Z) Z Z ?_
     refine ua Z (us Z ?_)
     refine RunU.nil (fun γ => ?_)
     refine bY (M' := [_,_,_]) Z (ab (ah (aj (Am Z (Al (aa Z) (Al (ak 2 Z Z Z) (Al (sF S (cK Z Z)) (Am Z (sn0 Z Z Z Z Z ?_)))))))))
     refine sn0 Z Z Z Z Z (sn0 Z Z Z Z Z (Al (aw Z Z) (Am Z (Ao (ae Z) (Ao (aa Z) (Ao (ak 2 Z Z Z) (Ao (sT S (aO Z Z)) (Ao (ae Z) (Ao (ak 0 Z Z Z) ?_)))))))))
     refine Ao (am (cd _) Z ⟨W,Aq⟩) ?_
     refine Ao (sF (by assumption) (aO Z Z)) (Ao (ae Z) (Ao (ak 0 Z Z Z) (Ao (ak 1 Z Z Z) ?_)))
     refine Ao (am (ij _ _ (hmx _ _) (hmx _ _)) Z ⟨W,W,Aq⟩) ?_
     refine Ao (sF (by assumption) (eV Z Z)) (Ao (aw Z Z) (Ao (aA Z Z) (Al (aw Z Z) (Ap (ab (ay Z (av (aD (ab ?_)))))))))
     refine aj (Am Z (Al (bj _ 1 Z Z S) (An Z (Ap ?_))))
     refine aM (k+1) (⟨hk,hn2⟩) S Ah (.drop (.keep Ak (.keep Ak (.nil))))
  ·subst h1
   have hn2:=hno wO
   refine ah (ah (aj (Am Z (Al (aa Z) (Al (aa Z) (Al (au 1 3 0 Z Z Z Z Z) (Al (sT S (aO Z Z)) (Ap (ab ?_)))))))))
   refine aB Z (av (ab (ah (ao (ah ?_)))))
   refine cT aK X X ?_
   refine ux (fun B=>aa Z) Z Z ?_
   refine ux (fun B=>aa Z) Z Z ?_
   refine ux (fun B=>au 1 3 2 Z Z Z Z Z) Z Z ?_
   refine ux (fun B=>ae Z) Z Z ?_
   refine ux (fun B=>ax Z Z S) Z Z ?_
   refine ux (fun B=>aG Z) Z Z ?_
   refine ux (fun B=>aa Z) Z Z ?_
   refine ux (fun B=>ak 1 Z Z Z) Z Z ?_
   refine ux (fun B=>ax Z Z S) Z Z ?_
   refine ux (fun B=>aG Z) Z Z ?_
   refine ua Z (us Z ?_)
   refine RunU.nil (fun γ => ?_)
   refine bY (M' := [_,_,_]) Z (ab (ah (aj (Am Z (Al (aa Z) (Al (ak 2 Z Z Z) (Al (sF S (cK Z Z)) (Am Z (sn0 Z Z Z Z Z ?_)))))))))
   refine sn0 Z Z Z Z Z (sn0 Z Z Z Z Z (Al (aw Z Z) (Am Z (Ao (ae Z) (Ao (aa Z) (Ao (ak 2 Z Z Z) (Ao (sF S (aO Z Z)) (Ao (ae Z) (sn0 Z Z Z Z Z ?_)))))))))
   refine sn0 Z Z Z Z Z (sn0 Z Z Z Z Z (sn0 Z Z Z Z Z (snU Z Z Z Z (snU Z Z Z Z (snU Z Z Z Z (snU Z Z Z Z (sn0 Z Z Z Z Z (Ao (aw Z Z) (Al (aw Z Z) ?_)))))))))
   refine Ap (ab (ay Z (av (aD (ab (aj (Am Z (Al (bj _ 1 Z Z S) (An Z ?_)))))))))
   refine Ap ?_
   refine aM (k+1) (⟨hk,hn2⟩) S Ah (.drop (.keep Ak (.keep Ak (.nil))))
  ·have hn:=wN (x:=fun i=>M i col) (p:=M row col) h1
   by_cases h2:M k col=0
   ·have hs:=(cJ _).2 h2
    have hn2:=hno (by rw [hn]; exact decide_eq_false (fun e=>e h2))
    refine ah (ah (aj (Am Z (Al (aa Z) (Al (aa Z) (Al (au 1 3 0 Z Z Z Z Z) (Al (sT S (aO Z Z)) (Ap (ab ?_)))))))))
    refine aB Z (av (ab (ah (ao (ah ?_)))))
    refine cT aK X X ?_
    refine ux (fun B=>aa Z) Z Z ?_
    refine ux (fun B=>aa Z) Z Z ?_
    refine ux (fun B=>au 1 3 2 Z Z Z Z Z) Z Z ?_
    refine ux (fun B=>ae Z) Z Z ?_
    refine ux (fun B=>ax Z Z S) Z Z ?_
    refine ux (fun B=>aG Z) Z Z ?_
    refine ux (fun B=>aa Z) Z Z ?_
    refine ux (fun B=>ak 1 Z Z Z) Z Z ?_
    refine ux (fun B=>ax Z Z S) Z Z ?_
    refine ux (fun B=>aG Z) Z Z ?_
    refine ua Z (us Z ?_)
    refine RunU.nil (fun γ => ?_)
    refine bY (M' := [_,_,_]) Z (ab (ah (aj (Am Z (Al (aa Z) (Al (ak 2 Z Z Z) (Al (sT S (cK Z Z)) (Am Z (Ao (ak 0 Z Z Z) ?_)))))))))
    refine Ao (am (cd _) Z ⟨W,Aq⟩) ?_
    refine Ao (sF S (dq Z Z)) (Al (aA Z Z) (Am Z (Ao (ae Z) (Ao (aa Z) (Ao (ak 2 Z Z Z) (Ao (sF S (aO Z Z)) (Ao (ae Z) (sn0 Z Z Z Z Z (sn0 Z Z Z Z Z ?_)))))))))
    refine sn0 Z Z Z Z Z (sn0 Z Z Z Z Z (snU Z Z Z Z (snU Z Z Z Z (snU Z Z Z Z (snU Z Z Z Z (sn0 Z Z Z Z Z (Ao (aw Z Z) (Al (aw Z Z) (Ap ?_)))))))))
    refine ab (ay Z (av (aD (ab (aj (Am Z (Al (bj _ 1 Z Z S) (An Z (Ap ?_)))))))))
    refine aM (k+1) (⟨hk,hn2⟩) S Ah (.drop (.keep Ak (.keep Ak (.nil))))
   ·have hs:=fun e=>h2 ((cJ _).1 e)
    rw [hyes (by rw [hn]; exact decide_eq_true h2)]
    refine ah (ah (aj (Am Z (Al (aa Z) (Al (aa Z) (Al (au 1 3 0 Z Z Z Z Z) (Al (sT S (aO Z Z)) (Ap (ab ?_)))))))))
    refine aB Z (av (ab (ah (ao (ah ?_)))))
    refine cT aK X X ?_
    refine ux (fun B=>aa Z) Z Z ?_
    refine ux (fun B=>aa Z) Z Z ?_
    refine ux (fun B=>au 1 3 2 Z Z Z Z Z) Z Z ?_
    refine ux (fun B=>ae Z) Z Z ?_
    refine ux (fun B=>ax Z Z S) Z Z ?_
    refine ux (fun B=>aG Z) Z Z ?_
    refine ux (fun B=>aa Z) Z Z ?_
    refine ux (fun B=>ak 1 Z Z Z) Z Z ?_
    refine ux (fun B=>ax Z Z S) Z Z ?_
    refine ux (fun B=>aG Z) Z Z ?_
    refine ua Z (us Z ?_)
    refine RunU.nil (fun γ => ?_)
    refine bY (M' := [_,_,_]) Z (ab (ah (aj (Am Z (Al (aa Z) (Al (ak 2 Z Z Z) (Al (sT S (cK Z Z)) (Am Z (Ao (ak 0 Z Z Z) ?_)))))))))
    refine Ao (am (cd _) Z ⟨W,Aq⟩) ?_
    refine Ao (sT (by assumption) (dq Z Z)) (Al (aA Z Z) (Am Z (sn0 Z Z Z Z Z (sn0 Z Z Z Z Z (sn0 Z Z Z Z Z (sn0 Z Z Z Z Z (sn0 Z Z Z Z Z (snU Z Z Z Z (snU Z Z Z Z ?_)))))))))
    refine snU Z Z Z Z (snU Z Z Z Z (snU Z Z Z Z (snU Z Z Z Z (snU Z Z Z Z (snU Z Z Z Z (snU Z Z Z Z (sn0 Z Z Z Z Z (Al (aA Z Z) (Ap ?_)))))))))
    refine ab (aB Z (ah (aj (Am Z (An Z (Ap (ab (aH (a7 ?_)))))))))
    refine aE (aE (a7 (aE ?_)))
    refine aJ Tryz.results72 (.tmp Z W)
 ·rw [oC (fun q hq=>hk2 q S),if_neg (Nat.lt_irrefl r)]
  refine ah (ah (aj (Am Z (Al (aa Z) (Al (aa Z) (Al (au 1 3 0 Z Z Z Z Z) (Al (sF S (aO Z Z)) (Ap (ab ?_)))))))))
  refine ay Z (a4 (az (az (aI (ab (ah (aj (An Z (Ap ?_)))))))))
  refine ab (aH ?_)
  refine aJ Tryz.results72 (.tmp Z W)
end Tor
end
section
namespace Tor
open Go Go.RowKit Go.Proofs
def lN (b r c:Nat) (sM sU sV:S3) (M U V:Nat→Nat→Int):Mem :=
 [aY b 79 9 (wK (bh r c sM) (bh r r sU) (bh r r sV)),bn sM.2.1 sM.2.2 r c sM.1,aZ c sM.1 M,bn sU.2.1 sU.2.2 r r sU.1,aZ r sU.1 U,bn sV.2.1 sV.2.2 r r sV.1,aZ r sV.1 V]
theorem ng {x:Int} (h:bV x):bV (-x):=by unfold bV at h ⊢; rwa [Int.natAbs_neg]
theorem sI {k r j b:Nat} {q:Int} {F:Nat→Nat→Int} (hne:k≠r) (hq:bV q) (h : ∀ i j,bV (F i j)):cg (-q*fG k r q j F r b):=by rw [pj hne]; exact gh (ng hq) (h _ _)
theorem wQ {i r k b:Nat} {q:Int} {F:Nat→Nat→Int} (hq:bV q) (h : ∀ i j,bV (F i j)):cg (-q*iS r k q i F i b):=by rw [m6]; exact gh (ng hq) (h _ _)
theorem vG {c k r j:Nat} {q:Int} {bs:List Nat} {F:Nat→Nat→Int} (hne:k≠r):Own.le (ce 55 (.agg 2) c bs (fd (fun a b=>bq (fG k r q j F a b)) k j (bq (fG k r q j F k j + -q*fG k r q j F r j)))) (aZ c bs (fG k r q (j+1) F)):=by
 rw [Int.neg_mul, ← Int.sub_eq_add_neg]; exact qs hne
theorem xO {c k r i:Nat} {q:Int} {bs:List Nat} {F:Nat→Nat→Int} : Own.le (ce 55 (.agg 2) c bs (fd (fun a b=>bq (iS r k q i F a b)) i r (bq (iS r k q i F i r - -q*iS r k q i F i k)))) (aZ c bs (iS r k q (i+1) F)):=by
 rw [Int.neg_mul,Int.sub_neg]; exact vq
attribute [local irreducible] J PJ aU one slT cC bJ ci exT cH eP aY bf slV VT.le Ret bW
attribute [local irreducible] ce bq
theorem tX (b r c:Nat) (sM sU sV:S3) (M U V:Nat→Nat→Int) (i j:Nat) (q:Int) (hr:r≤1048576) (hc:c≤1048576) (hM:ok3 r sM) (hU:ok3 r sU) (hV:ok3 r sV) (hi:i<r) (hj:j<r) (hne:i≠j) (hq:bV q) (hmM : ∀ i j,bV (M i j)) (hmU : ∀ i j,bV (U i j)) (hmV : ∀ i j,bV (V i j)) :
  OkI Tryz.prog 53 [one (.pointer (some ⟨b,0,none⟩)),one (.int .i64 i),one (.int .i64 j),bq (-q)] (lN b r c sM sU sV M U V)
   (fun _:Unit=>ci []) (fun _=>lN b r c sM sU sV (cW i j q M) (cW i j q U) (gE j i q V)):=by
 obtain ⟨bs,bo,cap,rfl,hbl⟩:=hM.some S
 obtain ⟨bsU,boU,capU,rfl,hblU⟩:=hU.some S
 obtain ⟨bsV,boV,capV,rfl,hblV⟩:=hV.some S
 have hmq:=bv (ng hq)
 unfold lN bh
 dsimp only at hbl hblU hblV ⊢
 refine OkI.enter Tryz.func53 Z Tryz.ntmps53 Z (fun w O => ?_)
 refine ah (aj ?_)
 refine nF Z Z (ltN Z) (fun b7 => ?_)
 refine Ap (ab (ah (ah (aj (An Z (Ap (ab (ao (bL (Γ' := [(0,_),(1,_),(2,_),(7,_),(8,_)]) Ag (SubM.refl _) ?_)))))))))
 refine bE (σ:=Nat) (Γk := [(0,_),(1,_),(2,_),(7,_)]) Ag (fun x => [(8,one (.int .i64 (x:Nat)))]) (fun x M0=>(M0.set 3 (aZ c bs (fG i j q x M)))) (fun x=>x≤c) (fun x=>c - x) (0) (Nat.zero_le _) Ah (.keep Ak (.keep Ak (.keep Ak (.keep (n8) (.keep Ak (.keep Ak (.keep Ak (.keep Ak (.nil))))))))) (fun x hx => ?_)
 refine bN (Γ' := [(8,_),(0,_),(1,_),(2,_),(7,_)]) (M' := [_,_,_,_,_,_,_,_]) Z Z ?_
 by_cases h:x<c
 ·refine ah (ah (aj (Am Z (Am Z (Al (aq Z) (Al (aa Z) (Al (aa Z) (Al (au 1 0 1 Z Z Z Z Z) (Al (sT S (aO Z Z)) ?_)))))))))
  refine Ap (ab (aB Z (av (ab (ah (ao (aN 34 aK X Y (Am Z (Al (aq Z) ?_)))))))))
  refine Al (aa Z) (Al (aa Z) (Al (au 1 0 2 Z Z Z Z Z) (Am Z (Al (an Z Z S) (Al (aS 2 Z Z S) (Am Z (Am Z (Al (aq Z) (Al (aa Z) ?_)))))))))
  refine Al (aa Z) (Al (au 1 0 2 Z Z Z Z Z) (Am Z (Al (an Z Z S) (Al (aS 2 Z Z S) (Am Z (Al (an Z Z S) (Al (bF 3 Z Z (bM S) S) (Al (ak 0 Z Z Z) (Am Z ?_)))))))))
  refine Al (aq Z) (Al (aa Z) (Al (aa Z) (Al (au 1 0 2 Z Z Z Z Z) (Am Z (Al (an Z Z S) (Al (aS 2 Z Z S) (Am Z (Al (an Z Z S) (Al (bF 3 Z Z (bM S) S) ?_)))))))))
  refine Al (am (fQ _ _ (by assumption) (jE hne hmM)) Z ⟨W,W,Aq⟩) ?_
  refine Al (am (eL _ _ (jD hmM) (sI hne hq hmM)) Z ⟨W,W,Aq⟩) ?_
  refine Ap (Al (an Z Z S) ?_)
  (refine bg 3 Z Z Z (bM ?_) ?_ Z ?_;omega;omega)
  refine Ap (aD (ab (aj (Am Z (Al (bj _ 1 Z Z S) (An Z (Ap ?_)))))))
  refine aM (x+1) (h) S Ah (.keep Ak (.keep Ak (.keep Ak (.keep (vG hne) (.keep Ak (.keep Ak (.keep Ak (.keep Ak (.nil)))))))))
 ·have he:c=x:=by omega
  subst he
  refine ah (ah (aj (Am Z (Am Z (Al (aq Z) (Al (aa Z) (Al (aa Z) (Al (au 1 0 1 Z Z Z Z Z) (Al (sF S (aO Z Z)) ?_)))))))))
  refine Ap (ab (ay Z (a4 (az (az (aI (ab (ah (ah ?_)))))))))
  refine aj (An Z (Ap (ab (ao (bL (Γ' := [(0,_),(1,_),(2,_),(7,_),(9,_)]) Ag (SubM.refl _) ?_)))))
  refine bE (σ:=Nat) (Γk := [(0,_),(1,_),(2,_),(7,_)]) Ag (fun x => [(9,one (.int .i64 (x:Nat)))]) (fun x M0=>((M0.set 5 (aZ r bsU (fG i j q x U))).set 3 (aZ c bs (cW i j q M)))) (fun x=>x≤r) (fun x=>r - x) (0) (Nat.zero_le _) Ah (.keep Ak (.keep Ak (.keep Ak (.keep (n9) (.keep Ak (.keep (n8) (.keep Ak (.keep Ak (.nil))))))))) (fun x hx => ?_)
  refine bN (Γ' := [(9,_),(0,_),(1,_),(2,_),(7,_)]) (M' := [_,_,_,_,_,_,_,_]) Z Z ?_
  by_cases h:x<r
  ·refine ah (ah (aj (Am Z (Am Z (Al (aq Z) (Al (aa Z) (Al (aa Z) (Al (au 1 3 1 Z Z Z Z Z) (Al (sT S (aO Z Z)) ?_)))))))))
   refine Ap (ab (aB Z (av (ab (ah (ao (aN 34 aK X Y (Am Z (Al (aq Z) ?_)))))))))
   refine Al (aa Z) (Al (aa Z) (Al (au 1 3 2 Z Z Z Z Z) (Am Z (Al (an Z Z S) (Al (aS 4 Z Z S) (Am Z (Am Z (Al (aq Z) (Al (aa Z) ?_)))))))))
   refine Al (aa Z) (Al (au 1 3 2 Z Z Z Z Z) (Am Z (Al (an Z Z S) (Al (aS 4 Z Z S) (Am Z (Al (an Z Z S) (Al (bF 5 Z Z (bM S) S) (Al (ak 0 Z Z Z) (Am Z ?_)))))))))
   refine Al (aq Z) (Al (aa Z) (Al (aa Z) (Al (au 1 3 2 Z Z Z Z Z) (Am Z (Al (an Z Z S) (Al (aS 4 Z Z S) (Am Z (Al (an Z Z S) (Al (bF 5 Z Z (bM S) S) ?_)))))))))
   refine Al (am (fQ _ _ (by assumption) (jE hne hmU)) Z ⟨W,W,Aq⟩) ?_
   refine Al (am (eL _ _ (jD hmU) (sI hne hq hmU)) Z ⟨W,W,Aq⟩) ?_
   refine Ap (Al (an Z Z S) ?_)
   (refine bg 5 Z Z Z (bM ?_) ?_ Z ?_;omega;omega)
   refine Ap (aD (ab (aj (Am Z (Al (bj _ 1 Z Z S) (An Z (Ap ?_)))))))
   refine aM (x+1) (h) S Ah (.keep Ak (.keep Ak (.keep Ak (.keep Ak (.keep Ak (.keep (vG hne) (.keep Ak (.keep Ak (.nil)))))))))
  ·have he:r=x:=by omega
   subst he
   refine ah (ah (aj (Am Z (Am Z (Al (aq Z) (Al (aa Z) (Al (aa Z) (Al (au 1 3 1 Z Z Z Z Z) (Al (sF S (aO Z Z)) ?_)))))))))
   refine Ap (ab (ay Z (a4 (az (az (aI (ab (ah (aj ?_)))))))))
   refine An Z (Ap (ab (ao (bL (Γ' := [(0,_),(1,_),(2,_),(7,_),(10,_)]) Ag (SubM.refl _) ?_))))
   refine bE (σ:=Nat) (Γk := [(0,_),(1,_),(2,_),(7,_)]) Ag (fun y => [(10,one (.int .i64 (y:Nat)))]) (fun y M0=>((M0.set 7 (aZ r bsV (iS j i q y V))).set 5 (aZ r bsU (cW i j q U)))) (fun y=>y≤r) (fun y=>r - y) (0) (Nat.zero_le _) Ah (.keep Ak (.keep Ak (.keep Ak (.keep Ak (.keep Ak (.keep (n9) (.keep Ak (.keep Ak (.nil))))))))) (fun y hy => ?_)
   refine bN (Γ' := [(10,_),(0,_),(1,_),(2,_),(7,_)]) (M' := [_,_,_,_,_,_,_,_]) Z Z ?_
   by_cases h:y<r
   ·refine ah (ah (aj (Am Z (Am Z (Al (aq Z) (Al (aa Z) (Al (aa Z) (Al (au 1 6 0 Z Z Z Z Z) (Al (sT S (aO Z Z)) ?_)))))))))
    refine Ap (ab (aB Z (av (ab (ah (ao (aN 34 aK X Y (Am Z (Al (aq Z) ?_)))))))))
    refine Al (aa Z) (Al (aa Z) (Al (au 1 6 2 Z Z Z Z Z) (Am Z (Al (an Z Z S) (Al (aS 6 Z Z S) (Am Z (Am Z (Al (aq Z) (Al (aa Z) ?_)))))))))
    refine Al (aa Z) (Al (au 1 6 2 Z Z Z Z Z) (Am Z (Al (an Z Z S) (Al (aS 6 Z Z S) (Am Z (Al (an Z Z S) (Al (bF 7 Z Z (bM S) S) (Al (ak 0 Z Z Z) (Am Z ?_)))))))))
    refine Al (aq Z) (Al (aa Z) (Al (aa Z) (Al (au 1 6 2 Z Z Z Z Z) (Am Z (Al (an Z Z S) (Al (aS 6 Z Z S) (Am Z (Al (an Z Z S) (Al (bF 7 Z Z (bM S) S) ?_)))))))))
    refine Al (am (fQ _ _ (by assumption) (jF hmV)) Z ⟨W,W,Aq⟩) ?_
    refine Al (am (jp _ _ (jF hmV) (wQ hq hmV)) Z ⟨W,W,Aq⟩) ?_
    refine Ap (Al (an Z Z S) ?_)
    (refine bg 7 Z Z Z (bM ?_) ?_ Z ?_;omega;omega)
    refine Ap (aD (ab (aj (Am Z (Al (bj _ 1 Z Z S) (An Z (Ap ?_)))))))
    refine aM (y+1) (h) S Ah (.keep Ak (.keep Ak (.keep Ak (.keep Ak (.keep Ak (.keep Ak (.keep Ak (.keep (xO) (.nil)))))))))
   ·have he:r=y:=by omega
    subst he
    refine ah (ah (aj (Am Z (Am Z (Al (aq Z) (Al (aa Z) (Al (aa Z) (Al (au 1 6 0 Z Z Z Z Z) (Al (sF S (aO Z Z)) ?_)))))))))
    refine Ap (ab (ay Z (a4 (az (az (aI (gN ?_)))))))
    exact lE (σ:=Unit) (ψ:=fun _=>ci []) () Tryz.results53 W (.drop (.keep Ak (.keep Ak (.keep Ak (.keep Ak (.keep Ak (.keep Ak (.keep (vp hblV) .nil))))))))
end Tor
end
