/-
  Theorems that the proofs of laws of this seat rest on.
  No condition.
-/
import Derived.Test.YtamglpeiacmooaaGreatZB8
set_option maxHeartbeats 20000000
set_option linter.unusedVariables false
set_option linter.unusedSimpArgs false
section
namespace Tor
open Go Go.RowKit Go.Proofs
attribute [local irreducible] J PJ aQ one slT cA bG bZ exT cE eP aX a8 slV VT.le Ret bS
attribute [local irreducible] bm bX
theorem rn (r c:Nat) (F:Nat→Nat→Int) (k:Int) (hr0:r≤1048576) (hc0:c≤1048576) (hF : ∀ i j,ci (F i j)) (hk:ci k):OkM Tryz.prog 77 [bp r c F,bm k] (gS r c) (fun s => [bO s.1.2.1 s.1.2.2 r c s.1.1,bg c s.1.1 (fun i j=>F i j*k)]):=by
 unfold bp
 refine OkM.enter Tryz.func77 Z Tryz.ntmps77 Z (fun w O => ?_)
 refine ah (aj ?_)
 refine aY Z Z (ltN Z) (fun b2 => ?_)
 refine nj Z Z (ltN Z) (fun b3 => ?_)
 refine a7 (T:=29) Z Z Z (fun b4 => ?_)
 refine Ap (aa (ah (aj (Al (ab Z) (Al (ak 2 Z Z Z) (Al (ab Z) (Al (ak 2 Z Z Z) ?_)))))))
 refine eu (je _ _ (by assumption) (by assumption)) Z ⟨W,W,Aq⟩ Z Z (fun s12 => ?_)
 refine a7 (T:=29) Z Z Z (fun b5 => ?_)
 refine aW 0 Z Z Z Z (Ap (aa (ah (ah (aj (An Z (Ap (aa (ar ?_)))))))))
 obtain ⟨⟨bs,sv1,cap1⟩,hlen,hsv⟩:=s12
 simp only at hlen hsv
 unfold gS
 dsimp only
 refine bV (Γ' := [(2,_),(3,_),(4,_),(5,_),(6,_)]) Ag (SubM.refl _) ?_
 refine bv (σ:=Nat) (Γk := [(2,_),(3,_),(4,_),(5,_)]) Ag (fun i => [(6,one (.int .i64 (i:Nat)))]) (fun i M0=>(M0.set 2 (bg c bs (e9 (fun i j=>F i j*k) i 0)))) (fun i=>i≤r) (fun i=>r - i) (0) (Nat.zero_le _) Ah (.keep Ak (.keep Ak (.keep (du fun i j hi hj=>by simp [e9]) (.keep Ak (.keep Ak (.keep Ak (.nil))))))) (fun i hi => ?_)
 refine bK (Γ' := [(6,_),(2,_),(3,_),(4,_),(5,_)]) (M' := [_,_,_,_,_,_]) Z Z (ah (ah (aj (Am Z (Al (ab Z) (Al (ak 5 Z Z Z) (Al (aS Z Z) (Ap (aa ?_)))))))))
 refine mY Z (fun hc => ?_) (fun hc => ?_)
 ·obtain ⟨bo,rfl⟩:=jf hsv S
  refine au (aa (ah (ar (ah (aj (An Z (Ap (aa (ar ?_)))))))))
  refine bV (Γ' := [(2,_),(3,_),(4,_),(5,_),(6,_),(7,_)]) Ag (SubM.refl _) ?_
  refine bv (σ:=Nat) (Γk := [(2,_),(3,_),(4,_),(5,_),(6,_)]) Ag (fun j => [(7,one (.int .i64 (j:Nat)))]) (fun j M0=>(M0.set 2 (bg c bs (e9 (fun i j=>F i j*k) i j)))) (fun j=>j≤c) (fun j=>c - j) (0) (Nat.zero_le _) Ah (.keep Ak (.keep Ak (.keep Ak (.keep Ak (.keep Ak (.keep Ak (.nil))))))) (fun j hj => ?_)
  refine bK (Γ' := [(7,_),(2,_),(3,_),(4,_),(5,_),(6,_)]) (M' := [_,_,_,_,_,_]) Z Z (ah (ah (aj (Am Z (Al (ab Z) (Al (ak 5 Z Z Z) (Al (aS Z Z) (Ap (aa ?_)))))))))
  refine mY Z (fun hc2 => ?_) (fun hc2 => ?_)
  ·refine au (aa (ah (ar (aZ 16 aV X Y (Al (ab Z) (Al (ak 0 Z Z Z) (Am Z ?_)))))))
   (refine Al (an Z Z ?_) ?_;omega)
   (refine Al (aI 1 Z Z ?_) ?_;omega)
   refine Am Z (Al (ab Z) (Al (ak 5 Z Z Z) (Am Z ?_)))
   (refine Al (ax Z Z ?_) ?_;omega)
   refine Al (aH Z) (Am Z ?_)
   (refine Al (ax Z Z ?_) ?_;omega)
   refine Al (aH Z) (Al (ak 4 Z Z Z) ?_)
   refine Al (am (fF _ _ (hF _ _) (by assumption)) Z ⟨W,W,Aq⟩) ?_
   refine Ap ?_
   (refine Al (an Z Z ?_) ?_;omega)
   (refine a9 2 Z Z Z (bC ?_) ?_ Z ?_;omega;omega)
   refine Ap (aD (aa (aj (Am Z (Al (bn _ 1 Z Z S) (An Z (Ap ?_)))))))
   refine aJ (j+1) S S Ah (.keep Ak (.keep Ak (.keep (tw _ Z) (.keep Ak (.keep Ak (.keep Ak (.nil)))))))
  ·have hjm:j=c:=by omega
   subst hjm
   refine aU (av (av (aC (aD (aa (aj (Am Z (Al (bn _ 1 Z Z S) (An Z ?_)))))))))
   refine Ap ?_
   refine aJ (i+1) S S Ah (.keep Ak (.keep Ak (.keep (mF) (.keep Ak (.keep Ak (.keep Ak (.nil)))))))
 ·have hin:i=r:=by omega
  subst hin
  refine aU (av (av (aC (aa (ah (aj (Al (aL 0 Z Z) (aW 3 Z Z Z Z (Ap ?_)))))))))
  refine aa (aG ?_)
  exact iB ⟨(bs,sv1,cap1),hlen,hsv⟩ Tryz.results77 (.cellW 3 Z Z W) (.drop (.keep Ak (.keep (du fun a b ha hb=>by simp [e9]; omega) (SubM.nilR _))))
theorem qu (r c:Nat) (F:Nat→Nat→Int) (hr0:r≤1048576) (hc0:c≤1048576) (hF : ∀ i j,ci (F i j)):OkM Tryz.prog 44 [bp r c F] (gS r c) (fun s => [bO s.1.2.1 s.1.2.2 r c s.1.1,bg c s.1.1 (fun i j=>F i j*1)]):=by
 have hs:=rn r c F 1 hr0 hc0 hF tb
 unfold bp at hs ⊢
 refine OkM.enter Tryz.func44 Z Tryz.ntmps44 Z (fun w O => ?_)
 refine ah (aj ?_)
 refine aY Z Z (ltN Z) (fun b1 => ?_)
 refine a7 (T:=29) Z Z Z (fun b2 => ?_)
 refine Ap (aa (ah (aZ 2 aV X Y (Al (aL 1 Z Z) ?_))))
 refine Al (am (jF _ S S) Z ⟨W,Aq⟩) ?_
 refine Ap ?_
 refine eu (hs) Z ⟨W,W,Aq⟩ Z Z (fun s5 => ?_)
 refine aW 2 Z Z Z Z (Ap (aa (aG ?_)))
 exact iB s5 Tryz.results44 (.cellW 2 Z Z W) (.keep Ak (.keep Ak (SubM.nilR _)))
end Tor
end
section
namespace Tor
open Go Go.RowKit Go.Proofs
def qv (r c:Int):VT:=bG 2 [(0, .one,one (.int .i64 r)),(1, .one,one (.int .i64 c))]
attribute [local irreducible] J PJ aQ one slT cA bG bZ exT cE eP aX a8 slV VT.le Ret bS
attribute [local irreducible] bm bX
theorem qw (r c:Nat) (F:Nat→Nat→Int):Ok Tryz.prog 82 [slT (.agg 3) 1 (fun _=>bp r c F)] (slT (.agg 2) 1 (fun _=>qv r c)):=by
 unfold bp qv
 refine Ok.enter Tryz.func82 Z Tryz.ntmps82 Z (fun w O => ?_)
 refine ah (aj (An Z (Ap (aa (ah (aj (An Z (Ap (aa ?_)))))))))
 refine ah (ah (aj (Am Z (Al (be Z) (Am Z (Ap (aa (ar ?_))))))))
 refine py 2 ?_
 refine ah (aj (Al (sT S (aS Z Z)) (Ap (aa (ah (az Z (au (aa (ah ?_)))))))))
 refine ar (ah (aj ?_))
 (refine Al (ed Z Z ?_ ?_) ?_;omega;omega)
 refine Al (aH Z) ?_
 refine a7 (T:=29) Z Z Z (fun b5 => ?_)
 refine aW 0 Z Z Z Z (Ap (aa (aj (Am Z (Al (ab Z) (Al (ak 0 Z Z Z) (Al (ab Z) (Al (ak 0 Z Z Z) (stB Z Z Z ?_)))))))))
 refine BuildK.cons Z Z Z (BuildK.cons Z Z Z (BuildK.nil (pt Z Z Z Z ?_)))
 (refine sX Z Z (leN Z) ?_ ?_ Z (ltN Z) (fun sv19 cap19 => ?_);omega;omega)
 refine An Z (Ap (aD (aa (aj ?_))))
 (refine Al (cq Z Z (aR ?_ ?_)) ?_;omega;omega)
 refine Am Z (Ap (nn (ah (aj (Al (sF S (aS Z Z)) (Ap (aa (ah (aA Z ?_)))))))))
 refine aU (av (av (aC (aa (ah (aj (Am Z (An Z (Ap ?_)))))))))
 refine aa (aG (dz (t:=2) (i:=0) Z Z ?_))
 refine aP Tryz.results82 (.tmp Z (fe fun i hi=>VT.le_refl _))
theorem wu (r c r' c':Nat):Ok Tryz.prog 81 [slT (.agg 2) 1 (fun _=>qv r c),slT (.agg 2) 1 (fun _=>qv r' c')] (one (.bool (decide (r=r'∧c=c')))):=by
 unfold qv
 refine Ok.enter Tryz.func81 Z Tryz.ntmps81 Z (fun w O => ?_)
 refine ah (aj (An Z (Ap (aa (ah (ah (aj (Am Z (Al (be Z) ?_)))))))))
 refine Am Z (Al (be Z) (Al (sF S (dy Z Z)) (Ap (aa (aA Z (au (aa (ah (ah ?_)))))))))
 refine aj (Am Z (Al (be Z) (Am Z (Ap (aa (ar ?_))))))
 refine py 2 ?_
 by_cases h:r=r'∧c=c'
 ·obtain ⟨rfl,rfl⟩:=h
  refine ah (aj (Al (sT S (aS Z Z)) (Ap (aa (ah (az Z (au (aa (ah ?_)))))))))
  refine ar (ah (aj (Am Z (An Z (Ap (aa (ah (aZ 9 aV X Y (Am Z ?_)))))))))
  refine Am Z ?_
  (refine Al (ed Z Z ?_ ?_) ?_;omega;omega)
  refine Al (aH Z) (Am Z (Am Z ?_))
  (refine Al (ed Z Z ?_ ?_) ?_;omega;omega)
  refine Al (aH Z) ?_
  refine Al (sF (fun h=>h ⟨rfl,rfl⟩) (wO X Z Z)) ?_
  refine Ap (Ap (aa (aA Z (au (aD (aa (aj ?_)))))))
  (refine Al (cq Z Z (aR ?_ ?_)) ?_;omega;omega)
  refine Am Z (Ap (nn (ah (aj (Al (sF S (aS Z Z)) (Ap (aa (ah (aA Z ?_)))))))))
  refine aU (av (av (aC (aa (ah (aj (An Z (Ap (aa ?_)))))))))
  refine aG ?_
  refine aP Tryz.results81 (.tmp Z (aq (by simp)))
 ·have h2 : ¬ ((r:Int)=r'∧(c:Int)=c'):=fun hh=>h ⟨by omega,by omega⟩
  refine ah (aj (Al (sT S (aS Z Z)) (Ap (aa (ah (az Z (au (aa (ah ?_)))))))))
  refine ar (ah (aj (Am Z (An Z (Ap (aa (ah (aZ 9 aV X Y (Am Z ?_)))))))))
  refine Am Z ?_
  (refine Al (ed Z Z ?_ ?_) ?_;omega;omega)
  refine Al (aH Z) (Am Z (Am Z ?_))
  (refine Al (ed Z Z ?_ ?_) ?_;omega;omega)
  refine Al (aH Z) (Al (sT (by assumption) (wO X Z Z)) (Ap (Ap (aa (az Z (ah (aj (An Z (Ap ?_)))))))))
  refine aa (aG (a6 (aB (aB (a6 (aB ?_))))))
  refine aP Tryz.results81 (.tmp Z (aq (by simp [h])))
theorem wv (n:Nat) (b:Nat→Bool) (hn:n≤1048576):Ok Tryz.prog 109 [slT .one n (fun i=>one (.bool (b i))),one (.bool false)] (exT fun k:Int=>cE ((0≤k ↔ ¬ ∀ i,i<n→b i=true)) (one (.int .i64 k))):=by
 refine Ok.enter Tryz.func109 Z Tryz.ntmps109 Z (fun w O => ?_)
 refine ah (aj (An Z (Ap (aa (ah (ah (aj (Am Z (Al (be Z) ?_)))))))))
 refine Am Z (Ap (aa (ar (bV (Γ' := [(0,_),(1,_),(4,_),(7,_),(8,_)]) Ag (SubM.refl _) ?_))))
 refine bv (σ:=Nat) (Γk := [(0,_),(1,_),(7,_)]) Ag (fun i => [(8,one (.int .i64 (i:Nat)))]) (fun i M0=>M0) (fun i=>i≤n ∧ ∀ j,j<i→b j=true) (fun i=>n - i) (0) (⟨Nat.zero_le _,fun j hj=>absurd hj (Nat.not_lt_zero _)⟩) Ah (.nil) (fun i hi => ?_)
 refine bK (Γ' := [(8,_),(0,_),(1,_),(7,_)]) (M' := []) Z Z (ah (aj (Al (aS Z Z) (Ap (aa (ah ?_))))))
 refine mY Z (fun hc => ?_) (fun hc => ?_)
 ·have hin:i<n:=by omega
  refine au (aa (ah (ar (ah (aj (Am Z (An Z (Ap (aa ?_)))))))))
  refine ah (aj (Am Z (Am Z (Am Z ?_))))
  (refine Al (ax Z Z ?_) ?_;omega)
  refine Al (aH Z) (Al (pk Z Z) (Ap (aa ?_)))
  refine wN Z (fun hb => ?_) (fun hb => ?_)
  ·have hb:b i=false:=by simpa using hb
   refine ah (aj (Am Z (An Z (Ap (aa (aG (a6 (aB (aB ?_)))))))))
   refine a6 (aB ?_)
   refine aP Tryz.results109 (.tmp Z (l7 (i:Int) (jT ⟨fun _ hall=>absurd (hall i hin) (by simp [hb]),fun _=>by omega⟩ W)))
  ·have hb:b i=true:=by simpa using hb
   refine au (aD (aa (aj (Al (bn _ 1 Z Z S) (Am Z (Ap ?_))))))
   refine aJ (i+1) (⟨by omega,fun j hj=>(Nat.lt_succ_iff_lt_or_eq.1 hj).elim (hi.2 j) (fun e=>by subst e;exact hb)⟩) S Ah (.nil)
 ·refine aU (av (av (aC (aa (ah (aj (An Z (Ap (aa ?_)))))))))
  refine aG ?_
  refine aP Tryz.results109 (.tmp Z (l7 (-1:Int) (jT ⟨fun h=>by omega,fun h=>absurd (fun j hj=>hi.2 j S) h⟩ W)))
theorem vi (n:Nat) (b:Nat→Bool) (hn:n≤1048576):Ok Tryz.prog 85 [slT .one n (fun i=>one (.bool (b i))),one (.bool false)] (exT fun t:Bool=>cE ((t=true ↔ ¬ ∀ i,i<n→b i=true)) (one (.bool t))):=by
 refine Ok.enter Tryz.func85 Z Tryz.ntmps85 Z (fun w O => ?_)
 refine ah (aj (An Z (Ap (aa (ah (aj (Am Z (Am Z ?_))))))))
 have hI:=(wv n b hn).toM
 refine eu hI Z ⟨W,W,Aq⟩ Z Z (fun s => ?_)
 obtain ⟨k,hk⟩:=s
 refine Al (fd Z Z) (An Z (Ap (aa (aG ?_))))
 refine aP Tryz.results85 (.tmp Z (l7 _ (jT (by simpa using hk) W)))
theorem xA (x y:Int):Ok Tryz.prog 83 [bm x,bm y] (one (.bool (decide (x=y)))):=by
 refine Ok.enter Tryz.func83 Z Tryz.ntmps83 Z (fun w O => ?_)
 refine ah (aj ?_)
 refine nj Z Z (ltN Z) (fun b2 => ?_)
 refine nj Z Z (ltN Z) (fun b3 => ?_)
 refine An Z (Ap (aa (ah (aj (Al (ak 1 Z Z Z) (Al (ak 0 Z Z Z) ?_))))))
 refine Al (am (iq _ _) Z ⟨W,W,Aq⟩) ?_
 refine Al (cj Z Z) (An Z (Ap (aa (aG ?_))))
 refine aP Tryz.results83 (.tmp Z (aq (by congr 1;unfold ev;simp;split <;> (try split) <;> simp <;> omega)))
theorem lP {L:Lay} {φ:VT} : VT.le (slT L 1 (fun q => [φ].reverse.getD q bS)) (slT L 1 (fun _=>φ)):=fe fun i hi=>by
 have:i=0:=by omega
 subst this;exact VT.le_refl _
theorem nN (ra ca:Nat) (F:Nat→Nat→Int) (rb cb:Nat) (G:Nat→Nat→Int) (h1:ra≤1048576) (h2:ca≤1048576) :
  Ok Tryz.prog 46 [bp ra ca F,bp rb cb G] (one (.bool (decide (ra=rb∧ca=cb∧tab ra ca F=tab rb cb G)))):=by
 have hv:=nB ra ca F rb cb G
 have hs1:=qw ra ca F
 have hs2:=qw rb cb G
 have hq:=wu ra ca rb cb
 refine Ok.enter Tryz.func46 Z Tryz.ntmps46 Z (fun w O => ?_)
 by_cases hne:ra=rb∧ca=cb
 ·obtain ⟨rfl,rfl⟩:=hne
  rw [decide_eq_true ⟨rfl,rfl⟩] at hq
  unfold bp at *
  refine ah (aj ?_)
  refine aY Z Z (ltN Z) (fun b2 => ?_)
  refine aY Z Z (ltN Z) (fun b3 => ?_)
  refine An Z (Ap (aa (ah (ah (aZ 15 aV X Y (Al (aL 1 Z Z) (Al (aL 0 Z Z) (stS Z Z Z Z (PartsK.cons Z ?_)))))))))
  refine PartsK.cons Z (PartsK.nil ?_)
  refine Al (am (hv) Z ⟨(mv),Aq⟩) ?_
  refine Al (bx Z) (Am Z (Ao (aL 1 Z Z) (oa Z Z Z Z Z Z (PartsK.cons Z (PartsK.nil ?_)))))
  refine Ao (am (hs1) Z ⟨(lP),Aq⟩) ?_
  refine Ao (aL 0 Z Z) (oa Z Z Z Z Z Z (PartsK.cons Z (PartsK.nil ?_)))
  refine Ao (am (hs2) Z ⟨(lP),Aq⟩) ?_
  refine Ao (am (hq) Z ⟨W,W,Aq⟩) ?_
  refine Ao (bx Z) (Al (ay Z Z) (Ap (Ap (aa (aA Z (au (aa (ah (aj ?_)))))))))
  refine An Z (Ap (aa (ah (ah (aj (Al (ab Z) (Al (ak 1 Z Z Z) (Al (be Z) (Am Z ?_)))))))))
  refine Ap (aa (ar (bV (Γ' := [(3,_),(4,_),(5,_),(24,_),(25,_),(26,_)]) Ag (SubM.refl _) ?_)))
  refine bv (σ:=Nat) (Γk := [(3,_),(5,_),(24,_),(25,_)]) Ag (fun i => [(26,one (.int .i64 (i:Nat)))]) (fun i M0=>M0) (fun i=>i≤ra ∧ ∀ j,j<i → ∀ k,k<ca→F j k=G j k) (fun i=>ra - i) (0) (⟨Nat.zero_le _,fun j hj=>absurd hj (Nat.not_lt_zero _)⟩) Ah (.keep Ak (.keep Ak (.nil))) (fun i hi => ?_)
  refine bK (Γ' := [(26,_),(3,_),(5,_),(24,_),(25,_)]) (M' := [_,_]) Z Z ?_
  have hcb:=uF ca (fun k=>bm (F i k)) (fun k=>bm (G i k)) (fun k=>one (.bool (decide (F i k=G i k)))) (one (.func (.func 83) #[] #[])) h2 (fun k hk=>gM.fn (xA _ _))
  have hct:=(vi ca (fun k=>decide (F i k=G i k)) h2).toM
  refine ah (aj (Al (aS Z Z) (Ap (aa (ah ?_)))))
  refine mY Z (fun hc => ?_) (fun hc => ?_)
  ·refine au (aa (ah (ar (ah (aj (Am Z ?_))))))
   (refine Al (ax Z Z ?_) ?_;omega)
   refine Al (aH Z) (An Z (An Z (Ap (aa (ah (aj (Am Z (Al (ab Z) (Al (ak 0 Z Z Z) ?_)))))))))
   refine Am Z ?_
   (refine Al (ax Z Z ?_) ?_;omega)
   refine Al (aH Z) (Am Z ?_)
   refine Al (am (hcb) Z ⟨W,W,W,Aq⟩) ?_
   refine eu (hct) Z ⟨W,W,Aq⟩ Z Z (fun s39 => ?_)
   refine Ap (aa ?_)
   obtain ⟨t,ht⟩:=s39
   refine wN Z (fun hb => ?_) (fun hb => ?_)
   ·have hb:t=true:=hb
    subst hb
    refine ah (aj (An Z (Ap (aa (aG (a6 (aB (aB (a6 ?_)))))))))
    refine aB ?_
    refine aP Tryz.results46 (.tmp Z (aq (by congr 1;rw [decide_eq_false]; intro h;exact (ht.1 Z) (fun k hk=>decide_eq_true (vT h.2.2 S hk)))))
   ·have hb:t=false:=hb
    subst hb
    refine au (aD (aa (aj (Al (bn _ 1 Z Z S) (Am Z (Ap ?_))))))
    have hall : ∀ k,k<ca→F i k=G i k:=fun k hk=>by
     have h3 : ¬ ¬ ∀ k,k<ca→decide (F i k=G i k)=true:=fun h4=>by have:=ht.2 h4;cases this
     exact of_decide_eq_true (Classical.not_not.1 h3 k hk)
    refine aJ (i+1) (⟨by omega,fun j hj=>(Nat.lt_succ_iff_lt_or_eq.1 hj).elim (hi.2 j) (fun e=>by subst e;exact hall)⟩) S Ah (.keep Ak (.keep Ak (.nil)))
  ·refine aU (av (av (aC (aa (ah (aj (An Z (Ap (aa ?_)))))))))
   refine aG ?_
   refine aP Tryz.results46 (.tmp Z (aq (by congr 1;rw [decide_eq_true]; exact ⟨rfl,rfl,s8 fun a b ha hb=>hi.2 a S b hb⟩)))
 ·rw [decide_eq_false hne] at hq
  unfold bp at *
  refine ah (aj ?_)
  refine aY Z Z (ltN Z) (fun b2 => ?_)
  refine aY Z Z (ltN Z) (fun b3 => ?_)
  refine An Z (Ap (aa (ah (ah (aZ 15 aV X Y (Al (aL 1 Z Z) (Al (aL 0 Z Z) (stS Z Z Z Z (PartsK.cons Z ?_)))))))))
  refine PartsK.cons Z (PartsK.nil ?_)
  refine Al (am (hv) Z ⟨(mv),Aq⟩) ?_
  refine Al (bx Z) (Am Z (Ao (aL 1 Z Z) (oa Z Z Z Z Z Z (PartsK.cons Z (PartsK.nil ?_)))))
  refine Ao (am (hs1) Z ⟨(lP),Aq⟩) ?_
  refine Ao (aL 0 Z Z) (oa Z Z Z Z Z Z (PartsK.cons Z (PartsK.nil ?_)))
  refine Ao (am (hs2) Z ⟨(lP),Aq⟩) ?_
  refine Ao (am (hq) Z ⟨W,W,Aq⟩) ?_
  refine Ao (bx Z) (Al (ay Z Z) (Ap (Ap (aa (az Z (ah (aj (An Z (Ap ?_)))))))))
  refine aa (aG (aB ?_))
  refine aP Tryz.results46 (.tmp Z (aq (by congr 1;rw [decide_eq_false (fun h=>hne ⟨h.1,h.2.1⟩)])))
end Tor
end
section
namespace Tor
open Go Go.RowKit Go.Proofs
structure ValI (r c:Nat) (A M U V:Nat→Nat→Int) (row col:Nat) (done:Bool):Prop where
 le:row≤col
 dn:done=decide (row=r∨col=c)
 ua:tab r c (fG r U A)=tab r c M
 uv:tab r r (fG r U V)=tab r r idF
 low : ∀ i j,row≤i→i<r→j<col→M i j=0
 form:IsH row col M
 last:row=0∨bH col (M (row - 1))<col
def xW (ra ca rm cm ru cu rv cv:Nat) (A M U V:Nat→Nat→Int) (row col:Int) (done:Bool):Prop:=jr ra ca rm cm ru cu rv cv row col=true∧ValI ra ca A M U V row.toNat col.toNat done
noncomputable def qx (r c:Nat) (A M U V:Nat→Nat→Int) (row col:Nat) (done:Bool):Bool := @decide (ValI r c A M U V row col done) (Classical.propDecidable _)
theorem lc {r c:Nat} {A M U V:Nat→Nat→Int} {row col:Nat} {done:Bool} (h:ValI r c A M U V row col done):qx r c A M U V row col done=true := @decide_eq_true _ (Classical.propDecidable _) h
theorem ro {r c:Nat} {A M U V:Nat→Nat→Int} {row col:Nat} {done:Bool} (h : ¬ ValI r c A M U V row col done):qx r c A M U V row col done=false := @decide_eq_false _ (Classical.propDecidable _) h
noncomputable def vj (ra ca rm cm ru cu rv cv:Nat) (A M U V:Nat→Nat→Int) (row col:Int) (done:Bool):Bool := @decide (xW ra ca rm cm ru cu rv cv A M U V row col done) (Classical.propDecidable _)
theorem jL {ra ca rm cm ru cu rv cv:Nat} {A M U V:Nat→Nat→Int} {row col:Int} {done:Bool} (h : ¬ xW ra ca rm cm ru cu rv cv A M U V row col done):vj ra ca rm cm ru cu rv cv A M U V row col done=false := @decide_eq_false _ (Classical.propDecidable _) h
theorem vk {ra ca rm cm ru cu rv cv:Nat} {A M U V:Nat→Nat→Int} {row col:Nat} {done:Bool} (h:jr ra ca rm cm ru cu rv cv row col=true):vj ra ca rm cm ru cu rv cv A M U V row col done=qx ra ca A M U V row col done:=by
 unfold vj qx
 exact @decide_eq_decide _ _ (Classical.propDecidable _) (Classical.propDecidable _) |>.2 ⟨fun e=>e.2,fun e=>⟨h,e⟩⟩
theorem qy (n:Nat) (f:Nat→Int):Ok Tryz.prog 48 [cX n f] (one (.bool (decide (bH n f=n)))):=(vU _).le ⟨pT n f,Aq⟩ (aq (by
 congr 1
 rw [Bool.eq_iff_iff,List.all_eq_true,decide_eq_true_iff,uM]
 constructor
 ·intro h k hk;exact of_decide_eq_true (h _ (List.mem_map.2 ⟨k,List.mem_range.2 hk,rfl⟩))
 ·intro h x hx
  obtain ⟨k,hk,rfl⟩:=List.mem_map.1 hx
  exact decide_eq_true (h k (List.mem_range.1 hk))))
theorem pa {c:Nat} {f:Nat→Int} : VT.le (slT (.agg 2) ((c:Int) - 0).toNat fun j=>bm (f (Int.toNat 0+j))) (cX c f):=cL S fun q hq=>by
 rw [show Int.toNat 0+q=q from Nat.zero_add q]
theorem tJ {bo r i c:Nat} {M:Nat→Nat→Int} : Own.le (a8 (some bo) 57 .one r r (upd (fun q=>if q<i then cX c (M q) else bS) i (slT (.agg 2) ((c:Int) - 0).toNat fun j=>bm (M i (Int.toNat 0+j))))) (a8 (some bo) 57 .one r r (fun q=>if q<i+1 then cX c (M q) else bS)):=eW fun q hq=>by
 unfold upd
 by_cases h:q=i
 ·subst h;rw [if_pos Z,if_pos S]; exact pa
 ·rw [if_neg h]
  dsimp only
  by_cases h2:q<i
  ·rw [if_pos h2,if_pos S]; exact VT.le_refl _
  ·rw [if_neg h2,if_neg S]; exact VT.le_refl _
theorem tK {bo r i c:Nat} {M:Nat→Nat→Int} (h:r≤i):Own.le (a8 (some bo) 57 .one r r (fun q=>if q<i then cX c (M q) else bS)) (a8 (some bo) 57 .one r r (fun q=>if q<i+1 then cX c (M q) else bS)):=eW fun q hq=>by
 rw [if_pos S,if_pos S]; exact VT.le_refl _
attribute [local irreducible] J PJ aQ one slT cA bG bZ exT cE eP aX a8 slV VT.le Ret bS
attribute [local irreducible] bX bm
set_option maxRecDepth 100000 in
theorem nO (r c:Nat) (A M U V:Nat→Nat→Int) (r0 c0:Nat) (done:Bool) (hr:r≤1048576) (hc:c≤1048576) (hr0:r0≤r) (hc0:c0≤c) (hmA : ∀ i j,cx (A i j)) (hmM : ∀ i j,cx (M i j)) (hmU : ∀ i j,cx (U i j)) (hmV : ∀ i j,cx (V i j)) :
  Ok Tryz.prog 19 [jq (bp r c A) (bp r c M) (bp r r U) (bp r r V) r0 c0 (one (.bool done))] (one (.bool (qx r c A M U V r0 c0 done))):=by
 have hf1:=jI r c r c r r r r A M U V r0 c0 (one (.bool done))
 have hfit:jr r c r c r r r r r0 c0=true:=decide_eq_true S
 rw [hfit] at hf1
 have hf2:=dP r c (slT .one r fun i=>cX c (A i)) (bp r c M) (bp r r U) (bp r r V) r0 c0 (one (.bool done))
 rw [gX] at hf2
 have hm1:=qh r r U r c A hr hr hc hmU hmA
 have hm2:=qh r r U r r V hr hr hr hmU hmV
 rw [decide_eq_true (show r=r from rfl)] at hm1 hm2
 unfold nI at hm1 hm2
 simp only [if_true] at hm1 hm2
 have he1:=nN r c (fG r U A) r c M hr hc
 have he2:=nN r r (fG r U V) r r idF hr hr
 have hid:=qf r hr
 rw [show (fun i j=>if i=j then (1:Int) else 0)=idF from rfl] at hid
 rw [show decide (r=r∧c=c∧tab r c (fG r U A)=tab r c M)=decide (tab r c (fG r U A)=tab r c M) from decide_eq_decide.2 ⟨fun h=>h.2.2,fun h=>⟨rfl,rfl,h⟩⟩] at he1
 rw [show decide (r=r∧r=r∧tab r r (fG r U V)=tab r r idF)=decide (tab r r (fG r U V)=tab r r idF) from decide_eq_decide.2 ⟨fun h=>h.2.2,fun h=>⟨rfl,rfl,h⟩⟩] at he2
 refine Ok.enter Tryz.func19 Z Tryz.ntmps19 Z (fun w O => ?_)
 have hno : ¬ ValI r c A M U V r0 c0 done→qx r c A M U V r0 c0 done=false:=fun h=>ro h
 by_cases hle:r0≤c0
 ·by_cases hdn:done=decide (r0=r∨c0=c)
  ·rw [← hdn] at hf2
   have hbb:(!(done == done))=false:=by cases done <;> rfl
   by_cases hua:tab r c (fG r U A)=tab r c M
   ·by_cases huv:tab r r (fG r U V)=tab r r idF
    ·refine ah (aj ?_)
     refine aY Z Z (ltN Z) (fun b1 => ?_)
     refine An Z (Ap (aa (ah (ah (aZ 17 aV X Y (Al (aL 0 Z Z) ?_))))))
     refine Al (am (hf1) Z ⟨W,Aq⟩) ?_
     refine Al (bx Z) (Am Z (Ao (ab Z) (Ao (ak 0 Z Z Z) (Ao (ab Z) (Ao (ak 0 Z Z Z) (Ao (sF S (dS Z Z)) (Al (ay Z Z) (Am Z (Ao (ab Z) ?_)))))))))
     refine Ao (ak 0 Z Z Z) (Ao (aL 0 Z Z) ?_)
     refine Ao (am (hf2) Z ⟨W,Aq⟩) ?_
     refine Ao (sBf (by assumption) (f7 Z Z)) (Al (ay Z Z) (Ap (Ap (aa (aA Z (au (aa (ah (ah ?_)))))))))
     refine aj (Al (ab Z) (Al (ak 0 Z Z Z) (Al (ab Z) (Al (ak 0 Z Z Z) ?_))))
     refine Al (am (hm1) Z ⟨W,W,Aq⟩) ?_
     refine Am Z (Al (aN Z Z) (Al (aN Z Z) ?_))
     refine a7 (T:=29) Z Z Z (fun b3 => ?_)
     refine aW 0 Z Z Z Z (An Z (Ap (aa (ah (aj (Am Z (Al (sF S (dy Z Z)) (Am Z (Ao (aL 0 Z Z) ?_)))))))))
     refine Ao (ab Z) (Ao (ak 1 Z Z Z) ?_)
     refine Ao (sT (by assumption) (am (he1) Z ⟨W,W,Aq⟩)) ?_
     refine Ao (bx Z) (Al (ay Z Z) (Ap (aa (aA Z (au (aa (ah (ah (aj ?_)))))))))
     refine Al (ab Z) (Al (ak 1 Z Z Z) (Al (ab Z) (Al (ak 1 Z Z Z) ?_)))
     refine Al (am (hm2) Z ⟨W,W,Aq⟩) ?_
     refine Am Z (Al (aN Z Z) (Al (aN Z Z) ?_))
     refine a7 (T:=29) Z Z Z (fun b5 => ?_)
     refine aW 0 Z Z Z Z (An Z (Ap (aa (ah (aZ 11 aV X Y (Am Z (Al (sF S (dy Z Z)) (Am Z (Ao (aL 0 Z Z) ?_)))))))))
     refine Ao (ab Z) (Ao (ab Z) (Ao (aw 2 0 0 Z Z Z Z Z) ?_))
     refine Ao (am (hid) Z ⟨W,Aq⟩) ?_
     refine Ao (sT (by assumption) (am (he2) Z ⟨W,W,Aq⟩)) ?_
     refine Ao (bx Z) (Al (ay Z Z) (Ap (Ap (aa (aA Z (au (aa (ah ?_))))))))
     refine bV (Γ' := [(2,one (.bool false)),(1,one (.pointer (some ⟨b1,0,none⟩)))]) (M' := [aX b1 32 15 (kX (bp r c A) (bp r c M) (bp r r U) (bp r r V) r0 c0 (one (.bool done)))]) Aj (.drop (.drop (SubM.refl _))) ?_
     refine qS aV X X (fun a1 w1 hS1 => ?_)
     refine ux (fun B=>ab Z) Z Z ?_
     refine ux (fun B=>ak 0 Z Z Z) Z Z ?_
     refine ux (fun B=>ab Z) Z Z ?_
     refine ux (fun B=>ak 0 Z Z Z) Z Z ?_
     refine ux (fun B=>ab Z) Z Z ?_
     refine ux (fun B=>ak 0 Z Z Z) Z Z ?_
     refine ux (fun B=>ig w1.heap.size r0 Z Z Z Z Z Z Z ?_) Z Z ?_
     ·omega
     refine uB Z Z Z (BuildK.cons Z Z Z (BuildK.cons Z Z Z (BuildK.cons Z Z Z (BuildK.nil (ua Z (us Z ?_))))))
     refine RunU.nil (fun γ a2 w2 hS2 hx hk2 => ?_)
     obtain ⟨bo,hS3⟩:=jB (t:=7) (b:=γ 7) (T:=29) (m:=3) (k:=2) (n:=r0) (cs1 := [(0, .one,one (.int .i64 r0)),(1, .one,one (.int .i64 c0))])
      (Γk := [(2,one (.bool false)),(1,one (.pointer (some ⟨b1,0,none⟩)))])
      hS1 Z hS2 hx hk2 (.cons Z X (.cons Z X .nil)) Z Z (fun q hq=>by
       rcases List.mem_cons.1 hq with rfl | hq
       ·exact ⟨_,rfl,rfl⟩
       rcases List.mem_cons.1 hq with rfl | hq
       ·exact ⟨_,rfl,rfl⟩
       cases hq)
     generalize γ 7=b7 at hS3
     refine qT ?_ hS3
     clear hS3 hS2 hx hk2 hS1
     refine aa (ah (ah (aj (Al (ab Z) (Al (ab Z) (Al (aw 2 3 2 Z Z Z Z Z) (Al (be Z) (Am Z (Ap ?_)))))))))
     refine aa (ar (bV (Γ' := [(1,_),(2,_),(7,_),(73,_),(74,_),(75,_)]) Ag (SubM.refl _) ?_))
     refine bv (σ:=Nat) (Γk := [(1,_),(7,_),(73,_),(74,_)]) Ag (fun i => [(75,one (.int .i64 (i:Nat)))]) (fun i M0=>(M0.set 1 (a8 (some bo) 57 .one r0 r0 (fun q=>if q<i then cX c0 (M q) else bS)))) (fun i=>i≤r ∧ ∀ q,r0≤q→q<i → ∀ j,j<c0→M q j=0) (fun i=>r - i) (0) (⟨Nat.zero_le _,fun q h1 h2=>absurd h2 (Nat.not_lt_zero q)⟩) Ah (.keep Ak (.keep (eW fun q hq=>by simp only [Nat.not_lt_zero,if_false]; exact kS _) (.keep Ak (.nil)))) (fun i hi => ?_)
     refine bK (Γ' := [(75,_),(1,_),(7,_),(73,_),(74,_)]) (M' := [_,_,_]) Z Z ?_
     obtain ⟨hi1,hi2⟩:=hi
     by_cases hi:i<r
     ·by_cases hir:i<r0
      ·unfold cX
       refine ah (aj (Al (sT S (aS Z Z)) (Ap (aa (ah (az Z (au (aa (ah ?_)))))))))
       refine ar (ah (aj (Am Z (Al (ax Z Z S) (Al (aH Z) (An Z (An Z (Ap (aa ?_)))))))))
       refine ah (aj (Am Z (Al (ab Z) (Al (ak 2 Z Z Z) (Al (sT S (aS Z Z)) (Ap (aa (az Z (aZ 9 aV X Y ?_)))))))))
       refine Al (ab Z) (Al (ak 0 Z Z Z) (Am Z (Am Z (Al (ab Z) (Al (ak 2 Z Z Z) (Al (ab Z) (Al (ak 2 Z Z Z) ?_)))))))
       refine Al (fx Z Z Z Z (fun _=>rfl) S S S S) ?_
       refine Ap (Al (an Z Z S) ?_)
       (refine bD 1 Z Z Z ?_ Z ?_;omega)
       refine Ap (aD (aa (aj (Al (bn _ 1 Z Z S) (Am Z (Ap ?_))))))
       refine aJ (i+1) (⟨hi,fun q h1 h2=>absurd h2 S⟩) S Ah (.keep Ak (.keep (tJ) (.keep Ak (.nil))))
      ·have hz:=qy c0 (M i)
       by_cases h0:bH c0 (M i)=c0
       ·rw [decide_eq_true h0] at hz
        unfold cX
        refine ah (aj (Al (sT S (aS Z Z)) (Ap (aa (ah (az Z (au (aa (ah ?_)))))))))
        refine ar (ah (aj (Am Z (Al (ax Z Z S) (Al (aH Z) (An Z (An Z (Ap (aa ?_)))))))))
        refine ah (aj (Am Z (Al (ab Z) (Al (ak 2 Z Z Z) (Al (sF S (aS Z Z)) (Ap (aa (aA Z (ah ?_)))))))))
        refine aj (Am Z (Al (ab Z) (Al (ak 2 Z Z Z) ?_)))
        refine Al (fx Z Z Z Z (fun _=>rfl) S S S S) ?_
        refine Al (am (hz) Z ⟨(pa),Aq⟩) ?_
        refine Al (bx Z) (Ap (aa (aA Z (au (aD (aa (aj (Al (bn _ 1 Z Z S) (Am Z ?_)))))))))
        refine Ap ?_
        refine aJ (i+1) (⟨hi,fun q h1 h2=>by rcases Nat.lt_or_eq_of_le (Nat.lt_succ_iff.1 h2) with h | h;exact hi2 q h1 h;exact h▸uM.1 h0⟩) S Ah (.keep Ak (.keep (tK S) (.keep Ak (.nil))))
       ·rw [decide_eq_false h0] at hz
        rw [hno (fun e=>h0 (uM.2 fun k hk=>e.low i k S hi hk))]
        unfold cX
        refine ah (aj (Al (sT S (aS Z Z)) (Ap (aa (ah (az Z (au (aa (ah ?_)))))))))
        refine ar (ah (aj (Am Z (Al (ax Z Z S) (Al (aH Z) (An Z (An Z (Ap (aa ?_)))))))))
        refine ah (aj (Am Z (Al (ab Z) (Al (ak 2 Z Z Z) (Al (sF S (aS Z Z)) (Ap (aa (aA Z (ah ?_)))))))))
        refine aj (Am Z (Al (ab Z) (Al (ak 2 Z Z Z) ?_)))
        refine Al (fx Z Z Z Z (fun _=>rfl) S S S S) ?_
        refine Al (am (hz) Z ⟨(pa),Aq⟩) ?_
        refine Al (bx Z) (Ap (aa (az Z (ah (aj (An Z (Ap (aa (aG ?_)))))))))
        refine a6 (aB (aB (a6 (aB ?_))))
        refine aP Tryz.results19 (.tmp Z W)
     ·have hie:i=r:=by omega
      subst hie
      refine ah (aj (Al (sF S (aS Z Z)) (Ap (aa (ah (aA Z (aU (av (av ?_)))))))))
      refine aC (aa (ah ?_))
      refine w8 [a8 (some bo) 57 .one r0 r0 fun q=>if q<i then cX c0 (M q) else bS] (Kp := [_,_]) (Kp' := [aX b7 29 3 [(0, .one,one (.int .i64 r0)),(1, .one,one (.int .i64 c0)),(2, .one,slT .one r0 fun q=>cX c0 (M q))],_]) (List.Perm.swap _ _ _) (.keep (vF.box (.cons (bE 1 Z) (Ent.refl _) (.cons (bE 2 Z) (Ent.refl _) (.cons (bE 0 Z) (Ent.slE List.mem_cons_self fun q hq=>Ent.le (by rw [if_pos S]; exact VT.le_refl _)) .nil)))) (EntM.refl _)) (qN.refl _) ?_
      have hH:=wm r0 c0 M S S hmM
      by_cases hform:IsH r0 c0 M
      ·rw [jh hform] at hH
       by_cases hr00:r0=0
       ·rw [lc ⟨hle,hdn,hua,huv,fun q j h1 h2 h3=>hi2 q h1 h2 j h3,hform, .inl hr00⟩]
        refine aj (Al (aL 0 Z Z) ?_)
        refine Al (am (hH) Z ⟨W,Aq⟩) ?_
        refine Am Z (Ao (ab Z) (Ao (ak 1 Z Z Z) (Ao (sT S (cj Z Z)) (Ao (ae Z) (sn0 Z Z Z Z Z (sn0 Z Z Z Z Z (sn0 Z Z Z Z Z (sn0 Z Z Z Z Z (sn0 Z Z Z Z Z ?_)))))))))
        refine sn0 Z Z Z Z Z (sn0 Z Z Z Z Z (sn0 Z Z Z Z Z (sn0 Z Z Z Z Z (Ao (aE Z Z) (Al (aE Z Z) (An Z (Ap (aa (aG ?_)))))))))
        refine aP Tryz.results19 (.tmp Z W)
       ·have hz:=qy c0 (M (r0 - 1))
        have hll:=oB (c:=c0) (f:=M (r0 - 1))
        by_cases h0:bH c0 (M (r0 - 1))=c0
        ·rw [decide_eq_true h0] at hz
         rw [hno (fun e=>by have:=e.last;omega)]
         refine aj (Al (aL 0 Z Z) ?_)
         refine Al (am (hH) Z ⟨W,Aq⟩) ?_
         refine Am Z (Ao (ab Z) (Ao (ak 1 Z Z Z) (Ao (sF S (cj Z Z)) (Ao (ae Z) (Ao (ab Z) (Ao (ak 0 Z Z Z) (Ao (ab Z) (Ao (ak 1 Z Z Z) (Ao (dt _ 1 Z Z S S) ?_)))))))))
         refine Ao (ax Z Z S) (Ao (aH Z) ?_)
         refine Ao (am (hz) Z ⟨W,Aq⟩) ?_
         refine Ao (bx Z) (Ao (ay Z Z) (Al (aE Z Z) (An Z (Ap (aa (aG ?_))))))
         refine aP Tryz.results19 (.tmp Z W)
        ·rw [decide_eq_false h0] at hz
         rw [lc ⟨hle,hdn,hua,huv,fun q j h1 h2 h3=>hi2 q h1 h2 j h3,hform, .inr S⟩]
         refine aj (Al (aL 0 Z Z) ?_)
         refine Al (am (hH) Z ⟨W,Aq⟩) ?_
         refine Am Z (Ao (ab Z) (Ao (ak 1 Z Z Z) (Ao (sF S (cj Z Z)) (Ao (ae Z) (Ao (ab Z) (Ao (ak 0 Z Z Z) (Ao (ab Z) (Ao (ak 1 Z Z Z) (Ao (dt _ 1 Z Z S S) ?_)))))))))
         refine Ao (ax Z Z S) (Ao (aH Z) ?_)
         refine Ao (am (hz) Z ⟨W,Aq⟩) ?_
         refine Ao (bx Z) (Ao (ay Z Z) (Al (aE Z Z) (An Z (Ap (aa (aG ?_))))))
         refine aP Tryz.results19 (.tmp Z W)
      ·rw [hno (fun e=>hform e.form)]
       rw [jK hform] at hH
       refine aj (Al (aL 0 Z Z) ?_)
       refine Al (am (hH) Z ⟨W,Aq⟩) ?_
       refine Am Z (sn0 Z Z Z Z Z (sn0 Z Z Z Z Z (sn0 Z Z Z Z Z (sn0 Z Z Z Z Z (snU Z Z Z Z (snU Z Z Z Z (snU Z Z Z Z (snU Z Z Z Z (snU Z Z Z Z ?_)))))))))
       refine snU Z Z Z Z (snU Z Z Z Z (snU Z Z Z Z (snU Z Z Z Z (sn0 Z Z Z Z Z (Al (ay Z Z) (An Z (Ap (aa (aG ?_)))))))))
       refine aP Tryz.results19 (.tmp Z W)
    ·rw [hno (fun e=>huv e.uv)]
     refine ah (aj ?_)
     refine aY Z Z (ltN Z) (fun b1 => ?_)
     refine An Z (Ap (aa (ah (ah (aZ 17 aV X Y (Al (aL 0 Z Z) ?_))))))
     refine Al (am (hf1) Z ⟨W,Aq⟩) ?_
     refine Al (bx Z) (Am Z (Ao (ab Z) (Ao (ak 0 Z Z Z) (Ao (ab Z) (Ao (ak 0 Z Z Z) (Ao (sF S (dS Z Z)) (Al (ay Z Z) (Am Z (Ao (ab Z) ?_)))))))))
     refine Ao (ak 0 Z Z Z) (Ao (aL 0 Z Z) ?_)
     refine Ao (am (hf2) Z ⟨W,Aq⟩) ?_
     refine Ao (sBf (by assumption) (f7 Z Z)) (Al (ay Z Z) (Ap (Ap (aa (aA Z (au (aa (ah (ah ?_)))))))))
     refine aj (Al (ab Z) (Al (ak 0 Z Z Z) (Al (ab Z) (Al (ak 0 Z Z Z) ?_))))
     refine Al (am (hm1) Z ⟨W,W,Aq⟩) ?_
     refine Am Z (Al (aN Z Z) (Al (aN Z Z) ?_))
     refine a7 (T:=29) Z Z Z (fun b3 => ?_)
     refine aW 0 Z Z Z Z (An Z (Ap (aa (ah (aj (Am Z (Al (sF S (dy Z Z)) (Am Z (Ao (aL 0 Z Z) ?_)))))))))
     refine Ao (ab Z) (Ao (ak 1 Z Z Z) ?_)
     refine Ao (sT (by assumption) (am (he1) Z ⟨W,W,Aq⟩)) ?_
     refine Ao (bx Z) (Al (ay Z Z) (Ap (aa (aA Z (au (aa (ah (ah (aj ?_)))))))))
     refine Al (ab Z) (Al (ak 1 Z Z Z) (Al (ab Z) (Al (ak 1 Z Z Z) ?_)))
     refine Al (am (hm2) Z ⟨W,W,Aq⟩) ?_
     refine Am Z (Al (aN Z Z) (Al (aN Z Z) ?_))
     refine a7 (T:=29) Z Z Z (fun b5 => ?_)
     refine aW 0 Z Z Z Z (An Z (Ap (aa (ah (aZ 11 aV X Y (Am Z (Al (sF S (dy Z Z)) (Am Z (Ao (aL 0 Z Z) ?_)))))))))
     refine Ao (ab Z) (Ao (ab Z) (Ao (aw 2 0 0 Z Z Z Z Z) ?_))
     refine Ao (am (hid) Z ⟨W,Aq⟩) ?_
     refine Ao (sF (by assumption) (am (he2) Z ⟨W,W,Aq⟩)) ?_
     refine Ao (bx Z) (Al (ay Z Z) (Ap (Ap (aa (az Z (ah (aj (An Z (Ap ?_)))))))))
     refine aa (aG (aB ?_))
     refine aP Tryz.results19 (.tmp Z W)
   ·rw [hno (fun e=>hua e.ua)]
    refine ah (aj ?_)
    refine aY Z Z (ltN Z) (fun b1 => ?_)
    refine An Z (Ap (aa (ah (ah (aZ 17 aV X Y (Al (aL 0 Z Z) ?_))))))
    refine Al (am (hf1) Z ⟨W,Aq⟩) ?_
    refine Al (bx Z) (Am Z (Ao (ab Z) (Ao (ak 0 Z Z Z) (Ao (ab Z) (Ao (ak 0 Z Z Z) (Ao (sF S (dS Z Z)) (Al (ay Z Z) (Am Z (Ao (ab Z) ?_)))))))))
    refine Ao (ak 0 Z Z Z) (Ao (aL 0 Z Z) ?_)
    refine Ao (am (hf2) Z ⟨W,Aq⟩) ?_
    refine Ao (sBf (by assumption) (f7 Z Z)) (Al (ay Z Z) (Ap (Ap (aa (aA Z (au (aa (ah (ah ?_)))))))))
    refine aj (Al (ab Z) (Al (ak 0 Z Z Z) (Al (ab Z) (Al (ak 0 Z Z Z) ?_))))
    refine Al (am (hm1) Z ⟨W,W,Aq⟩) ?_
    refine Am Z (Al (aN Z Z) (Al (aN Z Z) ?_))
    refine a7 (T:=29) Z Z Z (fun b3 => ?_)
    refine aW 0 Z Z Z Z (An Z (Ap (aa (ah (aj (Am Z (Al (sF S (dy Z Z)) (Am Z (Ao (aL 0 Z Z) ?_)))))))))
    refine Ao (ab Z) (Ao (ak 1 Z Z Z) ?_)
    refine Ao (sF (by assumption) (am (he1) Z ⟨W,W,Aq⟩)) ?_
    refine Ao (bx Z) (Al (ay Z Z) (Ap (aa (az Z (ah (aj (An Z (Ap (aa ?_)))))))))
    refine aG (aB ?_)
    refine aP Tryz.results19 (.tmp Z W)
  ·rw [hno (fun e=>hdn e.dn)]
   have hbb:(!(done == decide (r0=r∨c0=c)))=true:=by
    generalize decide (r0=r∨c0=c)=b at *
    cases done <;> cases b <;> first | rfl | exact absurd Z hdn
   refine ah (aj ?_)
   refine aY Z Z (ltN Z) (fun b1 => ?_)
   refine An Z (Ap (aa (ah (ah (aZ 17 aV X Y (Al (aL 0 Z Z) ?_))))))
   refine Al (am (hf1) Z ⟨W,Aq⟩) ?_
   refine Al (bx Z) (Am Z (Ao (ab Z) (Ao (ak 0 Z Z Z) (Ao (ab Z) (Ao (ak 0 Z Z Z) (Ao (sF S (dS Z Z)) (Al (ay Z Z) (Am Z (Ao (ab Z) ?_)))))))))
   refine Ao (ak 0 Z Z Z) (Ao (aL 0 Z Z) ?_)
   refine Ao (am (hf2) Z ⟨W,Aq⟩) ?_
   refine Ao (sBt (by assumption) (f7 Z Z)) (Al (ay Z Z) (Ap (Ap (aa (az Z (ah (aj (An Z (Ap ?_)))))))))
   refine aa (aG (aB ?_))
   refine aP Tryz.results19 (.tmp Z W)
 ·rw [hno (fun e=>hle e.le)]
  refine ah (aj ?_)
  refine aY Z Z (ltN Z) (fun b1 => ?_)
  refine An Z (Ap (aa (ah (ah (aZ 17 aV X Y (Al (aL 0 Z Z) ?_))))))
  refine Al (am (hf1) Z ⟨W,Aq⟩) ?_
  refine Al (bx Z) (Am Z (Ao (ab Z) (Ao (ak 0 Z Z Z) (Ao (ab Z) (Ao (ak 0 Z Z Z) (Ao (sT S (dS Z Z)) (Al (ay Z Z) (Am Z (sn0 Z Z Z Z Z ?_)))))))))
  refine sn0 Z Z Z Z Z (sn0 Z Z Z Z Z (sn0 Z Z Z Z Z (sn0 Z Z Z Z Z (Al (aE Z Z) (Ap (Ap (aa (az Z (ah ?_)))))))))
  refine aj (An Z (Ap (aa (aG (aB ?_)))))
  refine aP Tryz.results19 (.tmp Z W)
set_option maxRecDepth 100000 in
theorem tL (ra ca rm cm ru cu rv cv:Nat) (A M U V:Nat→Nat→Int) (row col:Int) (done:Bool) (hf:jr ra ca rm cm ru cu rv cv row col=false) :
  Ok Tryz.prog 19 [jq (bp ra ca A) (bp rm cm M) (bp ru cu U) (bp rv cv V) row col (one (.bool done))] (one (.bool false)):=by
 have hf1:=jI ra ca rm cm ru cu rv cv A M U V row col (one (.bool done))
 have hf2:=dP ra ca (slT .one ra fun i=>cX ca (A i)) (bp rm cm M) (bp ru cu U) (bp rv cv V) row col (one (.bool done))
 rw [hf] at hf1
 refine Ok.enter Tryz.func19 Z Tryz.ntmps19 Z (fun w O => ?_)
 refine ah (aj ?_)
 refine aY Z Z (ltN Z) (fun b1 => ?_)
 refine An Z (Ap (aa (ah (ah (aZ 17 aV X Y (Al (aL 0 Z Z) ?_))))))
 refine Al (am (hf1) Z ⟨W,Aq⟩) ?_
 refine Al (bx Z) (Am Z (sn0 Z Z Z Z Z (sn0 Z Z Z Z Z (sn0 Z Z Z Z Z (sn0 Z Z Z Z Z (sn0 Z Z Z Z Z (Al (aE Z Z) (Am Z (sn0 Z Z Z Z Z ?_)))))))))
 refine sn0 Z Z Z Z Z (sn0 Z Z Z Z Z (sn0 Z Z Z Z Z (sn0 Z Z Z Z Z (Al (aE Z Z) (Ap (Ap (aa (az Z (ah ?_)))))))))
 refine aj (An Z (Ap (aa (aG (aB ?_)))))
 refine aP Tryz.results19 (.tmp Z W)
theorem nP (ra ca rm cm ru cu rv cv:Nat) (A M U V:Nat→Nat→Int) (row col:Int) (done:Bool) (hr:ra≤1048576) (hc:ca≤1048576) (hmA : ∀ i j,cx (A i j)) (hmM : ∀ i j,cx (M i j)) (hmU : ∀ i j,cx (U i j)) (hmV : ∀ i j,cx (V i j)) :
  Ok Tryz.prog 19 [jq (bp ra ca A) (bp rm cm M) (bp ru cu U) (bp rv cv V) row col (one (.bool done))] (one (.bool (vj ra ca rm cm ru cu rv cv A M U V row col done))):=by
 cases hf:jr ra ca rm cm ru cu rv cv row col with
 | false =>
  rw [jL (fun e=>by have:=e.1;rw [hf] at this;cases this)]
  exact tL ra ca rm cm ru cu rv cv A M U V row col done hf
 | true =>
  obtain ⟨rfl,rfl,rfl,rfl,rfl,rfl,h1,h2,h3,h4⟩:=of_decide_eq_true hf
  obtain ⟨r0,rfl⟩:=Int.eq_ofNat_of_zero_le h1
  obtain ⟨c0,rfl⟩:=Int.eq_ofNat_of_zero_le h3
  rw [show vj _ _ _ _ _ _ _ _ A M U V (r0:Int) (c0:Int) done=qx _ _ A M U V r0 c0 done from vk hf]
  exact nO _ _ A M U V r0 c0 done hr hc S S hmA hmM hmU hmV
end Tor
end
section
namespace Tor
open Go Go.RowKit Go.Proofs
abbrev lB (h u v:VT):cf := [(0, .agg 3,h),(3, .agg 3,u),(6, .agg 3,v)]
abbrev mO (h u v:VT):VT:=bG 9 (lB h u v)
theorem qz {Ms:Mem} {h h' u u' v v':VT} (hm:Ent Ms h h') (hu:Ent Ms u u') (hv:Ent Ms v v'):n7 Ms (lB h u v) (lB h' u' v') :=
 .cons (bE 0 Z) hm (.cons (bE 1 Z) hu (.cons (bE 2 Z) hv .nil))
def t5W:Nat→S3→VT→VT→VT
 | 2, s, φ, ψ => φ
 | _, s, φ, ψ => ψ
def t5N:Nat→S3→Mem→Mem→Mem→Mem
 | 2, s, φ, ψ, χ => φ
 | 5, s, φ, ψ, χ => ψ
 | _, s, φ, ψ, χ => χ
attribute [local irreducible] J PJ aQ one slT cA bG bZ exT cE eP aX a8 slV VT.le Ret bS
attribute [local irreducible] bX
set_option maxRecDepth 100000 in
theorem rp (r c:Nat) (A M U V:VT) (row col:Nat) (d:VT) (hv:Ok Tryz.prog 19 [jq (gn r c A) M U V row col d] (one (.bool true))) (hf : ¬ (row=r∨col=c)) :
  Ok Tryz.prog 20 [jq (gn r c A) M U V row col d] (bZ [bG 9 [],one (.int .i64 210)]):=by
 have hf2:=dP r c A M U V row col d
 rw [gX,decide_eq_false hf] at hf2
 refine Ok.enter Tryz.func20 Z Tryz.ntmps20 Z (fun w O => ?_)
 refine ah (aj ?_)
 refine aY Z Z (ltN Z) (fun b1 => ?_)
 refine a7 (T:=43) Z Z Z (fun b2 => ?_)
 refine An Z (Ap (aa (ah (ah (aj (Al (aL 1 Z Z) ?_))))))
 refine Al (am (hv) Z ⟨W,Aq⟩) ?_
 refine Al (bx Z) (Am Z (Ao (aL 1 Z Z) ?_))
 refine Ao (am (hf2) Z ⟨W,Aq⟩) ?_
 refine Ao (bx Z) (Al (ay Z Z) (Ap (aa (az Z (ah (aj (stB Z Z Z (BuildK.nil (aW 0 Z Z Z Z ?_)))))))))
 refine An Z (Ap (aa (aG (aB ?_))))
 exact gr Tryz.results20 (.cellW 0 Z Z (ej fun q hq=>by cases hq)) (.tmp Z W)
set_option maxRecDepth 100000 in
theorem tM (r c:Nat) (A:VT) (M U V:Nat→Nat→Int) (row col:Nat) (d:VT) (hr:r≤1048576) (hc:c≤1048576) (hv:Ok Tryz.prog 19 [jq (gn r c A) (bp r c M) (bp r r U) (bp r r V) row col d] (one (.bool true))) (hf:row=r∨col=c) :
  Ok Tryz.prog 20 [jq (gn r c A) (bp r c M) (bp r r U) (bp r r V) row col d] (bZ [mO (bp r c M) (bp r r U) (bp r r V),one (.int .i64 0)]):=by
 have hf2:=dP r c A (bp r c M) (bp r r U) (bp r r V) row col d
 rw [gX,decide_eq_true hf] at hf2
 have hcm:=fa (eM r c M hr hc)
 have hcu:=fa (eM r r U hr hr)
 have hcv:=fa (eM r r V hr hr)
 refine Ok.enter Tryz.func20 Z Tryz.ntmps20 Z (fun w O => ?_)
 refine ah (aj ?_)
 refine aY Z Z (ltN Z) (fun b1 => ?_)
 refine a7 (T:=43) Z Z Z (fun b2 => ?_)
 refine An Z (Ap (aa (ah (ah (aj (Al (aL 1 Z Z) ?_))))))
 refine Al (am (hv) Z ⟨W,Aq⟩) ?_
 refine Al (bx Z) (Am Z (Ao (aL 1 Z Z) ?_))
 refine Ao (am (hf2) Z ⟨W,Aq⟩) ?_
 refine Ao (bx Z) (Al (ay Z Z) (Ap (aa (aA Z (au (aa (ah ?_)))))))
 refine bV (Γ' := [(2,_),(1,_)]) (M' := [_,_]) Aj (SubM.refl _) ?_
 refine oU 2 10 [2,5,8] ([],none,0) (fun j s=>t5W j s (bF r c s) (bF r r s)) (fun j s=>t5N j s (iW r c s M) (iW r r s U) (iW r r s V)) aV X Y Z Y ?_
 refine kx Z (fun s B=>ab Z) Z ?_
 refine kx Z (fun s B=>ak 1 Z Z Z) Z ?_
 refine kc Z (fun s B=>ek hcm Z ⟨W,Aq⟩) Z ?_
 refine kx Z (fun s B=>ab Z) Z ?_
 refine kx Z (fun s B=>ak 1 Z Z Z) Z ?_
 refine kc Z (fun s B=>ek hcu Z ⟨W,Aq⟩) Z ?_
 refine kx Z (fun s B=>ab Z) Z ?_
 refine kx Z (fun s B=>ak 1 Z Z Z) Z ?_
 refine kc Z (fun s B=>ek hcv Z ⟨W,Aq⟩) Z ?_
 refine kd [2,5,8] (ψ:=fun s=>mO (bF r c (s 2)) (bF r r (s 5)) (bF r r (s 8))) Z H (fun s s' h=>by rw [h 2 Y,h 5 Y,h 8 Y]) (fun s B=>i5 (.cons (φ:=bF r c (s 2)) Z Z Z (.cons (φ:=bF r r (s 5)) Z Z Z (.cons (φ:=bF r r (s 8)) Z Z Z .nil))) Z Z) Z ?_
 refine .nil fun s => ?_
 refine lH (Γ' := [(22,mO (bF r c (s 2)) (bF r r (s 5)) (bF r r (s 8))),(2,_),(1,_)]) (M' := [ef (ok3 r (s 2)),bO (s 2).2.1 (s 2).2.2 r c (s 2).1,bg c (s 2).1 M,ef (ok3 r (s 5)),bO (s 5).2.1 (s 5).2.2 r r (s 5).1,bg r (s 5).1 U,ef (ok3 r (s 8)),bO (s 8).2.1 (s 8).2.2 r r (s 8).1,bg r (s 8).1 V,_,_]) Aj (SubM.refl _) ?_
 generalize s 2=sM
 generalize s 5=sU
 generalize s 8=sV
 refine aW 9 Z Z Z Z (An Z (Ap (aa (aG ?_))))
 refine kt (i:=0) (F:=ok3 r sM) Z (fun g h hp=>hp) (fun hM => ?_)
 refine kt (i:=3) (F:=ok3 r sU) Z (fun g h hp=>hp) (fun hU => ?_)
 refine kt (i:=6) (F:=ok3 r sV) Z (fun g h hp=>hp) (fun hV => ?_)
 have hE:=(vF.box (b:=b2) (T:=43) (m:=9) (qz (Ms := [bO sM.2.1 sM.2.2 r c sM.1,bg c sM.1 M,bO sU.2.1 sU.2.2 r r sU.1,bg r sU.1 U,bO sV.2.1 sV.2.2 r r sV.1,bg r sV.1 V]) (da hM.1 (bE 0 Z) (bE 1 Z)) (da hU.1 (bE 2 Z) (bE 3 Z)) (da hV.1 (bE 4 Z) (bE 5 Z))))
 refine fQ [bO sM.2.1 sM.2.2 r c sM.1,bg c sM.1 M,bO sU.2.1 sU.2.2 r r sU.1,bg r sU.1 U,bO sV.2.1 sV.2.2 r r sV.1,bg r sV.1 V] (ji 11 [1,2,4,5,7,8,0,3,6,9,10] H Z Z) (.keep (vF.refl _) (.keep (vF.refl _) (.keep (vF.refl _) (.keep hE (EntM.refl _))))) (qN.refl _) ?_
 refine gr Tryz.results20 (.cellW 3 Z Z W) (.tmp Z W)
end Tor
end
section
namespace Tor
open Go Go.RowKit Go.Proofs
def iX (c:Nat) (l:List Int):Nat→Nat→Int:=fun i j=>l.getD (i*c+j) 0
def IN (r c:Nat) (l:List Int):VT:=bp r c (iX c l)
theorem vl {l:List Int} (h:(l.all fun x=>decide (-9223372036854775808≤x) && decide (x≤9223372036854775807))=true) : ∀ x∈l, -9223372036854775808≤x∧x≤9223372036854775807:=fun x hx=>by
 have:=List.all_eq_true.1 h x hx
 simpa using this
theorem fX (r c r' c':Nat) (F G:Nat→Nat→Int) (hr:r≤1048576):Ok Tryz.prog 22 [bp r c F,bp r' c' G] (one (.bool (decide ((r:Int)=r'∧(c:Int)=c'∧tab r c F=tab r' c' G)))) :=
 (pR r c r' c' (tab r c F) (tab r' c' G) (by simp;omega)).le ⟨mp _ _ _,mp _ _ _,Aq⟩ W
theorem gY (r c:Nat) (F:Nat→Nat→Int) (hr:r≤1048576):Ok Tryz.prog 22 [bp r c F,bp r c F] (one (.bool true)):=by
 have h:=fX r c r c F F hr
 simpa using h
theorem lQ (r c:Nat) (l:List Int) (hr:r≤1048576) (hc:c≤1048576) (h:(l.all fun x=>decide (-9223372036854775808≤x) && decide (x≤9223372036854775807))=true):Ok Tryz.prog 26 [one (.int .i64 r),one (.int .i64 c),kR .i64 l] (IN r c l):=uC r c l hr hc (vl h)
end Tor
end
section
namespace Tor
open Go Go.RowKit Go.Proofs
theorem xB {r c:Nat} {s:SS} (hr:s.row≤r) (hc:s.col≤c):cR r c s=decide (r≤s.row∨c≤s.col):=decide_eq_decide.2 S
attribute [local irreducible] J PJ aQ one slT cA bG bZ exT cE eP aX a8 slV VT.le Ret bS
attribute [local irreducible] bX bm
theorem pb (r c:Nat) (φ m u v:VT) (row col:Int) (d:VT):Ok Tryz.prog 33 [jq (gn r c φ) m u v row col d] (one (.bool (decide ((r:Int)≤row∨(c:Int)≤col)))):=by
 refine Ok.enter Tryz.func33 Z Tryz.ntmps33 Z (fun w O => ?_)
 by_cases h:(r:Int)≤row
 ·rw [decide_eq_true (Or.inl h)]
  refine ah (aj ?_)
  refine aY Z Z (ltN Z) (fun b1 => ?_)
  refine An Z (Ap (aa (ah (aj (Al (ab Z) (Al (ak 0 Z Z Z) (Al (ab Z) (Al (ab Z) (Al (aw 0 0 0 Z Z Z Z Z) ?_)))))))))
  refine Al (sT (by assumption) (fd Z Z)) (Am Z (sn0 Z Z Z Z Z (sn0 Z Z Z Z Z (sn0 Z Z Z Z Z (sn0 Z Z Z Z Z (sn0 Z Z Z Z Z (sn0 Z Z Z Z Z (Al (aE Z Z) (An Z ?_)))))))))
  refine Ap (aa (aG ?_))
  refine aP Tryz.results33 (.tmp Z W)
 ·by_cases h2:(c:Int)≤col
  ·rw [decide_eq_true (Or.inr h2)]
   refine ah (aj ?_)
   refine aY Z Z (ltN Z) (fun b1 => ?_)
   refine An Z (Ap (aa (ah (aj (Al (ab Z) (Al (ak 0 Z Z Z) (Al (ab Z) (Al (ab Z) (Al (aw 0 0 0 Z Z Z Z Z) ?_)))))))))
   refine Al (sF (by assumption) (fd Z Z)) (Am Z (Ao (ab Z) (Ao (ak 0 Z Z Z) (Ao (ab Z) (Ao (ab Z) (Ao (aw 0 0 1 Z Z Z Z Z) (Ao (sT (by assumption) (fd Z Z)) (Al (ay Z Z) (An Z ?_)))))))))
   refine Ap (aa (aG ?_))
   refine aP Tryz.results33 (.tmp Z W)
  ·rw [decide_eq_false (fun e=>e.elim h h2)]
   refine ah (aj ?_)
   refine aY Z Z (ltN Z) (fun b1 => ?_)
   refine An Z (Ap (aa (ah (aj (Al (ab Z) (Al (ak 0 Z Z Z) (Al (ab Z) (Al (ab Z) (Al (aw 0 0 0 Z Z Z Z Z) ?_)))))))))
   refine Al (sF (by assumption) (fd Z Z)) (Am Z (Ao (ab Z) (Ao (ak 0 Z Z Z) (Ao (ab Z) (Ao (ab Z) (Ao (aw 0 0 1 Z Z Z Z Z) (Ao (sF (by assumption) (fd Z Z)) (Al (ay Z Z) (An Z ?_)))))))))
   refine Ap (aa (aG ?_))
   refine aP Tryz.results33 (.tmp Z W)
theorem vm (r c:Nat) (φ m u v:VT) (s:SS) (d:VT) (hr:s.row≤r) (hc:s.col≤c):Ok Tryz.prog 33 [jq (gn r c φ) m u v s.row s.col d] (one (.bool (cR r c s))):=by
 have h:=pb r c φ m u v s.row s.col d
 rw [xB hr hc,show decide (r≤s.row∨c≤s.col)=decide ((r:Int)≤s.row∨(c:Int)≤s.col) from decide_eq_decide.2 S]
 exact h
theorem tN (r c:Nat) (A:Nat→Nat→Int) (s:SS) (d:Bool) (hr:r≤1048576):Ok Tryz.prog 11 [stT r c A s (one (.bool d)),stT r c A s (one (.bool d))] (one (.bool true)):=by
 have h1:=gY r c A hr
 have h2:=gY r c s.M hr
 have h3:=gY r r s.U hr
 have h4:=gY r r s.V hr
 have hd:(d == d)=true:=beq_self_eq_true d
 refine Ok.enter Tryz.func11 Z Tryz.ntmps11 Z (fun w O => ?_)
 refine ah (aj ?_)
 refine aY Z Z (ltN Z) (fun b2 => ?_)
 refine aY Z Z (ltN Z) (fun b3 => ?_)
 refine An Z (Ap (aa (ah (aj (Al (ab Z) (Al (ak 1 Z Z Z) (Al (ab Z) (Al (ak 0 Z Z Z) ?_))))))))
 refine Al (am (h1) Z ⟨W,W,Aq⟩) ?_
 refine Am Z (Ao (ab Z) (Ao (ak 1 Z Z Z) (Ao (ab Z) (Ao (ak 0 Z Z Z) ?_))))
 refine Ao (am (h2) Z ⟨W,W,Aq⟩) ?_
 refine Al (aE Z Z) (Am Z (Ao (ab Z) (Ao (ak 1 Z Z Z) (Ao (ab Z) (Ao (ak 0 Z Z Z) ?_)))))
 refine Ao (am (h3) Z ⟨W,W,Aq⟩) ?_
 refine Al (aE Z Z) (Am Z (Ao (ab Z) (Ao (ak 1 Z Z Z) (Ao (ab Z) (Ao (ak 0 Z Z Z) ?_)))))
 refine Ao (am (h4) Z ⟨W,W,Aq⟩) ?_
 refine Al (aE Z Z) (Am Z (Ao (ab Z) (Ao (ak 1 Z Z Z) (Ao (ab Z) (Ao (ak 0 Z Z Z) (Ao (sT S (cj Z Z)) (Al (aE Z Z) (Am Z (Ao (ab Z) ?_)))))))))
 refine Ao (ak 1 Z Z Z) (Ao (ab Z) (Ao (ak 0 Z Z Z) (Ao (sT S (cj Z Z)) (Al (aE Z Z) (Am Z (Ao (ab Z) (Ao (ak 1 Z Z Z) (Ao (ab Z) (Ao (ak 0 Z Z Z) ?_)))))))))
 refine Ao (sBt (by assumption) (pk Z Z)) (Al (aE Z Z) (An Z (Ap (aa (aG ?_)))))
 refine aP Tryz.results11 (.tmp Z W)
theorem rq (r c:Nat) (F:Nat→Nat→Int) (hr:r≤1048576) (hc:c≤1048576):Ok Tryz.prog 12 [bp r c F] (stT r c F (bT F) (one (.bool (cR r c (bT F))))):=by
 have hid:=ko r hr
 rw [show (fun i j=>if i=j then (1:Int) else 0)=idF from rfl] at hid
 have hf:=vm r c (slT .one r fun i=>cX c (F i)) (bp r c F) (bp r r idF) (bp r r idF) (bT F) (one (.bool false)) (Nat.zero_le _) (Nat.zero_le _)
 refine Ok.enter Tryz.func12 Z Tryz.ntmps12 Z (fun w O => ?_)
 refine ah (aj ?_)
 refine aY Z Z (ltN Z) (fun b1 => ?_)
 refine a7 (T:=32) Z Z Z (fun b2 => ?_)
 refine Ap (aa (ah ?_))
 refine dq aV X X ?_
 refine ux (fun B=>aL 1 Z Z) Z Z ?_
 refine ux (fun B=>aL 1 Z Z) Z Z ?_
 refine ux (fun B=>ab Z) Z Z ?_
 refine ux (fun B=>ak 1 Z Z Z) Z Z ?_
 refine uxk (hid) Z ⟨W,Aq⟩ Z ?_
 refine ux (fun B=>ab Z) Z Z ?_
 refine ux (fun B=>ak 1 Z Z Z) Z Z ?_
 refine uxk (hid) Z ⟨W,Aq⟩ Z ?_
 refine uB Z Z Z (BuildK.cons Z Z Z (BuildK.cons Z Z Z (BuildK.cons Z Z Z (BuildK.cons Z Z Z (BuildK.nil (ua Z (us Z ?_)))))))
 refine RunU.nil (fun γ => ?_)
 refine cG (M' := [_,_,_]) Z (nW (eS.refl _) (.keep pI (SubM.refl _)) (aa (ah (aj (Al (aL 0 Z Z) ?_)))))
 refine Al (am (hf) Z ⟨W,Aq⟩) ?_
 refine Al (ab Z) (aF 0 Z Z Z Z Z (leN Z) Z (Ap (aa (ah (aj (Al (aL 0 Z Z) (aW 1 Z Z Z Z (Ap (aa ?_)))))))))
 refine aG ?_
 refine aP Tryz.results12 (.cellW 1 Z Z W)
end Tor
end
section
namespace Tor
open Go Go.RowKit Go.Proofs
theorem ww (a b:Nat):VT.le (slT .one 2 (fun q => [one (.int .u32 (b:Int)),one (.int .u32 (a:Int))].reverse.getD q bS)) (slT .one 2 (fun q=>one (.int .u32 (([a,b].getD q 0:Nat):Int)))) :=
 cL Z (fun q hq=>by
  match q,hq with
  | 0, _ => rfl
  | 1, _ => rfl)
theorem xC {k q:Nat} (hq:q<18446744073709551616) (hk:k≤1099511627776):VT.le (slT .one (k+2) (fun p=>if p<k then one (.int .u32 0) else (fun j=>one (.int .u32 (([q % 4294967296,q / 4294967296 % 4294967296].getD j 0:Nat):Int))) (p - k))) (m0 (q*4294967296^k)) :=
 VT.le_trans (cL (m:=(List.replicate k 0 ++ [q % 4294967296,q / 4294967296 % 4294967296]).length) (ψ:=fK (List.replicate k 0 ++ [q % 4294967296,q / 4294967296 % 4294967296])) (by simp) (fun p hp=>by
  unfold fK
  by_cases h:p<k
  ·rw [if_pos h]; simp [List.getD,List.getElem?_append,h]
  ·rw [if_neg h]; simp only [List.getD,List.getElem?_append,List.length_replicate,if_neg h])) (gy (fun d hd=>by
   rcases List.mem_append.1 hd with h | h
   ·rw [(List.mem_replicate.1 h).2]; decide
   ·rcases List.mem_cons.1 h with rfl | h
    ·exact Nat.mod_lt _ Y
    ·rw [List.mem_singleton.1 h]; exact Nat.mod_lt _ Y) (by
   rw [fk,d7,List.length_replicate,Nat.zero_add,Nat.mul_comm]
   congr 1
   simp only [lv]
   omega) (by simp;omega))
attribute [local irreducible] J PJ aQ one slT cA bG bZ exT cE eP aX a8 slV VT.le Ret bS
theorem qA (r d:Nat) (hd:d≠0) (h:d≤r) (hl:(aK r).length≤1099511627776):Ok Tryz.prog 113 [cg (aK r),cg (aK d)] (bm ((tv r d:Nat):Int)):=by
 have hlen:=co h
 have hdl:(aK d).length≠0:=fun k=>hd (gW k)
 have hx:=bk (bh d) ((aK d).length - 1)
 have hy:=bk (bh r) ((aK r).length - 1)
 have hz:=bk (bh r) ((aK r).length - 2)
 unfold tv
 refine Ok.enter Tryz.func113 Z Tryz.ntmps113 Z (fun w O => ?_)
 by_cases hk:(aK r).length=(aK d).length
 ·rw [if_pos hk]
  refine ah (aj ?_)
  refine aT (T:=55) Z (ltN Z) (fun b4 => ?_)
  refine Ap (aa (ah (aZ 17 aV X Y (Am Z (Al (be Z) (Am Z (Al (be Z) (Al (dt _ _ Z Z S S) (Am Z ?_)))))))))
  refine Al (be Z) (Am Z (Am Z (Al (be Z) (Al (dt _ 1 Z Z S S) (Al (ax Z Z S) (Al (aH Z) (Al (bL Z S) (Al (d5 (b:=1) Z Z S) (An Z ?_)))))))))
  refine An Z (Ap (An Z (Ap (aa (ah (ah (aj (Am Z (Al (sT S (cj Z Z)) ?_)))))))))
  refine Ap (aa (az Z (ah (aj (Am Z (Am Z (Al (dt _ 1 Z Z S S) (Al (ax Z Z S) (Al (aH Z) ?_)))))))))
  refine Al (bL Z S) (Am Z (Al (jz Z Z S S) (Al (pn Z Z) ?_)))
  have hq:=Nat.div_le_self ((aK r).getD ((aK r).length - 1) 0) ((aK d).getD ((aK d).length - 1) 0+1)
  generalize (aK r).getD ((aK r).length - 1) 0 / ((aK d).getD ((aK d).length - 1) 0+1)=q at *
  refine Al (fy Z S S) ?_
  refine Al (am (jF _ S S) Z ⟨W,Aq⟩) ?_
  refine aF 0 Z Z Z Z Z (leN Z) Z (Ap (aa (aG (aB ?_))))
  refine aP Tryz.results113 (.cellB 0 Z Z Z (bY S))
 ·rw [if_neg hk]
  refine ah (aj ?_)
  refine aT (T:=55) Z (ltN Z) (fun b4 => ?_)
  refine Ap (aa (ah (aZ 17 aV X Y (Am Z (Al (be Z) (Am Z (Al (be Z) (Al (dt _ _ Z Z S S) (Am Z ?_)))))))))
  refine Al (be Z) (Am Z (Am Z (Al (be Z) (Al (dt _ 1 Z Z S S) (Al (ax Z Z S) (Al (aH Z) (Al (bL Z S) (Al (d5 (b:=1) Z Z S) (An Z ?_)))))))))
  refine An Z (Ap (An Z (Ap (aa (ah (ah (aj (Am Z (Al (sF S (cj Z Z)) ?_)))))))))
  refine Ap (aa (aA Z (au (aa (ah (aZ 16 aV X Y (Am Z (Am Z (Al (dt _ 1 Z Z S S) ?_)))))))))
  refine Al (ax Z Z S) (Al (aH Z) (Al (bL Z S) (Al (gF (b:=4294967296) Z Z S) (Am Z (Am Z (Al (dt _ 2 Z Z S S) (Al (ax Z Z S) (Al (aH Z) (Al (bL Z S) ?_)))))))))
  refine Al (d5 Z Z S) (Am Z (Al (jz Z Z S S) (Ap (An Z (Ap (aa (ah (aj (Am Z ?_)))))))))
  refine Al (dt _ 1 Z Z S S) ?_
  have hq:=Nat.div_le_self ((aK r).getD ((aK r).length - 1) 0*4294967296+(aK r).getD ((aK r).length - 2) 0) ((aK d).getD ((aK d).length - 1) 0+1)
  generalize ((aK r).getD ((aK r).length - 1) 0*4294967296+(aK r).getD ((aK r).length - 2) 0) / ((aK d).getD ((aK d).length - 1) 0+1)=q at *
  obtain ⟨k,hkk⟩ : ∃ k,k=(aK r).length - (aK d).length - 1:=⟨_,rfl⟩
  rw [← hkk]
  refine cK k k Z Z Z Z (Nat.le_refl _) Z Z S Z Z (fun bz => ?_)
  refine An Z (Ap (aa (ah (aj (Am Z (Am Z (Al (cM Z) (Am Z (Al (fP Z) ?_)))))))))
  refine Al (cM Z) (stS Z Z Z Z (PartsK.cons Z (PartsK.cons Z (PartsK.nil (iu (t:=63) Z (ww _ _) ?_)))))
  (refine fD 0 Z Z Z (leN Z) ?_ ?_ Z (ltN Z) (fun sv64 cap64 => ?_);omega;omega)
  refine g7 (t:=64) (j:=0) Z Z ?_
  have hq64:q<18446744073709551616:=by omega
  have hmd:=dm false (q*4294967296^k)
  rw [if_neg Y] at hmd
  refine Al (am (hmd) Z ⟨(xC hq64 S),W,Aq⟩) ?_
  refine aF 0 Z Z Z Z Z (leN Z) Z (Ap (aa (aG ?_)))
  refine aP Tryz.results113 (.cellB 0 Z Z Z (bY (by rw [hkk])))
theorem qB {d:Nat} (hd:d<4294967296):VT.le (slT .one 1 fun _=>one (.int .u32 (d:Int))) (m0 d) :=
 VT.le_trans (cL (m := [d].length) (ψ:=fK [d]) Z (fun q hq=>by
  have hq:q=0:=by omega
  subst hq;rfl)) (gy (fun x hx=>by rw [List.mem_singleton.1 hx]; exact hd) (by simp [lv]) (by simp))
theorem vn {b:Nat} (hb:b≠0):0<(aK b).getD ((aK b).length - 1) 0:=by
 have hdl:(aK b).length≠0:=fun k=>hb (gW k)
 obtain ⟨m,hm⟩ : ∃ m,(aK b).length=m+1:=⟨(aK b).length - 1,by omega⟩
 obtain ⟨d1,d2⟩:=jg hm
 rw [hm,Nat.add_sub_cancel]
 rcases Nat.eq_zero_or_pos ((aK b).getD m 0) with h | h
 ·rw [h,Nat.mul_zero,Nat.add_zero] at d1
  have:=di (n:=b) (k:=m) (by rw [d1]; exact d2)
  omega
 ·exact h
theorem mP {a s:Nat} (hs:s<4294967296):(aK (a*s)).length≤(aK a).length+1:=di (by
 rw [Nat.pow_succ]
 have h1:=dC a
 rcases Nat.eq_zero_or_pos s with h | h
 ·subst h;rw [Nat.mul_zero]; exact Nat.mul_pos (Nat.pow_pos Y) Y
 ·exact Nat.mul_lt_mul'' h1 hs)
theorem xD {a b s q r:Nat} (hs:0<s) (hb:0<b) (h:q*(b*s)+r=a*s) (hr:r<b*s):q=a / b∧r / s=a % b:=by
 have h1:(a*s) / (b*s)=q:=by rw [← h,Nat.mul_comm q,Nat.mul_add_div S,Nat.div_eq_of_lt hr,Nat.add_zero]
 have h2:(a*s) % (b*s)=r:=by rw [← h,Nat.mul_comm q,Nat.mul_add_mod,Nat.mod_eq_of_lt hr]
 rw [Nat.mul_div_mul_right _ _ hs] at h1
 rw [Nat.mul_mod_mul_right] at h2
 exact ⟨h1.symm,by rw [← h2,Nat.mul_div_cancel _ hs]⟩
theorem rr (a b:Nat) (hb:b≠0) (ha:(aK a).length≤1099511627700) (hbl:(aK b).length≤1099511627700):Ok Tryz.prog 93 [cg (aK a),cg (aK b)] (bZ [bm ((a / b:Nat):Int),bm ((a % b:Nat):Int)]):=by
 have hbp:0<b:=by omega
 have hdl:(aK b).length≠0:=fun k=>hb (gW k)
 refine Ok.enter Tryz.func93 Z Tryz.ntmps93 Z (fun w O => ?_)
 by_cases h1:(aK b).length=1
 ·have hb1:=qc h1
  have hd:=bk (bh b) 0
  have hsh:=nH (aK a) b (bh a) S S S
  rw [bU] at hsh
  have hr:=Nat.mod_lt a hbp
  have hm1:=dm false (a / b)
  have hm2:=dm false (a % b)
  rw [if_neg Y] at hm1 hm2
  refine ah (aj ?_)
  refine aT (T:=55) Z (ltN Z) (fun b4 => ?_)
  refine aT (T:=55) Z (ltN Z) (fun b5 => ?_)
  refine Ap (aa (ah (ah (aj (Am Z (Al (be Z) (Al (sT S (cj Z Z)) (Ap (aa ?_)))))))))
  refine az Z (ah (aj (Am Z (Am Z (Al (ed Z Z S S) (Al (aH Z) ?_))))))
  refine Al (am (hsh) Z ⟨W,(aq (by rw [show (aK b).getD (Int.toNat 0) 0=b from hb1])),Aq⟩) ?_
  refine Am Z (Al (aN Z Z) (Al (aN Z Z) (An Z (An Z (Ap (aa (ah (aj (Am Z ?_)))))))))
  refine Al (am (hm1) Z ⟨W,W,Aq⟩) ?_
  refine Am Z (pt Z Z Z Z ?_)
  refine Al (am (hm2) Z ⟨(qB S),W,Aq⟩) ?_
  refine aF 1 Z Z Z Z Z (leN Z) Z (aF 0 Z Z Z Z Z (leN Z) Z (Ap (aa (aG (aB ?_)))))
  refine gr Tryz.results93 (.cellB 1 Z Z Z W) (.cellB 0 Z Z Z W)
 ·have hx:=bk (bh b) ((aK b).length - 1)
  have hx0:=vn hb
  refine ah (aj ?_)
  refine aT (T:=55) Z (ltN Z) (fun b4 => ?_)
  refine aT (T:=55) Z (ltN Z) (fun b5 => ?_)
  refine Ap (aa (ah (ah (aj (Am Z (Al (be Z) (Al (sF S (cj Z Z)) (Ap (aa ?_)))))))))
  refine aA Z (au (aa (ah (aj (An Z (Ap (aa (ah (ar ?_)))))))))
  refine bV (Γ' := [(0,_),(1,_),(4,_),(5,_),(8,_)]) Ag (SubM.refl _) ?_
  refine bv (σ:=Nat) (Γk := [(0,_),(1,_),(4,_),(5,_)]) Ag (fun s => [(8,one (.int .u32 (s:Nat)))]) (fun s M0=>M0) (fun s=>0<s∧s<4294967296) (fun s=>4294967296 - s) (1) (⟨by decide,by decide⟩) Ah (.keep Ak (.keep Ak (.nil))) (fun s hs => ?_)
  refine bK (Γ' := [(8,_),(0,_),(1,_),(4,_),(5,_)]) (M' := [_,_]) Z Z ?_
  obtain ⟨s0,s1⟩:=hs
  have hb1:=Nat.mul_le_mul (show (aK b).getD ((aK b).length - 1) 0≤4294967295 by omega) (show s≤4294967295 by omega)
  have hb2:=Nat.mul_le_mul_right s hx0
  by_cases hc:(aK b).getD ((aK b).length - 1) 0*s<2147483648
  ·refine ah (ah (aj (Am Z (Am Z (Al (be Z) (Al (dt _ 1 Z Z S S) (Al (ax Z Z S) (Al (aH Z) (Al (bL Z S) ?_)))))))))
   refine Am Z (Al (bL Z S) (Al (gF Z Z S) (Al (sT S (aS Z Z)) (Ap (aa (az Z (au (aa (ar ?_)))))))))
   refine aj (Am Z (Al (xx (a:=2) Z Z S) (An Z (Ap (aD ?_)))))
   refine aJ (2*s) (⟨by omega,by omega⟩) S Ah (.keep Ak (.keep Ak (.nil)))
  ·have hma:=dm false a
   have hmb:=dm false b
   have hms:=dm false s
   rw [if_neg Y] at hma hmb hms
   have la:=mP (a:=a) s1
   have lb:=mP (a:=b) s1
   have ls:ci ((s:Nat):Int):=mr (by rw [Int.natAbs_natCast]; exact Nat.lt_trans s1 H)
   have hMa:=fF (a:Int) (s:Int) (show (aK a).length≤_ by omega) ls
   have hMb:=fF (b:Int) (s:Int) (show (aK b).length≤_ by omega) ls
   rw [← Int.natCast_mul] at hMa hMb
   refine ah (ah (aj (Am Z (Am Z (Al (be Z) (Al (dt _ 1 Z Z S S) (Al (ax Z Z S) (Al (aH Z) (Al (bL Z S) ?_)))))))))
   refine Am Z (Al (bL Z S) (Al (gF Z Z S) (Al (sF S (aS Z Z)) (Ap (aa (aA Z (aU (av (av ?_)))))))))
   refine aC (aa (ah (aj (Am Z (pt Z Z Z Z ?_)))))
   refine Al (am (hms) Z ⟨(qB s1),W,Aq⟩) ?_
   refine aT (T:=55) Z (ltN Z) (fun b9 => ?_)
   refine aF 0 Z Z Z Z Z (leN Z) Z (Ap (aa (ah ?_)))
   refine dq aV X X ?_
   refine ux (fun B=>ae Z) Z Z ?_
   refine uxk (hma) Z ⟨(cY S),W,Aq⟩ Z ?_
   refine ux (fun B=>ak 0 Z Z Z) Z Z ?_
   refine uxk (hMa) Z ⟨W,W,Aq⟩ Z ?_
   refine ux (fun B=>ae Z) Z Z ?_
   refine uxk (hmb) Z ⟨(cY S),W,Aq⟩ Z ?_
   refine ux (fun B=>ak 0 Z Z Z) Z Z ?_
   refine uxk (hMb) Z ⟨W,W,Aq⟩ Z ?_
   refine uB Z Z Z (BuildK.nil (ua Z (ua Z (ua Z (us Z (us Z (us Z ?_)))))))
   refine RunU.nil (fun γ => ?_)
   refine cG (M' := [_,_,_,_,_,_]) Z (nW (eS.refl _) (.keep pI (.keep Ak (.keep Ak (SubM.refl _)))) (aa (ah (ar ?_))))
   have hbs:0<b*s:=Nat.mul_pos hbp s0
   refine bV (Γ' := [(4,_),(5,_),(8,_),(10,_),(11,_),(12,_)]) Ag (SubM.refl _) ?_
   refine bv (σ:=Nat × Nat) (Γk := [(4,_),(5,_),(8,_),(10,_),(11,_),(12,_)]) Ag (fun p => []) (fun p M0=>((M0.set 0 (aX (γ 12) 55 (Lay.agg 2).sz [(0,Lay.agg 2,bm (p.1:Int))])).set 2 (aX (γ 10) 55 (Lay.agg 2).sz [(0,Lay.agg 2,bm (p.2:Int))]))) (fun p=>p.1*(b*s)+p.2=a*s) (fun p=>p.2) ((0,a*s)) ((by simp)) Ah (.keep (wj nv) (.keep Ak (.keep Ak (.keep Ak (.keep Ak (.keep Ak (.nil))))))) (fun p hp => ?_)
   refine bK (Γ' := [(4,_),(5,_),(8,_),(10,_),(11,_),(12,_)]) (M' := [_,_,_,_,_,_]) Z Z ?_
   obtain ⟨q,r⟩:=p
   dsimp only at hp ⊢
   have hle:=kf r (b*s)
   by_cases hr:r<b*s
   ·obtain ⟨f1,f2⟩:=xD s0 hbp hp hr
    have lr:(aK r).length≤1099511627776:=by
     have:=co (show r≤a*s by omega)
     omega
    have hsh:=nH (aK r) s (bh r) lr s0 s1
    rw [bU,f2] at hsh
    have hm2:=dm false (a % b)
    rw [if_neg Y] at hm2
    refine ah (ah (aj (Al (ab Z) (Al (aw 2 0 1 Z Z Z Z Z) (Al (ab Z) (Al (aw 1 0 1 Z Z Z Z Z) ?_))))))
    refine Al (sT (by assumption) (am (hle) Z ⟨W,W,Aq⟩)) ?_
    refine Al (bx Z) (Ap (aa (aA Z (aU (av (av (aC (aa (ah ?_)))))))))
    refine aj (Al (ab Z) (Al (aw 2 0 1 Z Z Z Z Z) (Am Z ?_)))
    refine Al (am (hsh) Z ⟨W,W,Aq⟩) ?_
    refine Am Z (Al (aN Z Z) (Al (aN Z Z) (An Z (An Z (Ap (aa (ah (ie 3 aV X Y (Al (ak 0 Z Z Z) ?_)))))))))
    refine Am Z ?_
    refine Al (am (hm2) Z ⟨W,W,Aq⟩) ?_
    refine Ap (aF 5 Z Z Z Z Z (leN Z) Z (aF 4 Z Z Z Z Z (leN Z) Z (Ap (aa (aG ?_)))))
    refine gr Tryz.results93 (.cellB 5 Z Z Z (bY (by rw [f1]))) (.cellB 4 Z Z Z W)
   ·have lr:(aK r).length≤1099511627776:=by
     have:=co (show r≤a*s by omega)
     omega
    obtain ⟨e0,e1⟩:=uU (show b*s≠0 by omega) (Nat.le_of_not_lt hr)
    have hes:=qA r (b*s) S (Nat.le_of_not_lt hr) lr
    generalize tv r (b*s)=e at *
    have hq0:q≤q*(b*s):=Nat.le_mul_of_pos_right _ hbs
    have he0:e≤e*(b*s):=Nat.le_mul_of_pos_right _ hbs
    have le0:ci (e:Int):=Nat.le_trans (co (show (e:Int).natAbs≤r by omega)) lr
    have lq0:ci (q:Int):=Nat.le_trans (co (show (q:Int).natAbs≤a*s by omega)) S
    have lbs:ci ((b*s:Nat):Int):=Nat.le_trans (co (show ((b*s:Nat):Int).natAbs≤b*s by omega)) S
    have lrs:ci (r:Int):=Nat.le_trans (co (show (r:Int).natAbs≤r by omega)) lr
    have les:ci ((e*(b*s):Nat):Int):=Nat.le_trans (co (show ((e*(b*s):Nat):Int).natAbs≤r by omega)) lr
    have hmu:=fF (e:Int) ((b*s:Nat):Int) le0 lbs
    rw [← Int.natCast_mul] at hmu
    have hsu:=iU (r:Int) ((e*(b*s):Nat):Int) lrs les
    rw [← Int.ofNat_sub e1] at hsu
    have had:=gT (q:Int) (e:Int) lq0 le0
    rw [← Int.natCast_add] at had
    refine ah (ah (aj (Al (ab Z) (Al (aw 2 0 1 Z Z Z Z Z) (Al (ab Z) (Al (aw 1 0 1 Z Z Z Z Z) ?_))))))
    refine Al (sF (by assumption) (am (hle) Z ⟨W,W,Aq⟩)) ?_
    refine Al (bx Z) (Ap (aa (az Z (au (aa (ar (ah (aj (Al (ab Z) ?_)))))))))
    refine Al (aw 2 0 1 Z Z Z Z Z) (Al (ab Z) (Al (aw 1 0 1 Z Z Z Z Z) ?_))
    refine Al (am (hes) Z ⟨W,W,Aq⟩) ?_
    refine aT (T:=55) Z (ltN Z) (fun b13 => ?_)
    refine aF 0 Z Z Z Z Z (leN Z) Z (Ap (aa (ah (aj (Al (ak 1 Z Z Z) (Al (ak 0 Z Z Z) ?_))))))
    refine Al (am (had) Z ⟨W,W,Aq⟩) ?_
    refine aF 1 Z Z Z Z Z (leN Z) Z (Ap (aa (aZ 5 aV X Y (Al (ak 3 Z Z Z) (Al (ak 0 Z Z Z) (Al (ak 2 Z Z Z) ?_))))))
    refine Al (am (hmu) Z ⟨W,W,Aq⟩) ?_
    refine Al (am (hsu) Z ⟨W,W,Aq⟩) ?_
    refine Ap (aF 3 Z Z Z Z Z (leN Z) Z (Ap (aD ?_)))
    refine aJ ((q+e,r - e*(b*s))) ((by dsimp only;rw [Nat.add_mul]; omega)) S Ah (.drop (.keep Ak (.keep Ak (.keep Ak (.keep Ak (.keep Ak (.keep Ak (.nil))))))))
end Tor
end
section
namespace Tor
open Go Go.RowKit Go.Proofs
def ld (x:Int):Prop:=(aK x.natAbs).length≤1099511627700
theorem ld.small {x:Int} (h:ld x):ci x:=by unfold ld at h;unfold Tor.ci;omega
theorem ix {x y:Int} (h:ci y) (hl:x.natAbs≤y.natAbs):ci x:=Nat.le_trans (co hl) h
theorem na (n:Nat):(aK (n+1)).length≤(aK n).length+1:=di (by
 have h:=dC n
 rw [Nat.pow_succ]
 have h0:0<4294967296^(aK n).length:=Nat.pow_pos Y
 generalize 4294967296^(aK n).length=z at *
 omega)
attribute [local irreducible] J PJ aQ one slT cA bG bZ exT cE eP aX a8 slV VT.le Ret bS
theorem nQ (x:Int):Ok Tryz.prog 58 [m0 x.natAbs,one (.bool (decide (x<0)))] (bm x):=by
 have h:=dm (decide (x<0)) x.natAbs
 have e:(if decide (x<0)=true then -(x.natAbs:Int) else (x.natAbs:Int))=x:=by
  by_cases hx:x<0
  ·rw [if_pos (by simpa using hx)]; omega
  ·rw [if_neg (by simpa using hx)]; omega
 rw [e] at h
 exact h
set_option maxRecDepth 20000 in
theorem mQ (a b:Int) (hb:b≠0) (ha:ld a) (hbs:ld b):Ok Tryz.prog 52 [bm a,bm b] (bZ [bm (a / b),bm (a % b),one (.int .i64 0)]):=by
 obtain ⟨g1,g2,g3⟩:=si (a:=a) hb
 have hB:b.natAbs≠0:=by omega
 have ha':(aK a.natAbs).length≤1099511627700:=ha
 have hb':(aK b.natAbs).length≤1099511627700:=hbs
 have hdiv:=rr a.natAbs b.natAbs hB ha' hb'
 have hlt:=Nat.mod_lt a.natAbs (Nat.pos_of_ne_zero hB)
 have hql:=Nat.div_le_self a.natAbs b.natAbs
 have hma:=nQ a
 have hmb:=nQ b
 have hsb:de b≠0:=by unfold de;rw [if_neg hb]; split <;> decide
 have hmb2:=dm false b.natAbs
 rw [if_neg Y] at hmb2
 have hsg:=cn ((a.natAbs % b.natAbs:Nat):Int)
 have hof:=jF 1 Y Y
 have sq:ci ((a.natAbs / b.natAbs:Nat):Int):=ix ha.small (by rw [Int.natAbs_natCast]; exact hql)
 have s1:ci 1:=mr H
 have had:=gT ((a.natAbs / b.natAbs:Nat):Int) 1 sq s1
 have hsu:=iU (b.natAbs:Int) ((a.natAbs % b.natAbs:Nat):Int) (ix hbs.small S) (ix hbs.small (by rw [Int.natAbs_natCast]; exact Nat.le_of_lt hlt))
 have hsu2:=iU b ((a.natAbs % b.natAbs:Nat):Int) hbs.small (ix hbs.small (by rw [Int.natAbs_natCast]; exact Nat.le_of_lt hlt))
 have hn1:=e8 ((a.natAbs / b.natAbs:Nat):Int) sq
 have sq1:ci (((a.natAbs / b.natAbs:Nat):Int)+1):=by
  have h1:=na (a.natAbs / b.natAbs)
  have h2:=co hql
  have e:(((a.natAbs / b.natAbs:Nat):Int)+1).natAbs=a.natAbs / b.natAbs+1:=by generalize a.natAbs / b.natAbs=z;omega
  unfold Tor.ci
  rw [e]
  omega
 have hn2:=e8 (((a.natAbs / b.natAbs:Nat):Int)+1) sq1
 refine Ok.enter Tryz.func52 Z Tryz.ntmps52 Z (fun w O => ?_)
 by_cases hn:a<0
 ·by_cases hr:a.natAbs % b.natAbs=0
  ·obtain ⟨k1,k2⟩:=g2 hn hr
   have hs0:de ((a.natAbs % b.natAbs:Nat):Int)=0:=by rw [hr]; rfl
   by_cases hm:b<0
   ·rw [if_pos hm] at k1
    refine ah (aj ?_)
    refine aY Z Z (ltN Z) (fun b2 => ?_)
    refine aY Z Z (ltN Z) (fun b3 => ?_)
    refine aT (T:=55) Z (ltN Z) (fun b4 => ?_)
    refine aT (T:=55) Z (ltN Z) (fun b5 => ?_)
    refine An Z (Ap (aa (ah (ie 9 aV X Y (Al (ab Z) (Al (ak 3 Z Z Z) (Al (ab Z) (Al (sT (by assumption) (ak 3 Z Z Z)) ?_))))))))
    refine Al (am (hma) Z ⟨(cY S),(aq (by rw [decide_eq_true hn])),Aq⟩) ?_
    refine Al (ab Z) (Al (ak 2 Z Z Z) (Al (ab Z) (Al (sT (by assumption) (ak 2 Z Z Z)) (Ap ?_))))
    refine Al (am (hmb) Z ⟨(cY S),(aq (by rw [decide_eq_true hm])),Aq⟩) ?_
    refine aW 3 Z Z Z Z (aW 2 Z Z Z Z (Ap (aa (ah (ah (aj (Al (aL 2 Z Z) ?_)))))))
    refine Al (am (cn _) Z ⟨W,Aq⟩) ?_
    refine Al (sF (by assumption) (cj Z Z)) (Ap (aa (aA Z (au (aa (ah (aj (Al (ab Z) (Al (ak 3 Z Z Z) ?_)))))))))
    refine Al (ab Z) (Al (ak 2 Z Z Z) ?_)
    refine Al (am (hdiv) Z ⟨W,W,Aq⟩) ?_
    refine Am Z (Al (aN Z Z) (Al (aN Z Z) ?_))
    refine aT (T:=55) Z (ltN Z) (fun b7 => ?_)
    refine aT (T:=55) Z (ltN Z) (fun b8 => ?_)
    refine aF 1 Z Z Z Z Z (leN Z) Z (aF 0 Z Z Z Z Z (leN Z) Z (Ap (aa (ah (ah (aj (Al (ab Z) (Al (sT (by assumption) (ak 5 Z Z Z)) (Am Z ?_)))))))))
    refine Ao (ak 0 Z Z Z) ?_
    refine Ao (am (hsg) Z ⟨W,Aq⟩) ?_
    refine Ao (sF S (dS Z Z)) (Al (aE Z Z) (Ap (aa (aA Z (au (aa (ah (ah (aj ?_)))))))))
    refine Al (ab Z) (Al (sT (by assumption) (ak 5 Z Z Z)) (Al (ab Z) (Al (sT (by assumption) (ak 4 Z Z Z)) (Al (f7 Z Z) (Ap (aa (aA Z (au (aa ?_)))))))))
    refine ah ?_
    refine i7 [⟨5,b5,55,Lay.agg 2⟩,⟨4,b4,55,Lay.agg 2⟩] [_,_] [_,_,_,_] aV X Z ((dU 2 Z).trans (.cons _ ((dU 2 Z).trans (.cons _ (List.Perm.refl _))))) Z (And.intro Z (And.intro Z (trivial))) ?_
    refine ux (fun B=>ak 1 Z Z Z) Z Z ?_
    refine ux (fun B=>ak 0 Z Z Z) Z Z ?_
    refine us Z (us Z ?_)
    refine ux (fun B=>ai Z) Z Z ?_
    refine RunU.nil ⟨And.intro Z (And.intro Z (And.intro Z (And.intro Z (trivial)))),?_⟩
    refine cG (M' := [_,_,_,_,_,_]) Z (aa (aG ?_))
    refine jR Tryz.results52 (.cellB 1 Z Z Z (bY (by rw [k1]))) (.cellB 0 Z Z Z (bY (by rw [k2,hr]; rfl))) (.tmp Z W)
   ·rw [if_neg hm] at k1
    refine ah (aj ?_)
    refine aY Z Z (ltN Z) (fun b2 => ?_)
    refine aY Z Z (ltN Z) (fun b3 => ?_)
    refine aT (T:=55) Z (ltN Z) (fun b4 => ?_)
    refine aT (T:=55) Z (ltN Z) (fun b5 => ?_)
    refine An Z (Ap (aa (ah (ie 9 aV X Y (Al (ab Z) (Al (ak 3 Z Z Z) (Al (ab Z) (Al (sT (by assumption) (ak 3 Z Z Z)) ?_))))))))
    refine Al (am (hma) Z ⟨(cY S),(aq (by rw [decide_eq_true hn])),Aq⟩) ?_
    refine Al (ab Z) (Al (ak 2 Z Z Z) (Al (ab Z) (Al (sF (by assumption) (ak 2 Z Z Z)) (Ap ?_))))
    refine Al (am (hmb) Z ⟨(cY S),(aq (by rw [decide_eq_false hm])),Aq⟩) ?_
    refine aW 3 Z Z Z Z (aW 2 Z Z Z Z (Ap (aa (ah (ah (aj (Al (aL 2 Z Z) ?_)))))))
    refine Al (am (cn _) Z ⟨W,Aq⟩) ?_
    refine Al (sF (by assumption) (cj Z Z)) (Ap (aa (aA Z (au (aa (ah (aj (Al (ab Z) (Al (ak 3 Z Z Z) ?_)))))))))
    refine Al (ab Z) (Al (ak 2 Z Z Z) ?_)
    refine Al (am (hdiv) Z ⟨W,W,Aq⟩) ?_
    refine Am Z (Al (aN Z Z) (Al (aN Z Z) ?_))
    refine aT (T:=55) Z (ltN Z) (fun b7 => ?_)
    refine aT (T:=55) Z (ltN Z) (fun b8 => ?_)
    refine aF 1 Z Z Z Z Z (leN Z) Z (aF 0 Z Z Z Z Z (leN Z) Z (Ap (aa (ah (ah (aj (Al (ab Z) (Al (sT (by assumption) (ak 5 Z Z Z)) (Am Z ?_)))))))))
    refine Ao (ak 0 Z Z Z) ?_
    refine Ao (am (hsg) Z ⟨W,Aq⟩) ?_
    refine Ao (sF S (dS Z Z)) (Al (aE Z Z) (Ap (aa (aA Z (au (aa (ah (ah (aj ?_)))))))))
    refine Al (ab Z) (Al (sT (by assumption) (ak 5 Z Z Z)) (Al (ab Z) (Al (sF (by assumption) (ak 4 Z Z Z)) (Al (f7 Z Z) (Ap (aa (az Z (aj (Al (ak 1 Z Z Z) ?_)))))))))
    refine Al (am (hn1) Z ⟨W,Aq⟩) ?_
    refine aF 1 Z Z Z Z Z (leN Z) Z (Ap (aa (ah ?_)))
    refine i7 [⟨5,b5,55,Lay.agg 2⟩,⟨4,b4,55,Lay.agg 2⟩] [_,_] [_,_,_,_] aV X Z ((dU 2 Z).trans (.cons _ ((dU 2 Z).trans (.cons _ (List.Perm.refl _))))) Z (And.intro Z (And.intro Z (trivial))) ?_
    refine ux (fun B=>ak 1 Z Z Z) Z Z ?_
    refine ux (fun B=>ak 0 Z Z Z) Z Z ?_
    refine us Z (us Z ?_)
    refine ux (fun B=>ai Z) Z Z ?_
    refine RunU.nil ⟨And.intro Z (And.intro Z (And.intro Z (And.intro Z (trivial)))),?_⟩
    refine cG (M' := [_,_,_,_,_,_]) Z (aa (aG ?_))
    refine jR Tryz.results52 (.cellB 1 Z Z Z (bY (by rw [k1]))) (.cellB 0 Z Z Z (bY (by rw [k2,hr]; rfl))) (.tmp Z W)
  ·obtain ⟨k1,k2⟩:=g3 hn hr
   have hs0:de ((a.natAbs % b.natAbs:Nat):Int)=1:=by unfold de;rw [if_neg S,if_neg S]
   by_cases hm:b<0
   ·rw [if_pos hm] at k1
    refine ah (aj ?_)
    refine aY Z Z (ltN Z) (fun b2 => ?_)
    refine aY Z Z (ltN Z) (fun b3 => ?_)
    refine aT (T:=55) Z (ltN Z) (fun b4 => ?_)
    refine aT (T:=55) Z (ltN Z) (fun b5 => ?_)
    refine An Z (Ap (aa (ah (ie 9 aV X Y (Al (ab Z) (Al (ak 3 Z Z Z) (Al (ab Z) (Al (sT (by assumption) (ak 3 Z Z Z)) ?_))))))))
    refine Al (am (hma) Z ⟨(cY S),(aq (by rw [decide_eq_true hn])),Aq⟩) ?_
    refine Al (ab Z) (Al (ak 2 Z Z Z) (Al (ab Z) (Al (sT (by assumption) (ak 2 Z Z Z)) (Ap ?_))))
    refine Al (am (hmb) Z ⟨(cY S),(aq (by rw [decide_eq_true hm])),Aq⟩) ?_
    refine aW 3 Z Z Z Z (aW 2 Z Z Z Z (Ap (aa (ah (ah (aj (Al (aL 2 Z Z) ?_)))))))
    refine Al (am (cn _) Z ⟨W,Aq⟩) ?_
    refine Al (sF (by assumption) (cj Z Z)) (Ap (aa (aA Z (au (aa (ah (aj (Al (ab Z) (Al (ak 3 Z Z Z) ?_)))))))))
    refine Al (ab Z) (Al (ak 2 Z Z Z) ?_)
    refine Al (am (hdiv) Z ⟨W,W,Aq⟩) ?_
    refine Am Z (Al (aN Z Z) (Al (aN Z Z) ?_))
    refine aT (T:=55) Z (ltN Z) (fun b7 => ?_)
    refine aT (T:=55) Z (ltN Z) (fun b8 => ?_)
    refine aF 1 Z Z Z Z Z (leN Z) Z (aF 0 Z Z Z Z Z (leN Z) Z (Ap (aa (ah (ah (aj (Al (ab Z) (Al (sT (by assumption) (ak 5 Z Z Z)) (Am Z ?_)))))))))
    refine Ao (ak 0 Z Z Z) ?_
    refine Ao (am (hsg) Z ⟨W,Aq⟩) ?_
    refine Ao (sT S (dS Z Z)) (Al (aE Z Z) (Ap (aa (az Z (ah (aZ 2 aV X Y (Al (ak 1 Z Z Z) ?_)))))))
    refine Al (am (hof) Z ⟨W,Aq⟩) ?_
    refine Ap ?_
    refine Al (am (had) Z ⟨W,W,Aq⟩) ?_
    refine aF 1 Z Z Z Z Z (leN Z) Z (Ap (aa (aZ 5 aV X Y (Al (ab Z) (Al (ak 4 Z Z Z) ?_)))))
    refine Al (am (hmb2) Z ⟨(cY S),W,Aq⟩) ?_
    refine Al (ak 0 Z Z Z) ?_
    refine Al (am (hsu) Z ⟨W,W,Aq⟩) ?_
    refine Ap (aF 0 Z Z Z Z Z (leN Z) Z (Ap (aa (ah (ah (aj (Al (ab Z) (Al (sT (by assumption) (ak 5 Z Z Z)) (Al (ab Z) ?_)))))))))
    refine Al (sT (by assumption) (ak 4 Z Z Z)) (Al (f7 Z Z) (Ap (aa (aA Z (au (aa (ah ?_)))))))
    refine i7 [⟨5,b5,55,Lay.agg 2⟩,⟨4,b4,55,Lay.agg 2⟩] [_,_] [_,_,_,_] aV X Z ((dU 2 Z).trans (.cons _ ((dU 2 Z).trans (.cons _ (List.Perm.refl _))))) Z (And.intro Z (And.intro Z (trivial))) ?_
    refine ux (fun B=>ak 1 Z Z Z) Z Z ?_
    refine ux (fun B=>ak 0 Z Z Z) Z Z ?_
    refine us Z (us Z ?_)
    refine ux (fun B=>ai Z) Z Z ?_
    refine RunU.nil ⟨And.intro Z (And.intro Z (And.intro Z (And.intro Z (trivial)))),?_⟩
    refine cG (M' := [_,_,_,_,_,_]) Z (aa (aG ?_))
    refine jR Tryz.results52 (.cellB 1 Z Z Z (bY (by rw [k1,Int.natCast_add]; rfl))) (.cellB 0 Z Z Z (bY (by rw [k2,Int.ofNat_sub (Nat.le_of_lt hlt)]))) (.tmp Z W)
   ·rw [if_neg hm] at k1
    refine ah (aj ?_)
    refine aY Z Z (ltN Z) (fun b2 => ?_)
    refine aY Z Z (ltN Z) (fun b3 => ?_)
    refine aT (T:=55) Z (ltN Z) (fun b4 => ?_)
    refine aT (T:=55) Z (ltN Z) (fun b5 => ?_)
    refine An Z (Ap (aa (ah (ie 9 aV X Y (Al (ab Z) (Al (ak 3 Z Z Z) (Al (ab Z) (Al (sT (by assumption) (ak 3 Z Z Z)) ?_))))))))
    refine Al (am (hma) Z ⟨(cY S),(aq (by rw [decide_eq_true hn])),Aq⟩) ?_
    refine Al (ab Z) (Al (ak 2 Z Z Z) (Al (ab Z) (Al (sF (by assumption) (ak 2 Z Z Z)) (Ap ?_))))
    refine Al (am (hmb) Z ⟨(cY S),(aq (by rw [decide_eq_false hm])),Aq⟩) ?_
    refine aW 3 Z Z Z Z (aW 2 Z Z Z Z (Ap (aa (ah (ah (aj (Al (aL 2 Z Z) ?_)))))))
    refine Al (am (cn _) Z ⟨W,Aq⟩) ?_
    refine Al (sF (by assumption) (cj Z Z)) (Ap (aa (aA Z (au (aa (ah (aj (Al (ab Z) (Al (ak 3 Z Z Z) ?_)))))))))
    refine Al (ab Z) (Al (ak 2 Z Z Z) ?_)
    refine Al (am (hdiv) Z ⟨W,W,Aq⟩) ?_
    refine Am Z (Al (aN Z Z) (Al (aN Z Z) ?_))
    refine aT (T:=55) Z (ltN Z) (fun b7 => ?_)
    refine aT (T:=55) Z (ltN Z) (fun b8 => ?_)
    refine aF 1 Z Z Z Z Z (leN Z) Z (aF 0 Z Z Z Z Z (leN Z) Z (Ap (aa (ah (ah (aj (Al (ab Z) (Al (sT (by assumption) (ak 5 Z Z Z)) (Am Z ?_)))))))))
    refine Ao (ak 0 Z Z Z) ?_
    refine Ao (am (hsg) Z ⟨W,Aq⟩) ?_
    refine Ao (sT S (dS Z Z)) (Al (aE Z Z) (Ap (aa (az Z (ah (aZ 2 aV X Y (Al (ak 1 Z Z Z) ?_)))))))
    refine Al (am (hof) Z ⟨W,Aq⟩) ?_
    refine Ap ?_
    refine Al (am (had) Z ⟨W,W,Aq⟩) ?_
    refine aF 1 Z Z Z Z Z (leN Z) Z (Ap (aa (aZ 5 aV X Y (Al (ab Z) (Al (ak 4 Z Z Z) ?_)))))
    refine Al (am (hmb) Z ⟨(cY S),(aq (by rw [decide_eq_false hm])),Aq⟩) ?_
    refine Al (ak 0 Z Z Z) ?_
    refine Al (am (hsu2) Z ⟨W,W,Aq⟩) ?_
    refine Ap (aF 0 Z Z Z Z Z (leN Z) Z (Ap (aa (ah (ah (aj (Al (ab Z) (Al (sT (by assumption) (ak 5 Z Z Z)) (Al (ab Z) ?_)))))))))
    refine Al (sF (by assumption) (ak 4 Z Z Z)) (Al (f7 Z Z) (Ap (aa (az Z (aj (Al (ak 1 Z Z Z) ?_))))))
    refine Al (am (hn2) Z ⟨W,Aq⟩) ?_
    refine aF 1 Z Z Z Z Z (leN Z) Z (Ap (aa (ah ?_)))
    refine i7 [⟨5,b5,55,Lay.agg 2⟩,⟨4,b4,55,Lay.agg 2⟩] [_,_] [_,_,_,_] aV X Z ((dU 2 Z).trans (.cons _ ((dU 2 Z).trans (.cons _ (List.Perm.refl _))))) Z (And.intro Z (And.intro Z (trivial))) ?_
    refine ux (fun B=>ak 1 Z Z Z) Z Z ?_
    refine ux (fun B=>ak 0 Z Z Z) Z Z ?_
    refine us Z (us Z ?_)
    refine ux (fun B=>ai Z) Z Z ?_
    refine RunU.nil ⟨And.intro Z (And.intro Z (And.intro Z (And.intro Z (trivial)))),?_⟩
    refine cG (M' := [_,_,_,_,_,_]) Z (aa (aG ?_))
    refine jR Tryz.results52 (.cellB 1 Z Z Z (bY (by rw [k1,Int.natCast_add]; rfl))) (.cellB 0 Z Z Z (bY (by rw [k2,Int.ofNat_sub (Nat.le_of_lt hlt),Int.natAbs_of_nonneg (show 0≤b by omega)]))) (.tmp Z W)
 ·obtain ⟨k1,k2⟩:=g1 S
  by_cases hm:b<0
  ·rw [if_pos hm] at k1
   refine ah (aj ?_)
   refine aY Z Z (ltN Z) (fun b2 => ?_)
   refine aY Z Z (ltN Z) (fun b3 => ?_)
   refine aT (T:=55) Z (ltN Z) (fun b4 => ?_)
   refine aT (T:=55) Z (ltN Z) (fun b5 => ?_)
   refine An Z (Ap (aa (ah (ie 9 aV X Y (Al (ab Z) (Al (ak 3 Z Z Z) (Al (ab Z) (Al (sF (by assumption) (ak 3 Z Z Z)) ?_))))))))
   refine Al (am (hma) Z ⟨(cY S),(aq (by rw [decide_eq_false hn])),Aq⟩) ?_
   refine Al (ab Z) (Al (ak 2 Z Z Z) (Al (ab Z) (Al (sT (by assumption) (ak 2 Z Z Z)) (Ap ?_))))
   refine Al (am (hmb) Z ⟨(cY S),(aq (by rw [decide_eq_true hm])),Aq⟩) ?_
   refine aW 3 Z Z Z Z (aW 2 Z Z Z Z (Ap (aa (ah (ah (aj (Al (aL 2 Z Z) ?_)))))))
   refine Al (am (cn _) Z ⟨W,Aq⟩) ?_
   refine Al (sF (by assumption) (cj Z Z)) (Ap (aa (aA Z (au (aa (ah (aj (Al (ab Z) (Al (ak 3 Z Z Z) ?_)))))))))
   refine Al (ab Z) (Al (ak 2 Z Z Z) ?_)
   refine Al (am (hdiv) Z ⟨W,W,Aq⟩) ?_
   refine Am Z (Al (aN Z Z) (Al (aN Z Z) ?_))
   refine aT (T:=55) Z (ltN Z) (fun b7 => ?_)
   refine aT (T:=55) Z (ltN Z) (fun b8 => ?_)
   refine aF 1 Z Z Z Z Z (leN Z) Z (aF 0 Z Z Z Z Z (leN Z) Z (Ap (aa (ah (ah (aj (Al (ab Z) (Al (sF (by assumption) (ak 5 Z Z Z)) (Am Z ?_)))))))))
   refine sg0 Z Z Z Z (sg0 Z Z Z Z (sg0 Z Z Z Z (Al (ay Z Z) (Ap (aa (aA Z (au (aa (ah ?_)))))))))
   refine ah (aj (Al (ab Z) (Al (sF (by assumption) (ak 5 Z Z Z)) (Al (ab Z) (Al (sT (by assumption) (ak 4 Z Z Z)) (Al (f7 Z Z) (Ap (aa (az Z ?_)))))))))
   refine aj (Al (ak 1 Z Z Z) ?_)
   refine Al (am (hn1) Z ⟨W,Aq⟩) ?_
   refine aF 1 Z Z Z Z Z (leN Z) Z (Ap (aa (ah ?_)))
   refine i7 [⟨5,b5,55,Lay.agg 2⟩,⟨4,b4,55,Lay.agg 2⟩] [_,_] [_,_,_,_] aV X Z ((dU 2 Z).trans (.cons _ ((dU 2 Z).trans (.cons _ (List.Perm.refl _))))) Z (And.intro Z (And.intro Z (trivial))) ?_
   refine ux (fun B=>ak 1 Z Z Z) Z Z ?_
   refine ux (fun B=>ak 0 Z Z Z) Z Z ?_
   refine us Z (us Z ?_)
   refine ux (fun B=>ai Z) Z Z ?_
   refine RunU.nil ⟨And.intro Z (And.intro Z (And.intro Z (And.intro Z (trivial)))),?_⟩
   refine cG (M' := [_,_,_,_,_,_]) Z (aa (aG ?_))
   refine jR Tryz.results52 (.cellB 1 Z Z Z (bY (by rw [k1]))) (.cellB 0 Z Z Z (bY (by rw [k2]))) (.tmp Z W)
  ·rw [if_neg hm] at k1
   refine ah (aj ?_)
   refine aY Z Z (ltN Z) (fun b2 => ?_)
   refine aY Z Z (ltN Z) (fun b3 => ?_)
   refine aT (T:=55) Z (ltN Z) (fun b4 => ?_)
   refine aT (T:=55) Z (ltN Z) (fun b5 => ?_)
   refine An Z (Ap (aa (ah (ie 9 aV X Y (Al (ab Z) (Al (ak 3 Z Z Z) (Al (ab Z) (Al (sF (by assumption) (ak 3 Z Z Z)) ?_))))))))
   refine Al (am (hma) Z ⟨(cY S),(aq (by rw [decide_eq_false hn])),Aq⟩) ?_
   refine Al (ab Z) (Al (ak 2 Z Z Z) (Al (ab Z) (Al (sF (by assumption) (ak 2 Z Z Z)) (Ap ?_))))
   refine Al (am (hmb) Z ⟨(cY S),(aq (by rw [decide_eq_false hm])),Aq⟩) ?_
   refine aW 3 Z Z Z Z (aW 2 Z Z Z Z (Ap (aa (ah (ah (aj (Al (aL 2 Z Z) ?_)))))))
   refine Al (am (cn _) Z ⟨W,Aq⟩) ?_
   refine Al (sF (by assumption) (cj Z Z)) (Ap (aa (aA Z (au (aa (ah (aj (Al (ab Z) (Al (ak 3 Z Z Z) ?_)))))))))
   refine Al (ab Z) (Al (ak 2 Z Z Z) ?_)
   refine Al (am (hdiv) Z ⟨W,W,Aq⟩) ?_
   refine Am Z (Al (aN Z Z) (Al (aN Z Z) ?_))
   refine aT (T:=55) Z (ltN Z) (fun b7 => ?_)
   refine aT (T:=55) Z (ltN Z) (fun b8 => ?_)
   refine aF 1 Z Z Z Z Z (leN Z) Z (aF 0 Z Z Z Z Z (leN Z) Z (Ap (aa (ah (ah (aj (Al (ab Z) (Al (sF (by assumption) (ak 5 Z Z Z)) (Am Z ?_)))))))))
   refine sg0 Z Z Z Z (sg0 Z Z Z Z (sg0 Z Z Z Z (Al (ay Z Z) (Ap (aa (aA Z (au (aa (ah ?_)))))))))
   refine ah (aj (Al (ab Z) (Al (sF (by assumption) (ak 5 Z Z Z)) (Al (ab Z) (Al (sF (by assumption) (ak 4 Z Z Z)) (Al (f7 Z Z) (Ap (aa (aA Z ?_)))))))))
   refine au (aa (ah ?_))
   refine i7 [⟨5,b5,55,Lay.agg 2⟩,⟨4,b4,55,Lay.agg 2⟩] [_,_] [_,_,_,_] aV X Z ((dU 2 Z).trans (.cons _ ((dU 2 Z).trans (.cons _ (List.Perm.refl _))))) Z (And.intro Z (And.intro Z (trivial))) ?_
   refine ux (fun B=>ak 1 Z Z Z) Z Z ?_
   refine ux (fun B=>ak 0 Z Z Z) Z Z ?_
   refine us Z (us Z ?_)
   refine ux (fun B=>ai Z) Z Z ?_
   refine RunU.nil ⟨And.intro Z (And.intro Z (And.intro Z (And.intro Z (trivial)))),?_⟩
   refine cG (M' := [_,_,_,_,_,_]) Z (aa (aG ?_))
   refine jR Tryz.results52 (.cellB 1 Z Z Z (bY (by rw [k1]))) (.cellB 0 Z Z Z (bY (by rw [k2]))) (.tmp Z W)
end Tor
end
section
namespace Tor
open Go Go.RowKit Go.Proofs
theorem gB {x:Int} (h:cx x):ld x:=by unfold cx at h;unfold ld;omega
theorem yb {x:Int} : de x<0↔x<0:=by unfold de;split <;> (try split) <;> omega
attribute [local irreducible] J PJ aQ one slT cA bG bZ exT cE eP aX a8 slV VT.le Ret bS
attribute [local irreducible] bX bm
theorem nR (x y:Int) (hx:cx x) (hy:cx y) (h0:0<y):Ok Tryz.prog 57 [bm x,bm y] (bm (x / y)):=by
 have hd:=mQ x y S (gB hx) (gB hy)
 refine Ok.enter Tryz.func57 Z Tryz.ntmps57 Z (fun w O => ?_)
 refine ah (aj ?_)
 refine nj Z Z (ltN Z) (fun b2 => ?_)
 refine nj Z Z (ltN Z) (fun b3 => ?_)
 refine aT (T:=55) Z (ltN Z) (fun b4 => ?_)
 refine Ap (aa (ah (aj (Al (ak 2 Z Z Z) (Al (ak 1 Z Z Z) ?_)))))
 refine Al (am (hd) Z ⟨W,W,Aq⟩) ?_
 refine Am Z (Al (aN Z Z) (Al (aN Z Z) (Al (aN Z Z) ?_)))
 refine aT (T:=55) Z (ltN Z) (fun b5 => ?_)
 refine aT (T:=55) Z (ltN Z) (fun b6 => ?_)
 refine aF 1 Z Z Z Z Z (leN Z) Z (aF 0 Z Z Z Z Z (leN Z) Z (An Z (Ap (aa (ah (aj (Al (ak 1 Z Z Z) (aF 2 Z Z Z Z Z (leN Z) Z (Ap ?_)))))))))
 refine aa (aG ?_)
 refine aP Tryz.results57 (.cellB 2 Z Z Z W)
end Tor
end
section
namespace Tor
open Go Go.RowKit Go.Proofs
def kB (b r c:Nat) (sM sU sV:S3) (M U V:Nat→Nat→Int):Mem :=
 [aX b 79 9 (lB (bF r c sM) (bF r r sU) (bF r r sV)),bO sM.2.1 sM.2.2 r c sM.1,bg c sM.1 M,bO sU.2.1 sU.2.2 r r sU.1,bg r sU.1 U,bO sV.2.1 sV.2.2 r r sV.1,bg r sV.1 V]
theorem mR {x:Int} (h:cx x):cx (-x):=by unfold cx at h ⊢; rwa [Int.natAbs_neg]
theorem sw {k r j b:Nat} {q:Int} {F:Nat→Nat→Int} (hne:k≠r) (hq:cx q) (h : ∀ i j,cx (F i j)):ci (-q*fv k r q j F r b):=by rw [oW hne]; exact fW (mR hq) (h _ _)
theorem wx {i r k b:Nat} {q:Int} {F:Nat→Nat→Int} (hq:cx q) (h : ∀ i j,cx (F i j)):ci (-q*iw r k q i F i b):=by rw [mK]; exact fW (mR hq) (h _ _)
theorem vo {c k r j:Nat} {q:Int} {bs:List Nat} {F:Nat→Nat→Int} (hne:k≠r):Own.le (bX 55 (.agg 2) c bs (eO (fun a b=>bm (fv k r q j F a b)) k j (bm (fv k r q j F k j + -q*fv k r q j F r j)))) (bg c bs (fv k r q (j+1) F)):=by
 rw [Int.neg_mul, ← Int.sub_eq_add_neg]; exact qp hne
theorem xE {c k r i:Nat} {q:Int} {bs:List Nat} {F:Nat→Nat→Int} : Own.le (bX 55 (.agg 2) c bs (eO (fun a b=>bm (iw r k q i F a b)) i r (bm (iw r k q i F i r - -q*iw r k q i F i k)))) (bg c bs (iw r k q (i+1) F)):=by
 rw [Int.neg_mul,Int.sub_neg]; exact va
attribute [local irreducible] J PJ aQ one slT cA bG bZ exT cE eP aX a8 slV VT.le Ret bS
attribute [local irreducible] bX bm
theorem lf (b r c:Nat) (sM sU sV:S3) (M U V:Nat→Nat→Int) (i j:Nat) (q:Int) (hr:r≤1048576) (hc:c≤1048576) (hM:ok3 r sM) (hU:ok3 r sU) (hV:ok3 r sV) (hi:i<r) (hj:j<r) (hne:i≠j) (hq:cx q) (hmM : ∀ i j,cx (M i j)) (hmU : ∀ i j,cx (U i j)) (hmV : ∀ i j,cx (V i j)) :
  OkI Tryz.prog 53 [one (.pointer (some ⟨b,0,none⟩)),one (.int .i64 i),one (.int .i64 j),bm (-q)] (kB b r c sM sU sV M U V)
   (fun _:Unit=>bZ []) (fun _=>kB b r c sM sU sV (bW i j q M) (bW i j q U) (eQ j i q V)):=by
 obtain ⟨bs,bo,cap,rfl,hbl⟩:=hM.some S
 obtain ⟨bsU,boU,capU,rfl,hblU⟩:=hU.some S
 obtain ⟨bsV,boV,capV,rfl,hblV⟩:=hV.some S
 have hmq:=bA (mR hq)
 unfold kB bF
 dsimp only at hbl hblU hblV ⊢
 refine OkI.enter Tryz.func53 Z Tryz.ntmps53 Z (fun w O => ?_)
 refine ah (aj ?_)
 refine nj Z Z (ltN Z) (fun b7 => ?_)
 refine Ap (aa (ah (ah (aj (An Z (Ap (aa (ar (bV (Γ' := [(0,_),(1,_),(2,_),(7,_),(8,_)]) Ag (SubM.refl _) ?_)))))))))
 refine bv (σ:=Nat) (Γk := [(0,_),(1,_),(2,_),(7,_)]) Ag (fun x => [(8,one (.int .i64 (x:Nat)))]) (fun x M0=>(M0.set 3 (bg c bs (fv i j q x M)))) (fun x=>x≤c) (fun x=>c - x) (0) (Nat.zero_le _) Ah (.keep Ak (.keep Ak (.keep Ak (.keep (nK) (.keep Ak (.keep Ak (.keep Ak (.keep Ak (.nil))))))))) (fun x hx => ?_)
 refine bK (Γ' := [(8,_),(0,_),(1,_),(2,_),(7,_)]) (M' := [_,_,_,_,_,_,_,_]) Z Z ?_
 by_cases h:x<c
 ·refine ah (ah (aj (Am Z (Am Z (Al (ao Z) (Al (ab Z) (Al (ab Z) (Al (aw 1 0 1 Z Z Z Z Z) (Al (sT S (aS Z Z)) ?_)))))))))
  refine Ap (aa (az Z (au (aa (ah (ar (aZ 34 aV X Y (Am Z (Al (ao Z) ?_)))))))))
  refine Al (ab Z) (Al (ab Z) (Al (aw 1 0 2 Z Z Z Z Z) (Am Z (Al (an Z Z S) (Al (aI 2 Z Z S) (Am Z (Am Z (Al (ao Z) (Al (ab Z) ?_)))))))))
  refine Al (ab Z) (Al (aw 1 0 2 Z Z Z Z Z) (Am Z (Al (an Z Z S) (Al (aI 2 Z Z S) (Am Z (Al (an Z Z S) (Al (bd 3 Z Z (bC S) S) (Al (ak 0 Z Z Z) (Am Z ?_)))))))))
  refine Al (ao Z) (Al (ab Z) (Al (ab Z) (Al (aw 1 0 2 Z Z Z Z Z) (Am Z (Al (an Z Z S) (Al (aI 2 Z Z S) (Am Z (Al (an Z Z S) (Al (bd 3 Z Z (bC S) S) ?_)))))))))
  refine Al (am (fF _ _ (by assumption) (jk hne hmM)) Z ⟨W,W,Aq⟩) ?_
  refine Al (am (gT _ _ (jj hmM) (sw hne hq hmM)) Z ⟨W,W,Aq⟩) ?_
  refine Ap (Al (an Z Z S) ?_)
  (refine a9 3 Z Z Z (bC ?_) ?_ Z ?_;omega;omega)
  refine Ap (aD (aa (aj (Am Z (Al (bn _ 1 Z Z S) (An Z (Ap ?_)))))))
  refine aJ (x+1) (h) S Ah (.keep Ak (.keep Ak (.keep Ak (.keep (vo hne) (.keep Ak (.keep Ak (.keep Ak (.keep Ak (.nil)))))))))
 ·have he:c=x:=by omega
  subst he
  refine ah (ah (aj (Am Z (Am Z (Al (ao Z) (Al (ab Z) (Al (ab Z) (Al (aw 1 0 1 Z Z Z Z Z) (Al (sF S (aS Z Z)) ?_)))))))))
  refine Ap (aa (aA Z (aU (av (av (aC (aa (ah (ah ?_)))))))))
  refine aj (An Z (Ap (aa (ar (bV (Γ' := [(0,_),(1,_),(2,_),(7,_),(9,_)]) Ag (SubM.refl _) ?_)))))
  refine bv (σ:=Nat) (Γk := [(0,_),(1,_),(2,_),(7,_)]) Ag (fun x => [(9,one (.int .i64 (x:Nat)))]) (fun x M0=>((M0.set 5 (bg r bsU (fv i j q x U))).set 3 (bg c bs (bW i j q M)))) (fun x=>x≤r) (fun x=>r - x) (0) (Nat.zero_le _) Ah (.keep Ak (.keep Ak (.keep Ak (.keep (nL) (.keep Ak (.keep (nK) (.keep Ak (.keep Ak (.nil))))))))) (fun x hx => ?_)
  refine bK (Γ' := [(9,_),(0,_),(1,_),(2,_),(7,_)]) (M' := [_,_,_,_,_,_,_,_]) Z Z ?_
  by_cases h:x<r
  ·refine ah (ah (aj (Am Z (Am Z (Al (ao Z) (Al (ab Z) (Al (ab Z) (Al (aw 1 3 1 Z Z Z Z Z) (Al (sT S (aS Z Z)) ?_)))))))))
   refine Ap (aa (az Z (au (aa (ah (ar (aZ 34 aV X Y (Am Z (Al (ao Z) ?_)))))))))
   refine Al (ab Z) (Al (ab Z) (Al (aw 1 3 2 Z Z Z Z Z) (Am Z (Al (an Z Z S) (Al (aI 4 Z Z S) (Am Z (Am Z (Al (ao Z) (Al (ab Z) ?_)))))))))
   refine Al (ab Z) (Al (aw 1 3 2 Z Z Z Z Z) (Am Z (Al (an Z Z S) (Al (aI 4 Z Z S) (Am Z (Al (an Z Z S) (Al (bd 5 Z Z (bC S) S) (Al (ak 0 Z Z Z) (Am Z ?_)))))))))
   refine Al (ao Z) (Al (ab Z) (Al (ab Z) (Al (aw 1 3 2 Z Z Z Z Z) (Am Z (Al (an Z Z S) (Al (aI 4 Z Z S) (Am Z (Al (an Z Z S) (Al (bd 5 Z Z (bC S) S) ?_)))))))))
   refine Al (am (fF _ _ (by assumption) (jk hne hmU)) Z ⟨W,W,Aq⟩) ?_
   refine Al (am (gT _ _ (jj hmU) (sw hne hq hmU)) Z ⟨W,W,Aq⟩) ?_
   refine Ap (Al (an Z Z S) ?_)
   (refine a9 5 Z Z Z (bC ?_) ?_ Z ?_;omega;omega)
   refine Ap (aD (aa (aj (Am Z (Al (bn _ 1 Z Z S) (An Z (Ap ?_)))))))
   refine aJ (x+1) (h) S Ah (.keep Ak (.keep Ak (.keep Ak (.keep Ak (.keep Ak (.keep (vo hne) (.keep Ak (.keep Ak (.nil)))))))))
  ·have he:r=x:=by omega
   subst he
   refine ah (ah (aj (Am Z (Am Z (Al (ao Z) (Al (ab Z) (Al (ab Z) (Al (aw 1 3 1 Z Z Z Z Z) (Al (sF S (aS Z Z)) ?_)))))))))
   refine Ap (aa (aA Z (aU (av (av (aC (aa (ah (aj ?_)))))))))
   refine An Z (Ap (aa (ar (bV (Γ' := [(0,_),(1,_),(2,_),(7,_),(10,_)]) Ag (SubM.refl _) ?_))))
   refine bv (σ:=Nat) (Γk := [(0,_),(1,_),(2,_),(7,_)]) Ag (fun y => [(10,one (.int .i64 (y:Nat)))]) (fun y M0=>((M0.set 7 (bg r bsV (iw j i q y V))).set 5 (bg r bsU (bW i j q U)))) (fun y=>y≤r) (fun y=>r - y) (0) (Nat.zero_le _) Ah (.keep Ak (.keep Ak (.keep Ak (.keep Ak (.keep Ak (.keep (nL) (.keep Ak (.keep Ak (.nil))))))))) (fun y hy => ?_)
   refine bK (Γ' := [(10,_),(0,_),(1,_),(2,_),(7,_)]) (M' := [_,_,_,_,_,_,_,_]) Z Z ?_
   by_cases h:y<r
   ·refine ah (ah (aj (Am Z (Am Z (Al (ao Z) (Al (ab Z) (Al (ab Z) (Al (aw 1 6 0 Z Z Z Z Z) (Al (sT S (aS Z Z)) ?_)))))))))
    refine Ap (aa (az Z (au (aa (ah (ar (aZ 34 aV X Y (Am Z (Al (ao Z) ?_)))))))))
    refine Al (ab Z) (Al (ab Z) (Al (aw 1 6 2 Z Z Z Z Z) (Am Z (Al (an Z Z S) (Al (aI 6 Z Z S) (Am Z (Am Z (Al (ao Z) (Al (ab Z) ?_)))))))))
    refine Al (ab Z) (Al (aw 1 6 2 Z Z Z Z Z) (Am Z (Al (an Z Z S) (Al (aI 6 Z Z S) (Am Z (Al (an Z Z S) (Al (bd 7 Z Z (bC S) S) (Al (ak 0 Z Z Z) (Am Z ?_)))))))))
    refine Al (ao Z) (Al (ab Z) (Al (ab Z) (Al (aw 1 6 2 Z Z Z Z Z) (Am Z (Al (an Z Z S) (Al (aI 6 Z Z S) (Am Z (Al (an Z Z S) (Al (bd 7 Z Z (bC S) S) ?_)))))))))
    refine Al (am (fF _ _ (by assumption) (jl hmV)) Z ⟨W,W,Aq⟩) ?_
    refine Al (am (iU _ _ (jl hmV) (wx hq hmV)) Z ⟨W,W,Aq⟩) ?_
    refine Ap (Al (an Z Z S) ?_)
    (refine a9 7 Z Z Z (bC ?_) ?_ Z ?_;omega;omega)
    refine Ap (aD (aa (aj (Am Z (Al (bn _ 1 Z Z S) (An Z (Ap ?_)))))))
    refine aJ (y+1) (h) S Ah (.keep Ak (.keep Ak (.keep Ak (.keep Ak (.keep Ak (.keep Ak (.keep Ak (.keep (xE) (.nil)))))))))
   ·have he:r=y:=by omega
    subst he
    refine ah (ah (aj (Am Z (Am Z (Al (ao Z) (Al (ab Z) (Al (ab Z) (Al (aw 1 6 0 Z Z Z Z Z) (Al (sF S (aS Z Z)) ?_)))))))))
    refine Ap (aa (aA Z (aU (av (av (aC (gx ?_)))))))
    exact lm (σ:=Unit) (ψ:=fun _=>bZ []) () Tryz.results53 W (.drop (.keep Ak (.keep Ak (.keep Ak (.keep Ak (.keep Ak (.keep Ak (.keep (u9 hblV) .nil))))))))
end Tor
end
