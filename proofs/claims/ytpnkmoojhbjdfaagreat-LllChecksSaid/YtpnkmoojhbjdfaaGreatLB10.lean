/-
  Theorems that the proofs of laws of this seat rest on.
  No condition.
-/
import Derived.Test.YtpnkmoojhbjdfaaGreatLB9
set_option maxHeartbeats 16000000
set_option linter.unusedVariables false
set_option linter.unusedSimpArgs false
section
namespace Tor
open Go Go.RowKit Go.Proofs
instance {n:Nat} {f:Nat→Int} : Flat (cu n f) .one:=by unfold cu;infer_instance
attribute [local irreducible] J PJ aP one slT cv bA bM exT cq eP aW aU slV VT.le Ret bO
attribute [local irreducible] aO c8
theorem uV (r c:Nat) (F:Nat→Nat→Int) (k:Int) (hr0:r≤1048576) (hc0:c≤1048576) (hF : ∀ i j,bJ (F i j)) (hk:bJ k):OkM Tryz.prog 37 [bG r c F,aO k] (jE r c) (fun s => [fC s.1.2.1 s.1.2.2 r c s.1.1,ew c s.1.1 (fun i j=>F i j*k)]):=by
 unfold bG
 refine OkM.enter Tryz.func37 Z Tryz.ntmps37 Z (fun w O => ?_)
 refine ae (aj ?_)
 refine aM Z Z (ltN Z) (fun b2 => ?_)
 refine lW Z Z (ltN Z) (fun b3 => ?_)
 refine aF (T:=28) Z Z Z (fun b4 => ?_)
 refine Ec (aa (ae (aj (DY (ah Z) (DY (ak 2 Z Z Z) (DY (ah Z) (DY (ak 2 Z Z Z) ?_)))))))
 refine di (jF _ _ (by assumption) (by assumption)) Z ⟨H,H,Ed⟩ Z Z (fun s12 => ?_)
 refine aF (T:=28) Z Z Z (fun b5 => ?_)
 refine aH 0 Z Z Z Z (Ec (aa (ae (ae (aj (Ea Z (Ec (aa (ar ?_)))))))))
 obtain ⟨⟨bs,sv1,cap1⟩,hlen,hsv⟩:=s12
 simp only at hlen hsv
 unfold jE
 dsimp only
 refine cm (Γ' := [(2,_),(3,_),(4,_),(5,_),(6,_)]) DT (SubM.refl _) ?_
 refine bw (σ:=Nat) (Γk := [(2,_),(3,_),(4,_),(5,_)]) DT (fun i => [(6,one (.int .i64 (i:Nat)))]) (fun i M0=>(M0.set 2 (ew c bs (e7 (fun i j=>F i j*k) i 0)))) (fun i=>i≤r) (fun i=>r - i) (0) (Nat.zero_le _) DU (.keep DX (.keep DX (.keep (e6 fun i j hi hj=>by simp [e7]) (.keep DX (.keep DX (.keep DX (.nil))))))) (fun i hi => ?_)
 refine bN (Γ' := [(6,_),(2,_),(3,_),(4,_),(5,_)]) (M' := [_,_,_,_,_,_]) Z Z (ae (ae (aj (DZ Z (DY (ah Z) (DY (ak 5 Z Z Z) (DY (a7 Z Z) (Ec (aa ?_)))))))))
 refine oF Z (fun hc => ?_) (fun hc => ?_)
 ·obtain ⟨bo,rfl⟩:=eG hsv Y
  refine av (aa (ae (ar (ae (aj (Ea Z (Ec (aa (ar ?_)))))))))
  refine cm (Γ' := [(2,_),(3,_),(4,_),(5,_),(6,_),(7,_)]) DT (SubM.refl _) ?_
  refine bw (σ:=Nat) (Γk := [(2,_),(3,_),(4,_),(5,_),(6,_)]) DT (fun j => [(7,one (.int .i64 (j:Nat)))]) (fun j M0=>(M0.set 2 (ew c bs (e7 (fun i j=>F i j*k) i j)))) (fun j=>j≤c) (fun j=>c - j) (0) (Nat.zero_le _) DU (.keep DX (.keep DX (.keep DX (.keep DX (.keep DX (.keep DX (.nil))))))) (fun j hj => ?_)
  refine bN (Γ' := [(7,_),(2,_),(3,_),(4,_),(5,_),(6,_)]) (M' := [_,_,_,_,_,_]) Z Z (ae (ae (aj (DZ Z (DY (ah Z) (DY (ak 5 Z Z Z) (DY (a7 Z Z) (Ec (aa ?_)))))))))
  refine oF Z (fun hc2 => ?_) (fun hc2 => ?_)
  ·refine av (aa (ae (ar (aT 16 aS X S (DY (ah Z) (DY (ak 0 Z Z Z) (DZ Z ?_)))))))
   (refine DY (an Z Z ?_) ?_;omega)
   (refine DY (bk 1 Z Z ?_) ?_;omega)
   refine DZ Z (DY (ah Z) (DY (ak 5 Z Z Z) (DZ Z ?_)))
   (refine DY (ax Z Z ?_) ?_;omega)
   refine DY (aJ Z) (DZ Z ?_)
   (refine DY (ax Z Z ?_) ?_;omega)
   refine DY (aJ Z) (DY (ak 4 Z Z Z) ?_)
   refine DY (am (dR _ _ (hF _ _) (by assumption)) Z ⟨H,H,Ed⟩) ?_
   refine Ec ?_
   (refine DY (an Z Z ?_) ?_;omega)
   (refine fW 2 Z Z Z (nT ?_) ?_ Z ?_;omega;omega)
   refine Ec (aB (aa (aj (DZ Z (DY (bn _ 1 Z Z Y) (Ea Z (Ec ?_)))))))
   refine aN (j+1) Y Y DU (.keep DX (.keep DX (.keep (qt _ Z) (.keep DX (.keep DX (.keep DX (.nil)))))))
  ·have hjm:j=c:=by omega
   subst hjm
   refine aY (aw (aw (aE (aB (aa (aj (DZ Z (DY (bn _ 1 Z Z Y) (Ea Z ?_)))))))))
   refine Ec ?_
   refine aN (i+1) Y Y DU (.keep DX (.keep DX (.keep (lK) (.keep DX (.keep DX (.keep DX (.nil)))))))
 ·have hin:i=r:=by omega
  subst hin
  refine aY (aw (aw (aE (aa (ae (aj (DY (ay 0 Z Z) (aH 3 Z Z Z Z (Ec ?_)))))))))
  refine aa (aD ?_)
  exact l7 ⟨(bs,sv1,cap1),hlen,hsv⟩ Tryz.results37 (.cellW 3 Z Z H) (.drop (.keep DX (.keep (e6 fun a b ha hb=>by simp [e7]; omega) (SubM.nilR _))))
theorem tP (r c:Nat) (F:Nat→Nat→Int) (hr0:r≤1048576) (hc0:c≤1048576) (hF : ∀ i j,bJ (F i j)):OkM Tryz.prog 75 [bG r c F] (jE r c) (fun s => [fC s.1.2.1 s.1.2.2 r c s.1.1,ew c s.1.1 (fun i j=>F i j*1)]):=by
 have hs:=uV r c F 1 hr0 hc0 hF wS
 unfold bG at hs ⊢
 refine OkM.enter Tryz.func75 Z Tryz.ntmps75 Z (fun w O => ?_)
 refine ae (aj ?_)
 refine aM Z Z (ltN Z) (fun b1 => ?_)
 refine aF (T:=28) Z Z Z (fun b2 => ?_)
 refine Ec (aa (ae (aT 2 aS X S (DY (ay 1 Z Z) ?_))))
 refine DY (am (fZ _ Y Y) Z ⟨H,Ed⟩) ?_
 refine Ec ?_
 refine di (hs) Z ⟨H,H,Ed⟩ Z Z (fun s5 => ?_)
 refine aH 2 Z Z Z Z (Ec (aa (aD ?_)))
 exact l7 s5 Tryz.results75 (.cellW 2 Z Z H) (.keep DX (.keep DX (SubM.nilR _)))
end Tor
end
section
namespace Tor
open Go Go.RowKit Go.Proofs
def tQ (r c:Int):VT:=bA 2 [(0, .one,one (.int .i64 r)),(1, .one,one (.int .i64 c))]
attribute [local irreducible] J PJ aP one slT cv bA bM exT cq eP aW aU slV VT.le Ret bO
attribute [local irreducible] aO c8
theorem tR (r c:Nat) (F:Nat→Nat→Int):Ok Tryz.prog 109 [slT (.agg 3) 1 (fun _=>bG r c F)] (slT (.agg 2) 1 (fun _=>tQ r c)):=by
 unfold bG tQ
 refine Ok.enter Tryz.func109 Z Tryz.ntmps109 Z (fun w O => ?_)
 refine ae (aj (Ea Z (Ec (aa (ae (aj (Ea Z (Ec (aa ?_)))))))))
 refine ae (ae (aj (DZ Z (DY (aZ Z) (DZ Z (Ec (aa (ar ?_))))))))
 refine sx 2 ?_
 refine ae (aj (DY (sT Y (a7 Z Z)) (Ec (aa (ae (aG Z (av (aa (ae ?_)))))))))
 refine ar (ae (aj ?_))
 (refine DY (ei Z Z ?_ ?_) ?_;omega;omega)
 refine DY (aJ Z) ?_
 refine aF (T:=28) Z Z Z (fun b5 => ?_)
 refine aH 0 Z Z Z Z (Ec (aa (aj (DZ Z (DY (ah Z) (DY (ak 0 Z Z Z) (DY (ah Z) (DY (ak 0 Z Z Z) (stB Z Z Z ?_)))))))))
 refine BuildK.cons Z Z Z (BuildK.cons Z Z Z (BuildK.nil (jf Z Z Z Z ?_)))
 (refine wN Z Z (leN Z) ?_ ?_ Z (ltN Z) (fun sv19 cap19 => ?_);omega;omega)
 refine Ea Z (Ec (aB (aa (aj ?_))))
 (refine DY (ck Z Z (aR ?_ ?_)) ?_;omega;omega)
 refine DZ Z (Ec (qb (ae (aj (DY (sF Y (a7 Z Z)) (Ec (aa (ae (az Z ?_)))))))))
 refine aY (aw (aw (aE (aa (ae (aj (DZ Z (Ea Z (Ec ?_)))))))))
 refine aa (aD (cR (t:=2) (i:=0) Z Z ?_))
 refine aK Tryz.results109 (.tmp Z (er fun i hi=>VT.le_refl _))
theorem A6 (r c r' c':Nat):Ok Tryz.prog 108 [slT (.agg 2) 1 (fun _=>tQ r c),slT (.agg 2) 1 (fun _=>tQ r' c')] (one (.bool (decide (r=r'∧c=c')))):=by
 unfold tQ
 refine Ok.enter Tryz.func108 Z Tryz.ntmps108 Z (fun w O => ?_)
 refine ae (aj (Ea Z (Ec (aa (ae (ae (aj (DZ Z (DY (aZ Z) ?_)))))))))
 refine DZ Z (DY (aZ Z) (DY (sF Y (cE Z Z)) (Ec (aa (az Z (av (aa (ae (ae ?_)))))))))
 refine aj (DZ Z (DY (aZ Z) (DZ Z (Ec (aa (ar ?_))))))
 refine sx 2 ?_
 by_cases h:r=r'∧c=c'
 ·obtain ⟨rfl,rfl⟩:=h
  refine ae (aj (DY (sT Y (a7 Z Z)) (Ec (aa (ae (aG Z (av (aa (ae ?_)))))))))
  refine ar (ae (aj (DZ Z (Ea Z (Ec (aa (ae (aT 9 aS X S (DZ Z ?_)))))))))
  refine DZ Z ?_
  (refine DY (ei Z Z ?_ ?_) ?_;omega;omega)
  refine DY (aJ Z) (DZ Z (DZ Z ?_))
  (refine DY (ei Z Z ?_ ?_) ?_;omega;omega)
  refine DY (aJ Z) ?_
  refine DY (sF (fun h=>h ⟨rfl,rfl⟩) (Bu X Z Z)) ?_
  refine Ec (Ec (aa (az Z (av (aB (aa (aj ?_)))))))
  (refine DY (ck Z Z (aR ?_ ?_)) ?_;omega;omega)
  refine DZ Z (Ec (qb (ae (aj (DY (sF Y (a7 Z Z)) (Ec (aa (ae (az Z ?_)))))))))
  refine aY (aw (aw (aE (aa (ae (aj (Ea Z (Ec (aa ?_)))))))))
  refine aD ?_
  refine aK Tryz.results108 (.tmp Z (ao (by simp)))
 ·have h2 : ¬ ((r:Int)=r'∧(c:Int)=c'):=fun hh=>h ⟨by omega,by omega⟩
  refine ae (aj (DY (sT Y (a7 Z Z)) (Ec (aa (ae (aG Z (av (aa (ae ?_)))))))))
  refine ar (ae (aj (DZ Z (Ea Z (Ec (aa (ae (aT 9 aS X S (DZ Z ?_)))))))))
  refine DZ Z ?_
  (refine DY (ei Z Z ?_ ?_) ?_;omega;omega)
  refine DY (aJ Z) (DZ Z (DZ Z ?_))
  (refine DY (ei Z Z ?_ ?_) ?_;omega;omega)
  refine DY (aJ Z) (DY (sT (by assumption) (Bu X Z Z)) (Ec (Ec (aa (aG Z (ae (aj (Ea Z (Ec ?_)))))))))
  refine aa (aD (a9 (aI (aI (a9 (aI ?_))))))
  refine aK Tryz.results108 (.tmp Z (ao (by simp [h])))
theorem A7 (n:Nat) (b:Nat→Bool) (hn:n≤1048576):Ok Tryz.prog 130 [slT .one n (fun i=>one (.bool (b i))),one (.bool false)] (exT fun k:Int=>cq ((0≤k ↔ ¬ ∀ i,i<n→b i=true)) (one (.int .i64 k))):=by
 refine Ok.enter Tryz.func130 Z Tryz.ntmps130 Z (fun w O => ?_)
 refine ae (aj (Ea Z (Ec (aa (ae (ae (aj (DZ Z (DY (aZ Z) ?_)))))))))
 refine DZ Z (Ec (aa (ar (cm (Γ' := [(0,_),(1,_),(4,_),(7,_),(8,_)]) DT (SubM.refl _) ?_))))
 refine bw (σ:=Nat) (Γk := [(0,_),(1,_),(7,_)]) DT (fun i => [(8,one (.int .i64 (i:Nat)))]) (fun i M0=>M0) (fun i=>i≤n ∧ ∀ j,j<i→b j=true) (fun i=>n - i) (0) (⟨Nat.zero_le _,fun j hj=>absurd hj (Nat.not_lt_zero _)⟩) DU (.nil) (fun i hi => ?_)
 refine bN (Γ' := [(8,_),(0,_),(1,_),(7,_)]) (M' := []) Z Z (ae (aj (DY (a7 Z Z) (Ec (aa (ae ?_))))))
 refine oF Z (fun hc => ?_) (fun hc => ?_)
 ·have hin:i<n:=by omega
  refine av (aa (ae (ar (ae (aj (DZ Z (Ea Z (Ec (aa ?_)))))))))
  refine ae (aj (DZ Z (DZ Z (DZ Z ?_))))
  (refine DY (ax Z Z ?_) ?_;omega)
  refine DY (aJ Z) (DY (fv Z Z) (Ec (aa ?_)))
  refine Bs Z (fun hb => ?_) (fun hb => ?_)
  ·have hb:b i=false:=by simpa using hb
   refine ae (aj (DZ Z (Ea Z (Ec (aa (aD (a9 (aI (aI ?_)))))))))
   refine a9 (aI ?_)
   refine aK Tryz.results130 (.tmp Z (oB (i:Int) (l6 ⟨fun _ hall=>absurd (hall i hin) (by simp [hb]),fun _=>by omega⟩ H)))
  ·have hb:b i=true:=by simpa using hb
   refine av (aB (aa (aj (DY (bn _ 1 Z Z Y) (DZ Z (Ec ?_))))))
   refine aN (i+1) (⟨by omega,fun j hj=>(Nat.lt_succ_iff_lt_or_eq.1 hj).elim (hi.2 j) (fun e=>by subst e;exact hb)⟩) Y DU (.nil)
 ·refine aY (aw (aw (aE (aa (ae (aj (Ea Z (Ec (aa ?_)))))))))
  refine aD ?_
  refine aK Tryz.results130 (.tmp Z (oB (-1:Int) (l6 ⟨fun h=>by omega,fun h=>absurd (fun j hj=>hi.2 j Y) h⟩ H)))
theorem zx (n:Nat) (b:Nat→Bool) (hn:n≤1048576):Ok Tryz.prog 111 [slT .one n (fun i=>one (.bool (b i))),one (.bool false)] (exT fun t:Bool=>cq ((t=true ↔ ¬ ∀ i,i<n→b i=true)) (one (.bool t))):=by
 refine Ok.enter Tryz.func111 Z Tryz.ntmps111 Z (fun w O => ?_)
 refine ae (aj (Ea Z (Ec (aa (ae (aj (DZ Z (DZ Z ?_))))))))
 have hI:=(A7 n b hn).toM
 refine di hI Z ⟨H,H,Ed⟩ Z Z (fun s => ?_)
 obtain ⟨k,hk⟩:=s
 refine DY (j9 Z Z) (Ea Z (Ec (aa (aD ?_))))
 refine aK Tryz.results111 (.tmp Z (oB _ (l6 (by simpa using hk) H)))
theorem CH (x y:Int):Ok Tryz.prog 110 [aO x,aO y] (one (.bool (decide (x=y)))):=by
 refine Ok.enter Tryz.func110 Z Tryz.ntmps110 Z (fun w O => ?_)
 refine ae (aj ?_)
 refine lW Z Z (ltN Z) (fun b2 => ?_)
 refine lW Z Z (ltN Z) (fun b3 => ?_)
 refine Ea Z (Ec (aa (ae (aj (DY (ak 1 Z Z Z) (DY (ak 0 Z Z Z) ?_))))))
 refine DY (am (rh _ _) Z ⟨H,H,Ed⟩) ?_
 refine DY (cn Z Z) (Ea Z (Ec (aa (aD ?_))))
 refine aK Tryz.results110 (.tmp Z (ao (by congr 1;unfold fp;simp;split <;> (try split) <;> simp <;> omega)))
theorem og {L:Lay} {φ:VT} : VT.le (slT L 1 (fun q => [φ].reverse.getD q bO)) (slT L 1 (fun _=>φ)):=er fun i hi=>by
 have:i=0:=by omega
 subst this;exact VT.le_refl _
theorem qP (ra ca:Nat) (F:Nat→Nat→Int) (rb cb:Nat) (G:Nat→Nat→Int) (h1:ra≤1048576) (h2:ca≤1048576) :
  Ok Tryz.prog 71 [bG ra ca F,bG rb cb G] (one (.bool (decide (ra=rb∧ca=cb∧tab ra ca F=tab rb cb G)))):=by
 have hv:=qr ra ca F rb cb G
 have hs1:=tR ra ca F
 have hs2:=tR rb cb G
 have hq:=A6 ra ca rb cb
 refine Ok.enter Tryz.func71 Z Tryz.ntmps71 Z (fun w O => ?_)
 by_cases hne:ra=rb∧ca=cb
 ·obtain ⟨rfl,rfl⟩:=hne
  rw [decide_eq_true ⟨rfl,rfl⟩] at hq
  unfold bG at *
  refine ae (aj ?_)
  refine aM Z Z (ltN Z) (fun b2 => ?_)
  refine aM Z Z (ltN Z) (fun b3 => ?_)
  refine Ea Z (Ec (aa (ae (ae (aT 15 aS X S (DY (ay 1 Z Z) (DY (ay 0 Z Z) (stS Z Z Z Z (PartsK.cons Z ?_)))))))))
  refine PartsK.cons Z (PartsK.nil ?_)
  refine DY (am (hv) Z ⟨(oY),Ed⟩) ?_
  refine DY (bF Z) (DZ Z (Eb (ay 1 Z Z) (pN Z Z Z Z Z Z (PartsK.cons Z (PartsK.nil ?_)))))
  refine Eb (am (hs1) Z ⟨(og),Ed⟩) ?_
  refine Eb (ay 0 Z Z) (pN Z Z Z Z Z Z (PartsK.cons Z (PartsK.nil ?_)))
  refine Eb (am (hs2) Z ⟨(og),Ed⟩) ?_
  refine Eb (am (hq) Z ⟨H,H,Ed⟩) ?_
  refine Eb (bF Z) (DY (a6 Z Z) (Ec (Ec (aa (az Z (av (aa (ae (aj ?_)))))))))
  refine Ea Z (Ec (aa (ae (ae (aj (DY (ah Z) (DY (ak 1 Z Z Z) (DY (aZ Z) (DZ Z ?_)))))))))
  refine Ec (aa (ar (cm (Γ' := [(3,_),(4,_),(5,_),(24,_),(25,_),(26,_)]) DT (SubM.refl _) ?_)))
  refine bw (σ:=Nat) (Γk := [(3,_),(5,_),(24,_),(25,_)]) DT (fun i => [(26,one (.int .i64 (i:Nat)))]) (fun i M0=>M0) (fun i=>i≤ra ∧ ∀ j,j<i → ∀ k,k<ca→F j k=G j k) (fun i=>ra - i) (0) (⟨Nat.zero_le _,fun j hj=>absurd hj (Nat.not_lt_zero _)⟩) DU (.keep DX (.keep DX (.nil))) (fun i hi => ?_)
  refine bN (Γ' := [(26,_),(3,_),(5,_),(24,_),(25,_)]) (M' := [_,_]) Z Z ?_
  have hcb:=yh ca (fun k=>aO (F i k)) (fun k=>aO (G i k)) (fun k=>one (.bool (decide (F i k=G i k)))) (one (.func (.func 110) #[] #[])) h2 (fun k hk=>l9.fn (CH _ _))
  have hct:=(zx ca (fun k=>decide (F i k=G i k)) h2).toM
  refine ae (aj (DY (a7 Z Z) (Ec (aa (ae ?_)))))
  refine oF Z (fun hc => ?_) (fun hc => ?_)
  ·refine av (aa (ae (ar (ae (aj (DZ Z ?_))))))
   (refine DY (ax Z Z ?_) ?_;omega)
   refine DY (aJ Z) (Ea Z (Ea Z (Ec (aa (ae (aj (DZ Z (DY (ah Z) (DY (ak 0 Z Z Z) ?_)))))))))
   refine DZ Z ?_
   (refine DY (ax Z Z ?_) ?_;omega)
   refine DY (aJ Z) (DZ Z ?_)
   refine DY (am (hcb) Z ⟨H,H,H,Ed⟩) ?_
   refine di (hct) Z ⟨H,H,Ed⟩ Z Z (fun s39 => ?_)
   refine Ec (aa ?_)
   obtain ⟨t,ht⟩:=s39
   refine Bs Z (fun hb => ?_) (fun hb => ?_)
   ·have hb:t=true:=hb
    subst hb
    refine ae (aj (Ea Z (Ec (aa (aD (a9 (aI (aI (a9 ?_)))))))))
    refine aI ?_
    refine aK Tryz.results71 (.tmp Z (ao (by congr 1;rw [decide_eq_false]; intro h;exact (ht.1 Z) (fun k hk=>decide_eq_true (Af h.2.2 Y hk)))))
   ·have hb:t=false:=hb
    subst hb
    refine av (aB (aa (aj (DY (bn _ 1 Z Z Y) (DZ Z (Ec ?_))))))
    have hall : ∀ k,k<ca→F i k=G i k:=fun k hk=>by
     have h3 : ¬ ¬ ∀ k,k<ca→decide (F i k=G i k)=true:=fun h4=>by have:=ht.2 h4;cases this
     exact of_decide_eq_true (Classical.not_not.1 h3 k hk)
    refine aN (i+1) (⟨by omega,fun j hj=>(Nat.lt_succ_iff_lt_or_eq.1 hj).elim (hi.2 j) (fun e=>by subst e;exact hall)⟩) Y DU (.keep DX (.keep DX (.nil)))
  ·refine aY (aw (aw (aE (aa (ae (aj (Ea Z (Ec (aa ?_)))))))))
   refine aD ?_
   refine aK Tryz.results71 (.tmp Z (ao (by congr 1;rw [decide_eq_true]; exact ⟨rfl,rfl,nr fun a b ha hb=>hi.2 a Y b hb⟩)))
 ·rw [decide_eq_false hne] at hq
  unfold bG at *
  refine ae (aj ?_)
  refine aM Z Z (ltN Z) (fun b2 => ?_)
  refine aM Z Z (ltN Z) (fun b3 => ?_)
  refine Ea Z (Ec (aa (ae (ae (aT 15 aS X S (DY (ay 1 Z Z) (DY (ay 0 Z Z) (stS Z Z Z Z (PartsK.cons Z ?_)))))))))
  refine PartsK.cons Z (PartsK.nil ?_)
  refine DY (am (hv) Z ⟨(oY),Ed⟩) ?_
  refine DY (bF Z) (DZ Z (Eb (ay 1 Z Z) (pN Z Z Z Z Z Z (PartsK.cons Z (PartsK.nil ?_)))))
  refine Eb (am (hs1) Z ⟨(og),Ed⟩) ?_
  refine Eb (ay 0 Z Z) (pN Z Z Z Z Z Z (PartsK.cons Z (PartsK.nil ?_)))
  refine Eb (am (hs2) Z ⟨(og),Ed⟩) ?_
  refine Eb (am (hq) Z ⟨H,H,Ed⟩) ?_
  refine Eb (bF Z) (DY (a6 Z Z) (Ec (Ec (aa (aG Z (ae (aj (Ea Z (Ec ?_)))))))))
  refine aa (aD (aI ?_))
  refine aK Tryz.results71 (.tmp Z (ao (by congr 1;rw [decide_eq_false (fun h=>hne ⟨h.1,h.2.1⟩)])))
end Tor
end
section
namespace Tor
open Go Go.RowKit Go.Proofs
open Lin (dZ lZ uZ cO dK ec)
structure ChkP (m n:Nat) (A R U V:Nat→Nat→Int):Prop where
 ua:tab n m (gD n U A)=tab n m R
 uv:tab n n (gD n U V)=tab n n (fun i j=>if i=j then 1 else 0)
 dn:dZ m R n≠0
 red:lc n (dZ m R) (lZ m R)
attribute [local irreducible] J PJ aP one slT cv bA bM exT cq eP aW aU slV VT.le Ret bO
attribute [local irreducible] aO
set_option maxRecDepth 100000 in
theorem kV (m n:Nat) (A R U V:Nat→Nat→Int) (hn:n≤1048576) (hm:m≤1048576) (hA : ∀ i j,dA (A i j)) (hU : ∀ i j,dA (U i j)) (hV : ∀ i j,dA (V i j)) (hR:DesB m n R) (v:Bool) (hv:v=true↔ChkP m n A R U V) :
  Ok Tryz.prog 29 [bG n m A,rdT (bG n m R) (bG n n U) (bG n n V)] (one (.bool v)):=by
 have v1:=cJ n m A
 have v2:=cJ n m R
 have v3:=cJ n n U
 have v4:=cJ n n V
 have hm1:=sX n n U n m A hn hn hm hU hA
 have hm2:=sX n n U n n V hn hn hn hU hV
 unfold qs at hm1 hm2
 simp only [decide_true,if_true] at hm1 hm2
 have he1:=qP n m (gD n U A) n m R hn hm
 have he2:=qP n n (gD n U V) n n (fun i j=>if i=j then 1 else 0) hn hn
 simp only [true_and] at he1 he2
 have hid:=sW n hn
 refine Ok.enter Tryz.func29 Z Tryz.ntmps29 Z (fun w O => ?_)
 refine ae (aj ?_)
 refine aM Z Z (ltN Z) (fun b2 => ?_)
 refine aM Z Z (ltN Z) (fun b3 => ?_)
 refine Ea Z (Ec (aa (ae (ae (aj (DY (ay 1 Z Z) (DY (ah Z) (DY (ak 0 Z Z Z) (DY (ah Z) ?_)))))))))
 refine DY (ak 0 Z Z Z) (DY (ah Z) (DY (ak 0 Z Z Z) (stS Z Z Z Z (PartsK.cons Z (PartsK.cons Z (PartsK.cons Z (PartsK.cons Z (PartsK.nil (DY (aZ Z) ?_)))))))))
 refine DZ Z (Ec (aa (ar (cm (Γ' := [(2,_),(3,_),(4,_),(18,_),(19,_),(20,_)]) DT (SubM.refl _) ?_))))
 refine bw (σ:=Nat) (Γk := [(2,_),(3,_),(18,_),(19,_)]) DT (fun i => [(20,one (.int .i64 (i:Nat)))]) (fun i M0=>M0) (fun i=>i≤4) (fun i=>4 - i) (0) (Nat.zero_le _) DU (.keep DX (.keep DX (.nil))) (fun i hi => ?_)
 refine bN (Γ' := [(20,_),(2,_),(3,_),(18,_),(19,_)]) (M' := [_,_]) Z Z ?_
 by_cases hi4:i<4
 ·rcases (show i=0∨i=1∨i=2∨i=3 by omega) with rfl | rfl | rfl | rfl
  ·refine ae (aj (DY (sT Y (a7 Z Z)) (Ec (aa (ae (aG Z (av (aa (ae ?_)))))))))
   refine ar (ae (aj (DY (ax Z Z Y) (DY (aJ Z) ?_))))
   refine aF (T:=28) Z Z Z (fun b6 => ?_)
   refine aH 0 Z Z Z Z (Ec (aa (ae (aj (DY (ay 0 Z Z) ?_)))))
   refine DY (am (v1) Z ⟨H,Ed⟩) ?_
   refine DY (bF Z) (DZ Z (Eb (ah Z) (Eb (ak 0 Z Z Z) (Eb (ah Z) (Eb (ak 2 Z Z Z) (Eb (sF Y (cE Z Z)) (DY (a6 Z Z) (Ec (aa ?_)))))))))
   refine az Z (av (aB (aa (aj (DY (bn _ 1 Z Z Y) (DZ Z (Ec ?_)))))))
   refine aN (1) S S DU (.drop (.keep DX (.keep DX (.nil))))
  ·refine ae (aj (DY (sT Y (a7 Z Z)) (Ec (aa (ae (aG Z (av (aa (ae ?_)))))))))
   refine ar (ae (aj (DY (ax Z Z Y) (DY (aJ Z) ?_))))
   refine aF (T:=28) Z Z Z (fun b6 => ?_)
   refine aH 0 Z Z Z Z (Ec (aa (ae (aj (DY (ay 0 Z Z) ?_)))))
   refine DY (am (v2) Z ⟨H,Ed⟩) ?_
   refine DY (bF Z) (DZ Z (Eb (ah Z) (Eb (ak 0 Z Z Z) (Eb (ah Z) (Eb (ak 2 Z Z Z) (Eb (sF Y (cE Z Z)) (DY (a6 Z Z) (Ec (aa ?_)))))))))
   refine az Z (av (aB (aa (aj (DY (bn _ 1 Z Z Y) (DZ Z (Ec ?_)))))))
   refine aN (2) S S DU (.drop (.keep DX (.keep DX (.nil))))
  ·refine ae (aj (DY (sT Y (a7 Z Z)) (Ec (aa (ae (aG Z (av (aa (ae ?_)))))))))
   refine ar (ae (aj (DY (ax Z Z Y) (DY (aJ Z) ?_))))
   refine aF (T:=28) Z Z Z (fun b6 => ?_)
   refine aH 0 Z Z Z Z (Ec (aa (ae (aj (DY (ay 0 Z Z) ?_)))))
   refine DY (am (v3) Z ⟨H,Ed⟩) ?_
   refine DY (bF Z) (DZ Z (Eb (ah Z) (Eb (ak 0 Z Z Z) (Eb (ah Z) (Eb (ak 2 Z Z Z) (Eb (sF Y (cE Z Z)) (DY (a6 Z Z) (Ec (aa ?_)))))))))
   refine az Z (av (aB (aa (aj (DY (bn _ 1 Z Z Y) (DZ Z (Ec ?_)))))))
   refine aN (3) S S DU (.drop (.keep DX (.keep DX (.nil))))
  ·refine ae (aj (DY (sT Y (a7 Z Z)) (Ec (aa (ae (aG Z (av (aa (ae ?_)))))))))
   refine ar (ae (aj (DY (ax Z Z Y) (DY (aJ Z) ?_))))
   refine aF (T:=28) Z Z Z (fun b6 => ?_)
   refine aH 0 Z Z Z Z (Ec (aa (ae (aj (DY (ay 0 Z Z) ?_)))))
   refine DY (am (v4) Z ⟨H,Ed⟩) ?_
   refine DY (bF Z) (DZ Z (Eb (ah Z) (Eb (ak 0 Z Z Z) (Eb (ah Z) (Eb (ak 2 Z Z Z) (Eb (sF Y (cE Z Z)) (DY (a6 Z Z) (Ec (aa ?_)))))))))
   refine az Z (av (aB (aa (aj (DY (bn _ 1 Z Z Y) (DZ Z (Ec ?_)))))))
   refine aN (4) S S DU (.drop (.keep DX (.keep DX (.nil))))
 ·have he:i=4:=by omega
  subst he
  by_cases h1:tab n m (gD n U A)=tab n m R
  ·by_cases h2:tab n n (gD n U V)=tab n n (fun i j=>if i=j then 1 else 0)
   ·have hr:=fh m n R hn hm hR v ⟨fun h=>⟨(hv.1 h).dn,(hv.1 h).red⟩,fun h=>hv.2 ⟨h1,h2,h.1,h.2⟩⟩
    rw [decide_eq_true h1] at he1
    rw [decide_eq_true h2] at he2
    refine ae (aj (DY (sF Y (a7 Z Z)) (Ec (aa (ae (az Z (aY (aw (aw ?_)))))))))
    refine aE (aa (ae (ae (aj (DY (ah Z) (DY (ah Z) (DY (bt 0 0 1 Z Z Z Z Z) (DY (ah Z) (DY (ak 1 Z Z Z) ?_)))))))))
    refine DY (sF Y (cE Z Z)) (DZ Z (Eb (ah Z) (Eb (ah Z) (Eb (bt 0 3 1 Z Z Z Z Z) (Eb (ah Z) (Eb (ak 1 Z Z Z) (Eb (sF Y (cE Z Z)) (DY (a6 Z Z) (DZ Z ?_)))))))))
    refine Eb (ah Z) (Eb (ah Z) (Eb (bt 0 6 1 Z Z Z Z Z) (Eb (ah Z) (Eb (ak 1 Z Z Z) (Eb (sF Y (cE Z Z)) (DY (a6 Z Z) (Ec (aa (az Z ?_)))))))))
    refine av (aa (ae (ae (aj (DY (ah Z) (DY (ak 0 Z Z Z) (DY (ay 1 Z Z) ?_)))))))
    refine DY (am (hm1) Z ⟨H,H,Ed⟩) ?_
    refine DZ Z (DY (aq Z Z) (DY (aq Z Z) ?_))
    refine aF (T:=28) Z Z Z (fun b7 => ?_)
    refine aH 0 Z Z Z Z (Ea Z (Ec (aa (ae (aj (DZ Z (DY (sF Y (cE Z Z)) (DZ Z (Eb (ay 0 Z Z) ?_)))))))))
    refine Eb (ah Z) (Eb (ak 1 Z Z Z) ?_)
    refine Eb (am (he1) Z ⟨H,H,Ed⟩) ?_
    refine Eb (bF Z) (DY (a6 Z Z) (Ec (aa (az Z (av (aa (ae (ae (aj ?_)))))))))
    refine DY (ah Z) (DY (ak 1 Z Z Z) (DY (ah Z) (DY (ak 1 Z Z Z) ?_)))
    refine DY (am (hm2) Z ⟨H,H,Ed⟩) ?_
    refine DZ Z (DY (aq Z Z) (DY (aq Z Z) ?_))
    refine aF (T:=28) Z Z Z (fun b9 => ?_)
    refine aH 0 Z Z Z Z (Ea Z (Ec (aa (ae (aT 10 aS X S (DZ Z (DY (sF Y (cE Z Z)) (DZ Z (Eb (ay 0 Z Z) ?_)))))))))
    refine Eb (ah Z) (Eb (ak 3 Z Z Z) ?_)
    refine Eb (am (hid) Z ⟨H,Ed⟩) ?_
    refine Eb (am (he2) Z ⟨H,H,Ed⟩) ?_
    refine Eb (bF Z) (DY (a6 Z Z) (Ec (Ec (aa (az Z (av (aa (ae (aj ?_)))))))))
    refine DY (ah Z) (DY (ak 2 Z Z Z) ?_)
    refine DY (am (hr) Z ⟨H,Ed⟩) ?_
    refine Ea Z (Ec (aa (aD ?_)))
    refine aK Tryz.results29 (.tmp Z H)
   ·obtain rfl:v=false:=by cases v;rfl;exact absurd (hv.1 Z).uv h2
    rw [decide_eq_true h1] at he1
    rw [decide_eq_false h2] at he2
    refine ae (aj (DY (sF Y (a7 Z Z)) (Ec (aa (ae (az Z (aY (aw (aw ?_)))))))))
    refine aE (aa (ae (ae (aj (DY (ah Z) (DY (ah Z) (DY (bt 0 0 1 Z Z Z Z Z) (DY (ah Z) (DY (ak 1 Z Z Z) ?_)))))))))
    refine DY (sF Y (cE Z Z)) (DZ Z (Eb (ah Z) (Eb (ah Z) (Eb (bt 0 3 1 Z Z Z Z Z) (Eb (ah Z) (Eb (ak 1 Z Z Z) (Eb (sF Y (cE Z Z)) (DY (a6 Z Z) (DZ Z ?_)))))))))
    refine Eb (ah Z) (Eb (ah Z) (Eb (bt 0 6 1 Z Z Z Z Z) (Eb (ah Z) (Eb (ak 1 Z Z Z) (Eb (sF Y (cE Z Z)) (DY (a6 Z Z) (Ec (aa (az Z ?_)))))))))
    refine av (aa (ae (ae (aj (DY (ah Z) (DY (ak 0 Z Z Z) (DY (ay 1 Z Z) ?_)))))))
    refine DY (am (hm1) Z ⟨H,H,Ed⟩) ?_
    refine DZ Z (DY (aq Z Z) (DY (aq Z Z) ?_))
    refine aF (T:=28) Z Z Z (fun b7 => ?_)
    refine aH 0 Z Z Z Z (Ea Z (Ec (aa (ae (aj (DZ Z (DY (sF Y (cE Z Z)) (DZ Z (Eb (ay 0 Z Z) ?_)))))))))
    refine Eb (ah Z) (Eb (ak 1 Z Z Z) ?_)
    refine Eb (am (he1) Z ⟨H,H,Ed⟩) ?_
    refine Eb (bF Z) (DY (a6 Z Z) (Ec (aa (az Z (av (aa (ae (ae (aj ?_)))))))))
    refine DY (ah Z) (DY (ak 1 Z Z Z) (DY (ah Z) (DY (ak 1 Z Z Z) ?_)))
    refine DY (am (hm2) Z ⟨H,H,Ed⟩) ?_
    refine DZ Z (DY (aq Z Z) (DY (aq Z Z) ?_))
    refine aF (T:=28) Z Z Z (fun b9 => ?_)
    refine aH 0 Z Z Z Z (Ea Z (Ec (aa (ae (aT 10 aS X S (DZ Z (DY (sF Y (cE Z Z)) (DZ Z (Eb (ay 0 Z Z) ?_)))))))))
    refine Eb (ah Z) (Eb (ak 3 Z Z Z) ?_)
    refine Eb (am (hid) Z ⟨H,Ed⟩) ?_
    refine Eb (am (he2) Z ⟨H,H,Ed⟩) ?_
    refine Eb (bF Z) (DY (a6 Z Z) (Ec (Ec (aa (aG Z (ae (aj (Ea Z (Ec ?_)))))))))
    refine aa (aD (aI ?_))
    refine aK Tryz.results29 (.tmp Z H)
  ·obtain rfl:v=false:=by cases v;rfl;exact absurd (hv.1 Z).ua h1
   rw [decide_eq_false h1] at he1
   refine ae (aj (DY (sF Y (a7 Z Z)) (Ec (aa (ae (az Z (aY (aw (aw ?_)))))))))
   refine aE (aa (ae (ae (aj (DY (ah Z) (DY (ah Z) (DY (bt 0 0 1 Z Z Z Z Z) (DY (ah Z) (DY (ak 1 Z Z Z) ?_)))))))))
   refine DY (sF Y (cE Z Z)) (DZ Z (Eb (ah Z) (Eb (ah Z) (Eb (bt 0 3 1 Z Z Z Z Z) (Eb (ah Z) (Eb (ak 1 Z Z Z) (Eb (sF Y (cE Z Z)) (DY (a6 Z Z) (DZ Z ?_)))))))))
   refine Eb (ah Z) (Eb (ah Z) (Eb (bt 0 6 1 Z Z Z Z Z) (Eb (ah Z) (Eb (ak 1 Z Z Z) (Eb (sF Y (cE Z Z)) (DY (a6 Z Z) (Ec (aa (az Z ?_)))))))))
   refine av (aa (ae (ae (aj (DY (ah Z) (DY (ak 0 Z Z Z) (DY (ay 1 Z Z) ?_)))))))
   refine DY (am (hm1) Z ⟨H,H,Ed⟩) ?_
   refine DZ Z (DY (aq Z Z) (DY (aq Z Z) ?_))
   refine aF (T:=28) Z Z Z (fun b7 => ?_)
   refine aH 0 Z Z Z Z (Ea Z (Ec (aa (ae (aj (DZ Z (DY (sF Y (cE Z Z)) (DZ Z (Eb (ay 0 Z Z) ?_)))))))))
   refine Eb (ah Z) (Eb (ak 1 Z Z Z) ?_)
   refine Eb (am (he1) Z ⟨H,H,Ed⟩) ?_
   refine Eb (bF Z) (DY (a6 Z Z) (Ec (aa (aG Z (ae (aj (Ea Z (Ec (aa ?_)))))))))
   refine aD (aI ?_)
   refine aK Tryz.results29 (.tmp Z H)
end Tor
end
section
namespace Tor
open Lin (dZ lZ uZ cO shZ exZ dK ec qq cf qF dot gsB gsM sm DD)
variable {m n:Nat} {F:Nat→Nat→Int}
theorem Dx:dZ m F n≠0 ↔ ∀ i,i<n→qq m (qF F) i≠0:=by
 constructor
 ·intro h i hi
  exact Lin.jq (Lin.cx h (show i+1≤n by omega))
 ·intro h
  refine Lin.AO ?_
  rw [Lin.cp]
  induction n with
  | zero => exact fun e => absurd (show (1 : Rat) = 0 from e) S
  | succ n ih =>
   rw [Lin.dx]
   intro e
   rcases Rat.mul_eq_zero.1 e with e | e
   ·exact ih (fun i hi=>h i Y) e
   ·exact h n (Nat.lt_succ_self n) e
theorem qQ {a b:Int} {x:Rat} (h0:b≠0) (h:(a:Rat)=(b:Rat)*x):Rat.divInt a b=x:=by
 have hb:(b:Rat)≠0:=Lin.v6 h0
 rw [Rat.divInt_eq_div,h,Rat.mul_comm]
 exact Rat.mul_div_cancel hb
theorem rX (h:dZ m F n≠0) {i j:Nat} (hi:i<n) (hj:j<i):grM m F i j=gsM m (qF F) i j :=
 qQ (Lin.cx h Y) (by rw [Lin.cU,Lin.cp,Lin.kt hj])
theorem rY (h:dZ m F n≠0) {i:Nat} (hi:i<n):grQ m F i=qq m (qF F) i :=
 qQ (Lin.cx h Y) (by rw [Lin.cp,Lin.cp,Lin.dx])
theorem zy {l d:Int} {c:Rat} (hd:0<d) (h:(l:Rat)=(d:Rat)*c):2*(l.natAbs:Int)≤d↔c≤1 / 2 ∧ -(1 / 2)≤c:=by
 have hd':(0:Rat)<(d:Rat):=by exact_mod_cast hd
 have e:2*(l.natAbs:Int)≤d↔2*l≤d ∧ -(2*l)≤d:=by omega
 rw [e]
 have e1:2*l≤d↔c≤1 / 2:=by
  have:2*l≤d↔2*(l:Rat)≤(d:Rat):=by
   constructor
   ·intro k;exact_mod_cast k
   ·intro k;exact_mod_cast k
  rw [this,h]
  constructor
  ·intro k
   refine Rat.not_lt.1 fun k2 => ?_
   have:=Rat.mul_lt_mul_of_pos_left k2 hd'
   grind
  ·intro k
   have:=Rat.mul_le_mul_of_nonneg_left k (Rat.le_of_lt hd')
   grind
 have e2 : -(2*l)≤d ↔ -(1 / 2)≤c:=by
  have : -(2*l)≤d ↔ -(2*(l:Rat))≤(d:Rat):=by
   constructor
   ·intro k;exact_mod_cast k
   ·intro k;exact_mod_cast k
  rw [this,h]
  constructor
  ·intro k
   refine Rat.not_lt.1 fun k2 => ?_
   have:=Rat.mul_lt_mul_of_pos_left k2 hd'
   grind
  ·intro k
   have:=Rat.mul_le_mul_of_nonneg_left k (Rat.le_of_lt hd')
   grind
 rw [e1,e2]
theorem pG (h:dZ m F n≠0) {i j:Nat} (hi:i<n) (hj:j<i):dK m F i j↔gsM m (qF F) i j≤1 / 2 ∧ -(1 / 2)≤gsM m (qF F) i j :=
 zy (Lin.jS (Lin.cx h Y)) (by rw [Lin.cU,Lin.cp,Lin.kt hj])
theorem pH (h:dZ m F n≠0) {p:Nat} (hp:p+1<n):ec m F p↔(3 / 4 - gsM m (qF F) (p+1) p*gsM m (qF F) (p+1) p)*qq m (qF F) p≤qq m (qF F) (p+1):=by
 rw [Lin.tA (Lin.cx h (show p+1≤n by omega))]
 unfold Lin.exQ
 rw [Lin.kt (Nat.lt_succ_self p)]
 constructor
 ·intro k;grind
 ·intro k;grind
theorem tS (h:dZ m F n≠0):lc n (dZ m F) (lZ m F)↔RedQ n (gsM m (qF F)) (qq m (qF F)):=by
 constructor
 ·intro hr
  exact ⟨fun i j hi hj=>((pG h hi hj).1 (hr.1 i j hi hj)).1,fun i j hi hj=>((pG h hi hj).1 (hr.1 i j hi hj)).2,fun p hp=>(pH h hp).1 (hr.2 p hp)⟩
 ·intro hr
  exact ⟨fun i j hi hj=>(pG h hi hj).2 ⟨hr.up i j hi hj,hr.dn i j hi hj⟩,fun p hp=>(pH h hp).2 (hr.or p hp)⟩
theorem A8:(dZ m F n≠0∧lc n (dZ m F) (lZ m F))↔(∀ i,i<n→qq m (qF F) i≠0)∧RedQ n (gsM m (qF F)) (qq m (qF F)):=by
 constructor
 ·intro h;exact ⟨Dx.1 h.1,(tS h.1).1 h.2⟩
 ·intro h;have h1:=Dx.2 h.1;exact ⟨h1,(tS h1).2 h.2⟩
end Tor
end
section
namespace Tor
open Go Go.RowKit Go.Proofs
def nQ (c:Nat) (l:List Int):Nat→Nat→Int:=fun i j=>l.getD (i*c+j) 0
def IN (r c:Nat) (l:List Int):VT:=bG r c (nQ c l)
theorem zA {l:List Int} (h:(l.all fun x=>decide (-9223372036854775808≤x) && decide (x≤9223372036854775807))=true) : ∀ x∈l, -9223372036854775808≤x∧x≤9223372036854775807:=fun x hx=>by
 have:=List.all_eq_true.1 h x hx
 simpa using this
theorem nC (r c r' c':Nat) (F G:Nat→Nat→Int) (hr:r≤1048576):Ok Tryz.prog 27 [bG r c F,bG r' c' G] (one (.bool (decide ((r:Int)=r'∧(c:Int)=c'∧tab r c F=tab r' c' G)))) :=
 (sO r c r' c' (tab r c F) (tab r' c' G) (by simp;omega)).le ⟨oV _ _ _,oV _ _ _,Ed⟩ H
theorem mQ (r c:Nat) (l:List Int) (hr:r≤1048576) (hc:c≤1048576) (h:(l.all fun x=>decide (-9223372036854775808≤x) && decide (x≤9223372036854775807))=true):Ok Tryz.prog 40 [one (.int .i64 r),one (.int .i64 c),jY .i64 l] (IN r c l):=yc r c l hr hc (zA h)
end Tor
end
section
namespace Tor
open Go Go.RowKit Go.Proofs
open Lin (dZ lZ uZ cO dK ec qq cf qF dot gsB gsM sm)
attribute [local irreducible] J PJ aP one slT cv bA bM exT cq eP aW aU slV VT.le Ret bO
attribute [local irreducible] aO
set_option maxRecDepth 100000 in
theorem fP (m n:Nat) (A R U V:Nat→Nat→Int) (hn:n≤4) (hm:m≤4) (hA : ∀ i j,dA (A i j)) (hU : ∀ i j,dA (U i j)) (hV : ∀ i j,dA (V i j)) (hR : ∀ i j,lz 1 (R i j)) (v:Bool) (hv:v=true↔ChkP m n A R U V) :
  Ok Tryz.prog 28 [bG n m A,rdT (bG n m R) (bG n n U) (bG n n V)] (one (.bool v)):=by
 have hn':n≤1048576:=by omega
 have hm':m≤1048576:=by omega
 have v1:=lL n m A hn' (fun i j=>cI (hA i j))
 have v2:=jm n m R hn' (fun i j=>(hR i j).small S)
 have v3:=jm n n U hn' (fun i j=>cI (hU i j))
 have v4:=jm n n V hn' (fun i j=>cI (hV i j))
 have hm1:=jH n n U m A hn' hn' hm' hU hA
 have hm2:=jH n n U n V hn' hn' hn' hU hV
 have he1:=nC n m n m (gD n U A) R hn'
 have he2:=nC n n n n (gD n U V) (fun i j=>if i=j then 1 else 0) hn'
 simp only [true_and] at he1 he2
 have hid:=jG n hn'
 refine Ok.enter Tryz.func28 Z Tryz.ntmps28 Z (fun w O => ?_)
 by_cases h1:tab n m (gD n U A)=tab n m R
 ·by_cases h2:tab n n (gD n U V)=tab n n (fun i j=>if i=j then 1 else 0)
  ·have hr:=nP m n R hn hm hR v ⟨fun h=>A8.1 ⟨(hv.1 h).dn,(hv.1 h).red⟩,fun h=>hv.2 ⟨h1,h2,(A8.2 h).1,(A8.2 h).2⟩⟩
   rw [decide_eq_true h1] at he1
   rw [decide_eq_true h2] at he2
   refine ae (aj ?_)
   refine aM Z Z (ltN Z) (fun b2 => ?_)
   refine aM Z Z (ltN Z) (fun b3 => ?_)
   refine Ea Z (Ec (aa (ae (ae (aj (DY (ay 1 Z Z) ?_))))))
   refine DY (am (v1) Z ⟨H,Ed⟩) ?_
   refine DY (bF Z) (DZ Z (Eb (ah Z) (Eb (ak 0 Z Z Z) (Eb (ah Z) (Eb (ak 1 Z Z Z) (Eb (ah Z) (Eb (ak 1 Z Z Z) ?_)))))))
   refine Eb (am (v2) Z ⟨H,H,H,Ed⟩) ?_
   refine Eb (bF Z) (DY (a6 Z Z) (DZ Z (Eb (ah Z) (Eb (ak 0 Z Z Z) (Eb (ah Z) (Eb (ak 1 Z Z Z) (Eb (ah Z) (Eb (ak 1 Z Z Z) ?_))))))))
   refine Eb (am (v3) Z ⟨H,H,H,Ed⟩) ?_
   refine Eb (bF Z) (DY (a6 Z Z) (DZ Z (Eb (ah Z) (Eb (ak 0 Z Z Z) (Eb (ah Z) (Eb (ak 1 Z Z Z) (Eb (ah Z) (Eb (ak 1 Z Z Z) ?_))))))))
   refine Eb (am (v4) Z ⟨H,H,H,Ed⟩) ?_
   refine Eb (bF Z) (DY (a6 Z Z) (Ec (aa (az Z (av (aa (ae (aT 23 aS X S (DY (ah Z) ?_)))))))))
   refine DY (ak 0 Z Z Z) (DY (ay 1 Z Z) ?_)
   refine DY (am (hm1) Z ⟨H,H,Ed⟩) ?_
   refine DY (ah Z) (DY (ak 0 Z Z Z) ?_)
   refine DY (am (he1) Z ⟨H,H,Ed⟩) ?_
   refine DZ Z (Eb (ah Z) (Eb (ak 0 Z Z Z) (Eb (ah Z) (Eb (ak 0 Z Z Z) ?_))))
   refine Eb (am (hm2) Z ⟨H,H,Ed⟩) ?_
   refine Eb (ah Z) (Eb (ak 1 Z Z Z) ?_)
   refine Eb (am (hid) Z ⟨H,Ed⟩) ?_
   refine Eb (am (he2) Z ⟨H,H,Ed⟩) ?_
   refine DY (aV Z Z) (DZ Z (Eb (ah Z) (Eb (ak 0 Z Z Z) ?_)))
   refine Eb (am (hr) Z ⟨H,Ed⟩) ?_
   refine DY (aV Z Z) (Ec (Ea Z (Ec (aa (aD ?_)))))
   refine aK Tryz.results28 (.tmp Z H)
  ·obtain rfl:v=false:=by cases v;rfl;exact absurd (hv.1 Z).uv h2
   rw [decide_eq_true h1] at he1
   rw [decide_eq_false h2] at he2
   refine ae (aj ?_)
   refine aM Z Z (ltN Z) (fun b2 => ?_)
   refine aM Z Z (ltN Z) (fun b3 => ?_)
   refine Ea Z (Ec (aa (ae (ae (aj (DY (ay 1 Z Z) ?_))))))
   refine DY (am (v1) Z ⟨H,Ed⟩) ?_
   refine DY (bF Z) (DZ Z (Eb (ah Z) (Eb (ak 0 Z Z Z) (Eb (ah Z) (Eb (ak 1 Z Z Z) (Eb (ah Z) (Eb (ak 1 Z Z Z) ?_)))))))
   refine Eb (am (v2) Z ⟨H,H,H,Ed⟩) ?_
   refine Eb (bF Z) (DY (a6 Z Z) (DZ Z (Eb (ah Z) (Eb (ak 0 Z Z Z) (Eb (ah Z) (Eb (ak 1 Z Z Z) (Eb (ah Z) (Eb (ak 1 Z Z Z) ?_))))))))
   refine Eb (am (v3) Z ⟨H,H,H,Ed⟩) ?_
   refine Eb (bF Z) (DY (a6 Z Z) (DZ Z (Eb (ah Z) (Eb (ak 0 Z Z Z) (Eb (ah Z) (Eb (ak 1 Z Z Z) (Eb (ah Z) (Eb (ak 1 Z Z Z) ?_))))))))
   refine Eb (am (v4) Z ⟨H,H,H,Ed⟩) ?_
   refine Eb (bF Z) (DY (a6 Z Z) (Ec (aa (az Z (av (aa (ae (aT 23 aS X S (DY (ah Z) ?_)))))))))
   refine DY (ak 0 Z Z Z) (DY (ay 1 Z Z) ?_)
   refine DY (am (hm1) Z ⟨H,H,Ed⟩) ?_
   refine DY (ah Z) (DY (ak 0 Z Z Z) ?_)
   refine DY (am (he1) Z ⟨H,H,Ed⟩) ?_
   refine DZ Z (Eb (ah Z) (Eb (ak 0 Z Z Z) (Eb (ah Z) (Eb (ak 0 Z Z Z) ?_))))
   refine Eb (am (hm2) Z ⟨H,H,Ed⟩) ?_
   refine Eb (ah Z) (Eb (ak 1 Z Z Z) ?_)
   refine Eb (am (hid) Z ⟨H,Ed⟩) ?_
   refine Eb (am (he2) Z ⟨H,H,Ed⟩) ?_
   refine DY (aV Z Z) (DZ Z (sn0 Z Z Z Z Z (sn0 Z Z Z Z Z (sn0 Z Z Z Z Z (DY (a6 Z Z) (Ec (Ea Z (Ec (aa ?_)))))))))
   refine aD ?_
   refine aK Tryz.results28 (.tmp Z H)
 ·obtain rfl:v=false:=by cases v;rfl;exact absurd (hv.1 Z).ua h1
  rw [decide_eq_false h1] at he1
  refine ae (aj ?_)
  refine aM Z Z (ltN Z) (fun b2 => ?_)
  refine aM Z Z (ltN Z) (fun b3 => ?_)
  refine Ea Z (Ec (aa (ae (ae (aj (DY (ay 1 Z Z) ?_))))))
  refine DY (am (v1) Z ⟨H,Ed⟩) ?_
  refine DY (bF Z) (DZ Z (Eb (ah Z) (Eb (ak 0 Z Z Z) (Eb (ah Z) (Eb (ak 1 Z Z Z) (Eb (ah Z) (Eb (ak 1 Z Z Z) ?_)))))))
  refine Eb (am (v2) Z ⟨H,H,H,Ed⟩) ?_
  refine Eb (bF Z) (DY (a6 Z Z) (DZ Z (Eb (ah Z) (Eb (ak 0 Z Z Z) (Eb (ah Z) (Eb (ak 1 Z Z Z) (Eb (ah Z) (Eb (ak 1 Z Z Z) ?_))))))))
  refine Eb (am (v3) Z ⟨H,H,H,Ed⟩) ?_
  refine Eb (bF Z) (DY (a6 Z Z) (DZ Z (Eb (ah Z) (Eb (ak 0 Z Z Z) (Eb (ah Z) (Eb (ak 1 Z Z Z) (Eb (ah Z) (Eb (ak 1 Z Z Z) ?_))))))))
  refine Eb (am (v4) Z ⟨H,H,H,Ed⟩) ?_
  refine Eb (bF Z) (DY (a6 Z Z) (Ec (aa (az Z (av (aa (ae (aT 23 aS X S (DY (ah Z) ?_)))))))))
  refine DY (ak 0 Z Z Z) (DY (ay 1 Z Z) ?_)
  refine DY (am (hm1) Z ⟨H,H,Ed⟩) ?_
  refine DY (ah Z) (DY (ak 0 Z Z Z) ?_)
  refine DY (am (he1) Z ⟨H,H,Ed⟩) ?_
  refine DZ Z (sn0 Z Z Z Z Z (sn0 Z Z Z Z Z (sn0 Z Z Z Z Z (sn0 Z Z Z Z Z (sn0 Z Z Z Z Z (sn0 Z Z Z Z Z (sn0 Z Z Z Z Z (sn0 Z Z Z Z Z (sn0 Z Z Z Z Z ?_)))))))))
  refine DY (a6 Z Z) (DZ Z (sn0 Z Z Z Z Z (sn0 Z Z Z Z Z (sn0 Z Z Z Z Z (DY (a6 Z Z) (Ec (Ea Z (Ec (aa ?_)))))))))
  refine aD ?_
  refine aK Tryz.results28 (.tmp Z H)
end Tor
end
section
namespace Tor.Lin
theorem zB {n m:Nat} {f:Nat→Rat} (h:m≤n) (h0 : ∀ j,m≤j→j<n→f j=0):sm n f=sm m f:=by
  induction n with
  | zero => have : m = 0 := by omega
            rw [this]
  | succ n ih =>
    by_cases e:m=n+1
    · rw [e]
    · rw [sm,ih Y (fun j h1 h2=>h0 j h1 Y),h0 n Y Y,Rat.add_zero]
end Tor.Lin
end
section
namespace Tor
open Go Go.RowKit Go.Proofs
theorem mS {α:Type} [Inhabited α] {n:Nat} {P:Nat→α→Prop} (h : ∀ t,t<n → ∃ z,P t z) : ∃ DN:Nat→α, ∀ t,t<n→P t (DN t):=by
 refine ⟨fun t=>if h':t<n then Classical.choose (h t h') else default,fun t ht => ?_⟩
 have:=Classical.choose_spec (h t ht)
 dsimp only
 rw [dif_pos ht]; exact this
def Ech (B:Nat→Nat→Rat) (n k:Nat):Prop:=(∀ i,i<k→cB (B i) n<n) ∧ ∀ i j,i<j→j<k→B j (cB (B i) n)=0
theorem tT {B:Nat→Nat→Rat} {n k:Nat} (h:Ech B n k) (a:Nat→Rat) : ∀ i,i≤k → ∀ t,t<i→hJ B n a i (cB (B t) n)=0
 | 0, _, t, ht => absurd ht (Nat.not_lt_zero _)
 | i + 1, hi, t, ht => by
  show hJ B n a i (cB (B t) n) - hJ B n a i (cB (B i) n) / B i (cB (B i) n)*B i (cB (B t) n)=0
  by_cases e:t=i
  ·subst e
   have h0:=(js (h.1 t Y)).1
   grind
  ·rw [tT h a i Y t Y,h.2 t i Y Y]; grind
theorem tU (B:Nat→Nat→Rat) (n:Nat) (a:Nat→Rat) : ∀ i j,hJ B n a i j=a j - Lin.sm i (fun t=>hJ B n a t (cB (B t) n) / B t (cB (B t) n)*B t j)
 | 0, j => by show a j = a j - 0; grind
 | i + 1, j => by
  show hJ B n a i j - hJ B n a i (cB (B i) n) / B i (cB (B i) n)*B i j=a j - (Lin.sm i _+_)
  rw [tU B n a i j]; grind
theorem zC {B:Nat→Nat→Rat} {n k:Nat} (h:Ech B n k) {g:Nat→Rat} (h0 : ∀ t,t<k→Lin.sm k (fun s=>g s*B s (cB (B t) n))=0) : ∀ t,t<k→g t=0:=by
 intro t
 induction t using Nat.strongRecOn with
 | _ t ih =>
  intro ht
  have z:=h0 t ht
  rw [Lin.ja ht (fun i hi hne=>by
   rcases Nat.lt_or_ge i t with h1 | h1
   ·rw [ih i h1 hi]; exact Rat.zero_mul _
   ·rw [h.2 t i Y hi]; exact Rat.mul_zero _)] at z
  have hb:=(js (h.1 t ht)).1
  rcases Rat.mul_eq_zero.1 z with h1 | h1
  ·exact h1
  ·exact absurd h1 hb
theorem zE {l:List (Nat→Rat)} {n:Nat} {R:Nat→Rat} (h:Ech (ee l) n l.length) (h1:cB R n<n) (h2 : ∀ t,t<l.length→R (cB (ee l t) n)=0):Ech (ee (l ++ [R])) n (l ++ [R]).length:=by
 have hl:(l ++ [R]).length=l.length+1:=by simp
 rw [hl]
 refine ⟨fun i hi => ?_,fun i j hij hj => ?_⟩
 ·by_cases e:i<l.length
  ·rw [jU e]; exact h.1 i e
  ·rw [show i=l.length by omega,jt]; exact h1
 ·rw [jU (show i<l.length by omega)]
  by_cases e:j<l.length
  ·rw [jU e]; exact h.2 i j hij e
  ·rw [show j=l.length by omega,jt]; exact h2 i Y
structure NewJ (r c:Nat) (F:Nat→Nat→Int) (i:Nat) (s:List Nat × List (Nat→Rat)):Prop where
 ech:Ech (ee s.2) c s.2.length
 sp : ∀ i',i'<i → ∃ y:Nat→Rat, ∀ j,(F i' j:Rat) - Lin.sm s.2.length (fun t=>y t*ee s.2 t j)=0∨c≤j
 cb : ∀ t,t<s.2.length → ∃ z:Nat→Rat,(∀ q,i≤q→z q=0) ∧ ∀ j,ee s.2 t j=Lin.sm r (fun q=>z q*(F q j:Rat))
 nw:s.1=Lin.jK c r (fun i j=>F j i) i
theorem tV {l:List (Nat→Rat)} {R:Nat→Rat} {y:Nat→Rat} {j:Nat} : Lin.sm (l ++ [R]).length (fun t=>y t*ee (l ++ [R]) t j)=Lin.sm l.length (fun t=>y t*ee l t j)+y l.length*R j:=by
 rw [show (l ++ [R]).length=l.length+1 by simp,Lin.sm,jt]
 congr 1
 exact Lin.be fun t ht=>by rw [jU ht]
theorem zG {r c:Nat} {F:Nat→Nat→Int} : ∀ i,i≤r→NewJ r c F i (fR c F i)
 | 0, _ => ⟨⟨fun i h => absurd h (Nat.not_lt_zero _), fun i j _ h => absurd h (Nat.not_lt_zero _)⟩, fun i h => absurd h (Nat.not_lt_zero _), fun t h => absurd h (Nat.not_lt_zero _), rfl⟩
 | i + 1, hi => by
  have ih:=zG (r:=r) (c:=c) (F:=F) i Y
  show NewJ r c F (i+1) (if _ then _ else fR c F i)
  have hz:=tT ih.ech (fun j=>(F i j:Rat)) _ (Nat.le_refl _)
  obtain ⟨co,hsp⟩ : ∃ co:Nat→Rat, ∀ j,hJ (ee (fR c F i).2) c (fun j=>(F i j:Rat)) (fR c F i).2.length j=(F i j:Rat) - Lin.sm (fR c F i).2.length (fun t=>co t*ee (fR c F i).2 t j):=⟨_,fun j=>tU (ee (fR c F i).2) c (fun j=>(F i j:Rat)) (fR c F i).2.length j⟩
  generalize hR:hJ (ee (fR c F i).2) c (fun j=>(F i j:Rat)) (fR c F i).2.length=R at *
  clear hR
  generalize fR c F i=DQ at *
  -- a row of the basis and the row i as combinations of the rows
  have hcR : ∃ z:Nat→Rat,z i=1∧(∀ q,i<q→z q=0) ∧ ∀ j,R j=Lin.sm r (fun q=>z q*(F q j:Rat)):=by
   have hch:=mS ih.cb
   obtain ⟨DN,hZ⟩:=hch
   refine ⟨fun q=>(if q=i then 1 else 0) - Lin.sm DQ.2.length (fun t=>co t*DN t q),?_,fun q hq => ?_,fun j => ?_⟩
   ·show (if i=i then (1:Rat) else 0) - _=1
    rw [if_pos Z,Lin.gw (fun t ht=>by rw [(hZ t ht).1 i (Nat.le_refl _)]; exact Rat.mul_zero _)]; grind
   ·show (if q=i then (1:Rat) else 0) - _=0
    rw [if_neg Y,Lin.gw (fun t ht=>by rw [(hZ t ht).1 q Y]; exact Rat.mul_zero _)]; grind
   ·rw [hsp j]
    rw [Lin.be (f:=fun q=>((if q=i then 1 else 0) - Lin.sm DQ.2.length (fun t=>co t*DN t q))*(F q j:Rat)) (g:=fun q=>(if q=i then (F q j:Rat) else 0) - Lin.sm DQ.2.length (fun t=>co t*(DN t q*(F q j:Rat)))) (fun q _=>by
     have e:Lin.sm DQ.2.length (fun t=>co t*(DN t q*(F q j:Rat)))=Lin.sm DQ.2.length (fun t=>co t*DN t q)*(F q j:Rat):=by
      rw [← Lin.jJ]; exact Lin.be fun t _=>by grind
     rw [e]; split <;> grind),Lin.kq,Lin.uy Y,Lin.n8]
    congr 1
    exact Lin.be fun t ht=>by
     rw [(hZ t ht).2 j,Rat.mul_comm, ← Lin.jJ]
     exact Lin.be fun q _=>by grind
  by_cases hf:cB R c<c
  ·rw [if_pos hf]
   refine ⟨zE ih.ech hf hz,fun i' hi' => ?_,fun t ht => ?_,?_⟩
   ·by_cases e:i'=i
    ·subst e
     refine ⟨fun t=>if t<DQ.2.length then co t else 1,fun j => .inl ?_⟩
     show _ - Lin.sm (DQ.2 ++ [R]).length (fun t=>(if t<DQ.2.length then co t else 1)*ee (DQ.2 ++ [R]) t j)=0
     rw [tV (y:=fun t=>if t<DQ.2.length then co t else 1),if_neg (Nat.lt_irrefl _),hsp j,Lin.be (g:=fun t=>co t*ee DQ.2 t j) (fun t ht=>by rw [if_pos ht])]
     grind
    ·obtain ⟨y,hy⟩:=ih.sp i' Y
     refine ⟨fun t=>if t<DQ.2.length then y t else 0,fun j=>(hy j).imp (fun h => ?_) id⟩
     show _ - Lin.sm (DQ.2 ++ [R]).length (fun t=>(if t<DQ.2.length then y t else 0)*ee (DQ.2 ++ [R]) t j)=0
     rw [tV (y:=fun t=>if t<DQ.2.length then y t else 0),if_neg (Nat.lt_irrefl _),Lin.be (g:=fun t=>y t*ee DQ.2 t j) (fun t ht=>by rw [if_pos ht])]
     grind
   ·have hl:(DQ.2 ++ [R]).length=DQ.2.length+1:=by simp
    have ht:t<(DQ.2 ++ [R]).length:=ht
    show ∃ z:Nat→Rat,(∀ q,i+1≤q→z q=0) ∧ ∀ j,ee (DQ.2 ++ [R]) t j=Lin.sm r (fun q=>z q*(F q j:Rat))
    by_cases e:t<DQ.2.length
    ·obtain ⟨z,z1,z2⟩:=ih.cb t e
     exact ⟨z,fun q hq=>z1 q Y,fun j=>by rw [jU e]; exact z2 j⟩
    ·obtain ⟨z,_,z1,z2⟩:=hcR
     exact ⟨z,fun q hq=>z1 q Y,fun j=>by rw [show t=DQ.2.length by omega,jt]; exact z2 j⟩
   ·show DQ.1 ++ [i]=_
    rw [Lin.pU, ← ih.nw]
    rintro ⟨y,y1,y2,y3⟩
    have hch:=mS ih.sp
    obtain ⟨DO,hY⟩:=hch
    -- the row i is a combination of the basis
    have e1 : ∀ j,j<c→R j=Lin.sm DQ.2.length (fun t=>(- Lin.sm i (fun q=>y q*DO q t) - co t)*ee DQ.2 t j):=fun j hj=>by
     have z:=y3 j hj
     rw [Lin.zB (show i+1≤r by omega) (fun q h1 _=>by rw [y2 q Y]; exact Rat.zero_mul _),Lin.sm,y1] at z
     rw [Lin.be (g:=fun t=>(-1:Rat)*(Lin.sm i (fun q=>y q*DO q t)*ee DQ.2 t j)+(-1:Rat)*(co t*ee DQ.2 t j)) (fun t _=>by grind),Lin.o5,hsp j]
     have e2:Lin.sm DQ.2.length (fun t=>Lin.sm i (fun q=>y q*DO q t)*ee DQ.2 t j)=Lin.sm i (fun q=>y q*(F q j:Rat)):=by
      rw [Lin.be (g:=fun t=>Lin.sm i (fun q=>y q*DO q t*ee DQ.2 t j)) (fun t _=>by rw [Lin.jJ]),Lin.n8]
      refine Lin.be fun q hq => ?_
      rcases hY q hq j with h | h
      ·have h:(F q j:Rat)=Lin.sm DQ.2.length (fun t=>DO q t*ee DQ.2 t j):=by grind
       rw [h,Rat.mul_comm, ← Lin.jJ]
       exact Lin.be fun t _=>by grind
      ·omega
     rw [e2]
     have z:Lin.sm i (fun j_1=>y j_1*(F j_1 j:Rat))+1*(F i j:Rat)=0:=z
     grind
    have g0:=zC ih.ech (g:=fun t => - Lin.sm i (fun q=>y q*DO q t) - co t) (fun t ht=>by
     have hlt:=ih.ech.1 t ht
     rw [← e1 _ hlt]; exact hz t ht)
    have:R (cB R c)=0:=by
     rw [e1 _ hf]
     exact Lin.gw fun t ht=>by rw [g0 t ht]; exact Rat.zero_mul _
    exact (js hf).1 this
  ·rw [if_neg hf]
   have hR0 : ∀ j,j<c→R j=0:=by
    rcases mN R c with ⟨_,h⟩ | ⟨h,_⟩
    ·exact h
    ·exact absurd h hf
   refine ⟨ih.ech,fun i' hi' => ?_,fun t ht => ?_,?_⟩
   ·by_cases e:i'=i
    ·subst e
     refine ⟨co,fun j => ?_⟩
     by_cases hj:j<c
     ·exact .inl (by rw [← hsp j]; exact hR0 j hj)
     ·exact .inr Y
    ·exact ih.sp i' Y
   ·obtain ⟨z,z1,z2⟩:=ih.cb t ht
    exact ⟨z,fun q hq=>z1 q Y,z2⟩
   ·rw [Lin.pV, ← ih.nw]
    obtain ⟨z,z0,z1,z2⟩:=hcR
    exact Classical.not_not.2 ⟨z,z0,z1,fun j hj=>by
     have:=z2 j
     rw [hR0 j hj] at this
     exact this.symm⟩
theorem xl {r c i:Nat} {F:Nat→Nat→Int} (h:i≤r):(fR c F i).1=Lin.jK c r (fun i j=>F j i) i:=(zG i h).nw
end Tor
end
section
namespace Tor
open Lin (dZ lZ uZ cO shZ exZ dK ec qq cf qF dot gsB gsM sm DD be)
theorem A9 {m n:Nat} {A:Nat→Nat→Rat} : ∀ c,c<n → ∃ y:Nat→Rat,y c=1∧(∀ j,c<j→y j=0) ∧ ∀ k,gsB m A c k=sm n (fun j=>y j*A j k):=by
 intro c
 induction c using Nat.strongRecOn with
 | _ c ih =>
  intro hc
  have key : ∀ i,i≤c → ∃ y:Nat→Rat,y c=1∧(∀ j,c<j→y j=0) ∧ ∀ k,rsQ m A c i k=sm n (fun j=>y j*A j k):=by
   intro i
   induction i with
   | zero =>
    intro _
    refine ⟨fun j=>if j=c then 1 else 0,if_pos Z,fun j hj=>if_neg Y,fun k => ?_⟩
    rw [zg,be (g:=fun j=>if j=c then A c k else 0) (fun j _=>by
     show (if j=c then (1:Rat) else 0)*A j k=if j=c then A c k else 0
     by_cases e:j=c
     ·subst e;rw [if_pos Z,if_pos Z]; grind
     ·rw [if_neg e,if_neg e]; exact Rat.zero_mul _),Lin.uy hc]
   | succ i iq =>
    intro hi
    obtain ⟨y,h1,h2,h3⟩:=iq Y
    obtain ⟨z,k1,k2,k3⟩:=ih i Y Y
    refine ⟨fun j=>y j - gsM m A c i*z j,?_,fun j hj => ?_,fun k => ?_⟩
    ·show y c - _*z c=1
     rw [h1,k2 c Y]; grind
    ·show y j - _*z j=0
     rw [h2 j hj,k2 j Y]; grind
    ·rw [zi,h3,k3, ← Lin.kN, ← Lin.kq]
     exact be fun j _=>by grind
  obtain ⟨y,h1,h2,h3⟩:=key c (Nat.le_refl c)
  exact ⟨y,h1,h2,fun k=>by rw [← qN]; exact h3 k⟩
theorem tW {m n c:Nat} {A:Nat→Nat→Rat} {y:Nat→Rat} (hc:c<n) (h2 : ∀ j,c<j→y j=0):dot m (fun k=>sm n (fun j=>y j*A j k)) (gsB m A c)=y c*qq m A c:=by
 have h1:dot m (fun k=>sm n (fun j=>y j*A j k)) (gsB m A c)=sm n (fun j=>y j*dot m (A j) (gsB m A c)):=by
  unfold Lin.dot
  rw [be (g:=fun k=>sm n (fun j=>y j*(A j k*gsB m A c k))) (fun k _=>by
   rw [← Lin.jJ]; exact be fun j _=>by grind),Lin.n8]
  exact be fun j _=>Lin.kN _ _ _
 rw [h1,be (g:=fun j=>if j=c then y c*qq m A c else 0) (fun j _=>by
  rw [Lin.gQ]
  by_cases e:j=c
  ·subst e;rw [Lin.eH,if_pos Z]; grind
  ·rw [if_neg e]
   rcases Nat.lt_or_ge c j with h | h
   ·rw [h2 j h]; exact Rat.zero_mul _
   ·rw [Lin.pq Y]; grind),Lin.uy hc]
theorem wr {m n c:Nat} {F:Nat→Nat→Int} (hc:c<n):Lin.mw m n (fun i j=>F j i) c↔qq m (qF F) c≠0:=by
 constructor
 ·intro h h0
  obtain ⟨y,h1,h2,h3⟩:=A9 (m:=m) (A:=qF F) c hc
  exact h ⟨y,h1,h2,fun i hi=>by
   have h4:=Lin.po h0 i hi
   rw [h3] at h4;exact h4⟩
 ·rintro h ⟨y,h1,h2,h3⟩
  have h4:=tW (m:=m) (A:=qF F) (y:=y) hc h2
  rw [h1] at h4
  have h5:dot m (fun k=>sm n (fun j=>y j*qF F j k)) (gsB m (qF F) c)=0:=Lin.gw fun k hk=>by
   have:=h3 k hk
   show sm n (fun j=>y j*(F j k:Rat))*_=0
   rw [this]; exact Rat.zero_mul _
  rw [h5] at h4
  exact h (by grind)
theorem zH {m n:Nat} {F:Nat→Nat→Int} : (fR m F n).1.length=n ↔ ∀ i,i<n→qq m (qF F) i≠0:=by
 rw [xl (Nat.le_refl n)]
 constructor
 ·intro h i hi
  refine (wr hi).1 ?_
  have h1:=Lin.wZ (r:=m) (w:=n) (F:=fun i j=>F j i) (n:=n) Y
  exact (Lin.C1.1 (by rw [h1]; exact List.mem_range.2 hi)).2
 ·intro h
  rcases Nat.lt_or_ge (Lin.jK m n (fun i j=>F j i) n).length n with h1 | h1
  ·obtain ⟨c,hc,k⟩:=Lin.uA h1
   exact absurd ((wr hc).2 (h c hc)) k
  ·exact Nat.le_antisymm (Lin.Al _ _ _ _) h1
end Tor
end
section
namespace Tor
open Go Go.RowKit Go.Proofs
open Lin (dZ lZ uZ cO dK ec qq cf qF dot gsB gsM sm)
theorem Ba {r:Nat} (h:r≤4):ld 1 r≤1099511627700:=by
 rcases (show r=0∨r=1∨r=2∨r=3∨r=4 by omega) with rfl | rfl | rfl | rfl | rfl <;> decide +kernel
def j6 (i j:Nat) (k:Int) (F:Nat→Nat→Int):Nat→Nat→Int:=fun a b=>if a=i∧b=j then F a b+k else F a b
abbrev Bb (w i j:Nat) (k:Int):VT:=bA 4 [(0, .one,one (.int .u8 w)),(1, .one,one (.int .u8 i)),(2, .one,one (.int .u8 j)),(3, .one,one (.int .i8 k))]
theorem Bc {c i j:Nat} {k:Int} {bs:List Nat} {F:Nat→Nat→Int} : Own.le (c8 43 (.agg 2) c bs (dT (fun q k=>aO (F q k)) i j (aO (F i j+k)))) (ew c bs (j6 i j k F)):=gA fun a b _ _=>by
 unfold dT j6
 by_cases h:a=i∧b=j
 ·rw [if_pos h,if_pos h,h.1,h.2]
 ·rw [if_neg h,if_neg h]
attribute [local irreducible] J PJ aP one slT cv bA bM exT cq eP aW aU slV VT.le Ret bO
attribute [local irreducible] aO bx c8
theorem rZ (m n:Nat) (F:Nat→Nat→Int) (hn:n≤4) (hm:m≤4) (hF : ∀ i j,lz 1 (F i j)) (b:Bool) (hb:b=true↔dZ m F n≠0):Ok Tryz.prog 17 [bG n m F] (one (.bool b)):=by
 have hnew:=ze n m F 1 Y Y S hF (Ba hn)
 have hiff:b=decide (((fR m F n).1.length:Int)=(n:Nat)):=by
  have h1:=zH (m:=m) (n:=n) (F:=F)
  rw [← Dx, ← hb] at h1
  cases b
  ·exact (decide_eq_false fun e=>Bool.false_ne_true (h1.1 Y)).symm
  ·exact (decide_eq_true (by have:=h1.2 Z;omega)).symm
 rw [hiff]
 refine Ok.enter Tryz.func17 Z Tryz.ntmps17 Z (fun w O => ?_)
 refine ae (aj ?_)
 refine aM Z Z (ltN Z) (fun b1 => ?_)
 refine Ea Z (Ec (aa (ae (aT 6 aS X S (DY (ay 0 Z Z) ?_)))))
 refine DY (am (hnew) Z ⟨H,Ed⟩) ?_
 refine DY (aZ Z) (DY (ah Z) (DY (ak 0 Z Z Z) (DY (cn Z Z) (Ec (Ea Z (Ec (aa (aD ?_))))))))
 refine aK Tryz.results17 (.tmp Z H)
theorem kW (n:Nat) (f:Nat→Int) (hn:n≤1048576) (hf : ∀ i,cX (f i)):Ok Tryz.prog 31 [cu n f] (bx ((cO n f f:Int):Rat)):=by
 have h1:=tF n f f hn hf hf
 rw [← jr,show Lin.smZ n (fun k=>f k*f k)=cO n f f from rfl] at h1
 have h2:=jO (cO n f f)
 refine Ok.enter Tryz.func31 Z Tryz.ntmps31 Z (fun w O => ?_)
 refine ae (aj ?_)
 refine aF (T:=45) Z Z Z (fun b2 => ?_)
 refine Ec (aa (ae (aj (DZ Z (DZ Z ?_)))))
 refine DY (am (h1) Z ⟨H,H,Ed⟩) ?_
 refine DZ Z (DY (aq Z Z) (DY (aq Z Z) ?_))
 refine aX (T:=43) Z (ltN Z) (fun b3 => ?_)
 refine aC 0 Z Z Z Z Z (leN Z) Z (Ea Z (Ec (aa (ae (aj (DY (ak 0 Z Z Z) ?_))))))
 refine DY (am (h2) Z ⟨H,Ed⟩) ?_
 refine cK 1 Z Z Z Z (Ec (aa (aD ?_)))
 refine aK Tryz.results31 (.cellB 1 Z Z Z H)
set_option maxRecDepth 100000 in
theorem kX (r c:Nat) (F:Nat→Nat→Int) (wt i j:Nat) (k:Int) (hr:r≤1048576) (hc:c≤1048576) (hF : ∀ i j,dA (F i j)) (hi:i≤255) (hj:j≤255) (hk : -128≤k∧k≤127) :
  Ok Tryz.prog 36 [bG r c F,Bb wt i j k] (bG r c (j6 (i % r) (j % c) k F)):=by
 have hCo:=tP r c F hr hc (fun i j=>cI (hF i j))
 simp only [Int.mul_one] at hCo
 unfold bG at *
 refine Ok.enter Tryz.func36 Z Tryz.ntmps36 Z (fun w O => ?_)
 refine ae (aj ?_)
 refine aM Z Z (ltN Z) (fun b2 => ?_)
 refine aM Z Z (ltN Z) (fun b3 => ?_)
 refine aF (T:=28) Z Z Z (fun b4 => ?_)
 refine Ec (aa (ae (aj (DY (ay 2 Z Z) ?_))))
 refine di (hCo) Z ⟨H,Ed⟩ Z Z (fun s9 => ?_)
 refine aF (T:=28) Z Z Z (fun b5 => ?_)
 refine aH 0 Z Z Z Z (Ec (aa (ae (ae ?_))))
 obtain ⟨⟨bs,sv1,cap1⟩,hlen,hsv⟩:=s9
 dsimp only at hlen hsv ⊢
 dsimp only [List.cons_append,List.nil_append,List.set]
 have hperm : ∀ (x y z u t s:Own), [x,y,z,u,t,s].Perm ([y,z] ++ [x,u,t,s]):=fun x y z u t s=>(List.Perm.swap y x _).trans (List.Perm.cons y (List.Perm.swap z x _))
 by_cases hr0:0<r
 ·by_cases hc0:0<c
  ·obtain ⟨bo,rfl⟩:=eG hsv Y
   have hir:=Nat.mod_lt i hr0
   have hjc:=Nat.mod_lt j hc0
   have hk1:=fZ k Y Y
   have hk2:bJ k:=bE (dF (t:=8) (show k.natAbs≤2^8 by omega) S)
   have had:=iB (F (i % r) (j % c)) k (cI (hF _ _)) hk2
   refine aj (DY (ah Z) (DY (ak 5 Z Z Z) (DY (sT Y (ej Z Z)) (DZ Z (Eb (ah Z) (Eb (ak 5 Z Z Z) (Eb (sT Y (ej Z Z)) (DY (aV Z Z) (Ec ?_)))))))))
   refine aa (aG Z (ae (aT 13 aS X S (DY (ah Z) (DY (ak 4 Z Z Z) (DY (eZ Z Y Y) (DY (ah Z) (DY (ak 5 Z Z Z) (DY (gi _ Z Z Z Y) ?_)))))))))
   refine DY (ah Z) (DY (ak 4 Z Z Z) (DY (eZ Z Y Y) (DY (ah Z) (DY (ak 5 Z Z Z) (DY (gi _ Z Z Z Y) (Ea Z (Ec (Ea Z (Ec ?_)))))))))
   refine aa (aT 19 aS X S (DY (ah Z) (DY (ak 0 Z Z Z) (DZ Z (DY (an Z Z Y) (DY (bk 1 Z Z Y) (DZ Z (DY (ah Z) (DY (ak 0 Z Z Z) ?_)))))))))
   refine DZ Z (DY (an Z Z Y) (DY (bk 1 Z Z Y) (DZ Z (DY (an Z Z Y) (DY (vj 2 Z Z (nT Y) Y) (DY (ah Z) (DY (ak 4 Z Z Z) (DY (eZ Z Y Y) ?_))))))))
   refine DY (am (hk1) Z ⟨H,Ed⟩) ?_
   refine DY (am (had) Z ⟨H,H,Ed⟩) ?_
   refine Ec (DY (an Z Z Y) ?_)
   (refine fW 2 Z Z Z (nT ?_) ?_ Z ?_;omega;omega)
   refine Ec (aa (ae (aj (DY (ay 0 Z Z) (aH 3 Z Z Z Z (Ec (aa (aD (gq (ConvM.cons (ConvM.cons (ConvM.le Bc))) ?_)))))))))
   refine fD [fC (some bo) cap1 r c bs,ew c bs (j6 (i % r) (j % c) k F)] (hperm _ _ _ _ _ _) (.keep (zY.refl _) (.keep (zY.box (eR hlen ⟨by simp,by simp,by simp⟩)) (.keep (zY.refl _) (.keep (zY.refl _) .nil)))) (xD.refl _) ?_
   exact aK Tryz.results36 (.cellW 1 Z Z H)
  ·refine aj (DY (ah Z) (DY (ak 5 Z Z Z) (DY (sT Y (ej Z Z)) (DZ Z (Eb (ah Z) (Eb (ak 5 Z Z Z) (Eb (sF Y (ej Z Z)) (DY (aV Z Z) (Ec ?_)))))))))
   refine aa (az Z (av (aa (ae (aj (DY (ay 0 Z Z) (aH 3 Z Z Z Z (Ec (aa ?_)))))))))
   refine aD ?_
   refine fD [fC sv1 cap1 r c bs,ew c bs F] (hperm _ _ _ _ _ _) (.keep (zY.refl _) (.keep (zY.box (eR hlen ⟨by simp,by simp,by simp⟩)) (.keep (zY.refl _) (.keep (zY.refl _) .nil)))) (xD.refl _) ?_
   exact aK Tryz.results36 (.cellW 1 Z Z (g8 (F:=F) fun a b ha hb=>absurd hb Y))
 ·refine aj (DY (ah Z) (DY (ak 5 Z Z Z) (DY (sF Y (ej Z Z)) (DZ Z (sn0 Z Z Z Z Z (sn0 Z Z Z Z Z (sn0 Z Z Z Z Z (DY (a6 Z Z) (Ec ?_)))))))))
  refine aa (az Z (av (aa (ae (aj (DY (ay 0 Z Z) (aH 3 Z Z Z Z (Ec (aa ?_)))))))))
  refine aD ?_
  refine fD [fC sv1 cap1 r c bs,ew c bs F] (hperm _ _ _ _ _ _) (.keep (zY.refl _) (.keep (zY.box (eR hlen ⟨by simp,by simp,by simp⟩)) (.keep (zY.refl _) (.keep (zY.refl _) .nil)))) (xD.refl _) ?_
  exact aK Tryz.results36 (.cellW 1 Z Z (g8 (F:=F) fun a b ha hb=>absurd ha Y))
end Tor
end
section
namespace Tor
open Go Go.RowKit Go.Proofs
open Lin (dZ lZ uZ cO dK ec qq cf qF dot gsB gsM sm)
theorem RedOut.chk {m n N:Nat} {F:Nat→Nat→Int} {s:LS} (h:RedOut m n N F s):ChkP m n F s.R s.U s.V :=
 ⟨nr fun i j hi hj=>(h.ua i j hi hj).symm,nr fun i j hi hj=>h.uv i j hi hj,h.dn,h.red,h.ord⟩
theorem kC {x:Int} (h:x.natAbs≤4096):lz 1 x:=lz1 Y
theorem pI {x:Int} (h:(aL x.natAbs).length≤25000):dA x:=Nat.le_trans h S
section
variable {m n N:Nat} {F:Nat→Nat→Int} {s:LS}
theorem RedOut.lzR (h:RedOut m n N F s) (i j:Nat):lz 1 (s.R i j):=kC (Nat.le_trans (h.f i j) S)
theorem RedOut.mU (h:RedOut m n N F s) (i j:Nat):dA (s.U i j):=pI (h.U i j)
theorem RedOut.mV (h:RedOut m n N F s) (i j:Nat):dA (s.V i j):=pI (h.V i j)
theorem RedOut.m4R (h:RedOut m n N F s) (i j:Nat):cX (s.R i j):=dF (t:=6) (h.f i j) S
theorem RedOut.mR (h:RedOut m n N F s) (i j:Nat):dA (s.R i j):=(h.m4R i j).L
theorem RedOut.des (h:RedOut m n N F s) (hm:m≤4) (hn:n≤4):DesB m n s.R:=gf hm hn h.f
end
abbrev ex1:Nat→Nat→Int:=nQ 2 [1,0,5,1]
abbrev ex2:Nat→Nat→Int:=nQ 2 [1,2,2,4]
abbrev ex3:Nat→Nat→Int:=nQ 2 [1,1,1,0]
abbrev ex4:Nat→Nat→Int:=nQ 2 [1,0,1,1]
abbrev ex5:Nat→Nat→Int:=nQ 2 [2,0,1,2]
theorem mT {c:Nat} {l:List Int} (h:(l.all fun x=>decide (x.natAbs≤64))=true) (i j:Nat):(nQ c l i j).natAbs≤64:=by
 unfold nQ
 by_cases hk:i*c+j<l.length
 ·have:=List.all_eq_true.1 h (l.getD (i*c+j) 0) (by simp [List.getD,hk])
  exact of_decide_eq_true this
 ·have:l.getD (i*c+j) 0=0:=by simp [List.getD,Nat.le_of_not_lt hk]
  rw [this]; decide
theorem CI {N:Nat} {s:LS} (h:RedOut 2 2 N ex1 s):cO 2 (s.R 0) (s.R 0)=1:=by
 have h2:dZ 2 s.R 2=1:=h.vol.trans W
 have h1:dZ 2 s.R 1=cO 2 (s.R 0) (s.R 0):=Lin.rO (F:=s.R) 0 0
 have h0:dZ 2 s.R 0=1:=rfl
 have hp:=Lin.jS (Lin.cx h.dn (show 1≤2 by decide))
 have hs:=h.red 1 0 S S
 have ho:=h.ord 0 S
 unfold Lin.dK at hs
 unfold Lin.ec at ho
 rw [Nat.zero_add] at hs ho
 rw [h2,h0] at ho
 rw [← h1]
 generalize dZ 2 s.R 1=d at *
 generalize lZ 2 s.R 1 0=l at *
 have e:l*l=(l.natAbs:Int)*l.natAbs:=(Int.natAbs_mul_self' l).symm
 rw [e] at ho
 have ha:0≤(l.natAbs:Int):=Int.natCast_nonneg _
 generalize (l.natAbs:Int)=a at *
 have h3:(2*a)*(2*a)≤d*d:=Int.mul_le_mul hs hs Y Y
 have h4:4*(a*a)≤d*d:=by rw [show 4*(a*a)=(2*a)*(2*a) by grind]; exact h3
 rcases (show d≤1∨2≤d by omega) with k | k
 ·omega
 ·have:2*2≤d*d:=Int.mul_le_mul k k Y Y
  omega
theorem Dy {D:Nat→Int} {L:Nat→Nat→Int} (h1:ny D L 1 0) (h2:py D L 0):lc 2 D L :=
 ⟨fun i j hi hj=>by
  obtain rfl:i=1:=by omega
  obtain rfl:j=0:=by omega
  exact h1,fun p hp=>by
  obtain rfl:p=0:=by omega
  exact h2⟩
theorem Bd:dZ 2 ex5 2≠0∧lc 2 (dZ 2 ex5) (lZ 2 ex5):=⟨by decide +kernel,Dy (show 2*((lZ 2 ex5 1 0).natAbs:Int)≤dZ 2 ex5 1 by decide +kernel) (show 3*(dZ 2 ex5 1*dZ 2 ex5 1)≤4*(dZ 2 ex5 2*dZ 2 ex5 0+lZ 2 ex5 1 0*lZ 2 ex5 1 0) by decide +kernel)⟩
theorem Be:dZ 2 idF 2≠0∧lc 2 (dZ 2 idF) (lZ 2 idF):=⟨by decide +kernel,Dy (show 2*((lZ 2 idF 1 0).natAbs:Int)≤dZ 2 idF 1 by decide +kernel) (show 3*(dZ 2 idF 1*dZ 2 idF 1)≤4*(dZ 2 idF 2*dZ 2 idF 0+lZ 2 idF 1 0*lZ 2 idF 1 0) by decide +kernel)⟩
theorem Bf : ¬ (dZ 2 ex4 2≠0∧lc 2 (dZ 2 ex4) (lZ 2 ex4)):=fun h=>absurd (show 2*((lZ 2 ex4 1 0).natAbs:Int)≤dZ 2 ex4 1 from h.2.1 1 0 S S) W
theorem Bg : ¬ lc 2 (dZ 2 ex1) (lZ 2 ex1):=fun h=>absurd (show 2*((lZ 2 ex1 1 0).natAbs:Int)≤dZ 2 ex1 1 from h.1 1 0 S S) W
theorem Dz : ¬ (dZ 2 (fun _ _=>0) 1≠0∧lc 1 (dZ 2 fun _ _=>0) (lZ 2 fun _ _=>0)):=fun h=>h.1 W
theorem DM {m:Nat} {F:Nat→Nat→Int} : dZ m F 0≠0∧lc 0 (dZ m F) (lZ m F):=⟨Int.one_ne_zero,fun i j hi=>absurd hi (Nat.not_lt_zero i),fun p hp=>absurd hp (Nat.not_lt_zero _)⟩
theorem DA:grM 2 ex3 1 0=1 / 2:=by decide +kernel
theorem DB : ∀ i,i<2→grQ 2 ex3 i=if i=0 then 2 else 1 / 2:=fun i hi=>by
 rcases (show i=0∨i=1 by omega) with rfl | rfl
 ·show grQ 2 ex3 0=2
  decide +kernel
 ·show grQ 2 ex3 1=1 / 2
  decide +kernel
theorem qR {m n:Nat} {F:Nat→Nat→Int} (hm:m≤4) (hn:n≤4) (hF : ∀ i j,(F i j).natAbs≤9):LB m n 1024 F:=by
 refine ⟨hm,hn,by decide,by decide,fun a ha => ?_,fun i j=>Nat.le_trans (hF i j) S⟩
 have h1:=iI (B:=81) (f:=fun k=>F a k*F a k) (fun k=>by rw [Int.natAbs_mul]; exact Nat.mul_le_mul (hF a k) (hF a k)) m
 have h2:m*81≤4*81:=Nat.mul_le_mul_right _ hm
 show Lin.smZ m (fun k=>F a k*F a k)≤_
 omega
theorem RedOut.lb {m n:Nat} {F:Nat→Nat→Int} {s:LS} (hm:m≤4) (hn:n≤4) (h:RedOut m n (2*1024) F s):LB m n 2048 s.R:=⟨hm,hn,by decide,by decide,h.nrm,h.f⟩
end Tor
end
section
namespace Tor
open Go Go.RowKit Go.Proofs
attribute [local irreducible] J PJ aP one slT cv bA bM exT cq eP aW aU slV VT.le Ret bO xO
attribute [local irreducible] aO bx
theorem pJ (r c:Nat) (hr:r≤1048576) (hc:c≤1048576):Ok Tryz.prog 41 [one (.int .i64 r),one (.int .i64 c)] (bG r c (fun _ _=>0)):=(jF r c hr hc).ok fun s=>oW _ s
attribute [local irreducible] bG cu gJ
end Tor
end
section
namespace Tor
open Go Go.RowKit Go.Proofs
open Lin (dZ lZ uZ cO dK ec qq cf qF dot gsB gsM sm)
theorem kD {x y z t:Int} : VT.le (slT .one 4 (fun q => [one (.int .i64 t),one (.int .i64 z),one (.int .i64 y),one (.int .i64 x)].reverse.getD q bO)) (jY .i64 [x,y,z,t]):=er fun i hi=>by
 rcases (show i=0∨i=1∨i=2∨i=3 by omega) with rfl | rfl | rfl | rfl
 ·exact VT.le_refl _
 ·exact VT.le_refl _
 ·exact VT.le_refl _
 ·exact VT.le_refl _
theorem rs:VT.le (slT (.agg 4) 2 (fun q => [bx (1 / 2),bx 2].reverse.getD q bO)) (slT (.agg 4) 2 (fun i=>bx (if i=0 then 2 else 1 / 2))):=er fun i hi=>by
 rcases (show i=0∨i=1 by omega) with rfl | rfl
 ·exact VT.le_refl (bx 2)
 ·exact VT.le_refl (bx (1 / 2))
theorem xm:VT.le (slT .one 2 (fun q => [slT (.agg 4) 1 (fun q => [bx (1 / 2)].reverse.getD q bO),slT (.agg 4) 0 (fun q => [].reverse.getD q bO)].reverse.getD q bO)) (grT 2 fun _ _=>1 / 2):=er fun i hi=>by
 rcases (show i=0∨i=1 by omega) with rfl | rfl
 ·exact er (φ:=fun q => [].reverse.getD q bO) fun q hq=>absurd hq (Nat.not_lt_zero q)
 ·refine er (φ:=fun q => [bx (1 / 2)].reverse.getD q bO) fun q hq => ?_
  obtain rfl:q=0:=by omega
  exact VT.le_refl (bx (1 / 2))
theorem r4 {b:Nat} {T:TypeId} {n m:Nat} {R:Nat→Nat→Int} {DO DN:VT} : Own.le (aW b T 9 [(0, .agg 3,bG n m R),(3, .agg 3,DO),(6, .agg 3,DN)]) (aW b T 9 [(0, .agg 3,bG n m R),(3, .agg 3,DO),(6, .agg 3,DN),(2, .one,slT .one n fun i=>cu m (R i))]) :=
 ⟨rfl,fun g k ⟨c,h1,h2,h3,h4⟩=>⟨c,h1,h2,h3,fun q hq=>by
  simp only [List.mem_cons,List.not_mem_nil,or_false] at hq
  rcases hq with rfl | rfl | rfl | rfl
  ·exact h4 _ List.mem_cons_self
  ·exact h4 _ (List.mem_cons_of_mem _ List.mem_cons_self)
  ·exact h4 _ (List.mem_cons_of_mem _ (List.mem_cons_of_mem _ List.mem_cons_self))
  ·obtain ⟨x,hx,c',rfl,k1,k2,k3⟩:=h4 _ List.mem_cons_self
   obtain ⟨y,hy,hp⟩:=k3 (2, .one,slT .one n fun i=>cu m (R i)) (List.mem_cons_of_mem _ (List.mem_cons_of_mem _ List.mem_cons_self))
   have hx:(if 0+3≤c.size then some (Value.agg (c.extract 0 (0+3))) else none)=some (.agg c'):=hx
   rw [if_pos Y] at hx
   have hx:c.extract 0 3=c':=by injection hx with hx;injection hx
   refine ⟨y,?_,hp⟩
   have hy:c'[2]? = some y:=hy
   rw [← hx,Array.getElem?_extract,if_pos Y] at hy
   exact hy⟩⟩
theorem CJ {a b c d:VT} : VT.le (bA 9 [(0, .agg 3,a),(3, .agg 3,b),(6, .agg 3,c),(2, .one,d)]) (rdT a b c):=eY (fun q hq=>by
 simp only [List.mem_cons,List.not_mem_nil,or_false] at hq
 rcases hq with rfl | rfl | rfl
 ·exact ⟨_,List.mem_cons_self,H⟩
 ·exact ⟨_,List.mem_cons_of_mem _ List.mem_cons_self,H⟩
 ·exact ⟨_,List.mem_cons_of_mem _ (List.mem_cons_of_mem _ List.mem_cons_self),H⟩)
attribute [local irreducible] J PJ aP one slT cv bA bM exT cq eP aW aU slV VT.le Ret bO
attribute [local irreducible] aO bx c8 bG
set_option maxRecDepth 100000 in
theorem fQ:Ok Tryz.prog 9 [] (one (.bool true)):=by
 have i1:Ok Tryz.prog 40 [one (.int .i64 (2:Nat)),one (.int .i64 (2:Nat)),jY .i64 [1,0,5,1]] (bG 2 2 ex1):=mQ 2 2 [1,0,5,1] S S S
 have i2:Ok Tryz.prog 40 [one (.int .i64 (2:Nat)),one (.int .i64 (2:Nat)),jY .i64 [1,2,2,4]] (bG 2 2 ex2):=mQ 2 2 [1,2,2,4] S S S
 have i3:Ok Tryz.prog 40 [one (.int .i64 (2:Nat)),one (.int .i64 (2:Nat)),jY .i64 [1,1,1,0]] (bG 2 2 ex3):=mQ 2 2 [1,1,1,0] S S S
 have i4:Ok Tryz.prog 40 [one (.int .i64 (2:Nat)),one (.int .i64 (2:Nat)),jY .i64 [1,0,1,1]] (bG 2 2 ex4):=mQ 2 2 [1,0,1,1] S S S
 have i5:Ok Tryz.prog 40 [one (.int .i64 (2:Nat)),one (.int .i64 (2:Nat)),jY .i64 [2,0,1,2]] (bG 2 2 ex5):=mQ 2 2 [2,0,1,2] S S S
 have n1:=pJ 0 3 S S
 have n2:=pJ 1 2 S S
 have n3:=pJ 0 2 S S
 have id2:Ok Tryz.prog 39 [one (.int .i64 (2:Nat))] (bG 2 2 idF):=jG 2 S
 have f1 : ∀ i j,(ex1 i j).natAbs≤64:=mT S
 have f2 : ∀ i j,(ex2 i j).natAbs≤64:=mT S
 have f3 : ∀ i j,(ex3 i j).natAbs≤64:=mT S
 have f4 : ∀ i j,(ex4 i j).natAbs≤64:=mT S
 have f5 : ∀ i j,(ex5 i j).natAbs≤64:=mT S
 have fI : ∀ i j,(idF i j).natAbs≤64:=fun i j=>by unfold idF;split <;> decide
 have f0 : ∀ i j,((fun _ _=>0:Nat→Nat→Int) i j).natAbs≤64:=fun i j=>by show (0:Int).natAbs≤64;decide
 have g1:=mM 2 2 ex3 S S (gf S S f3) W
 have g2:=rS 2 2 ex2 S S (gf S S f2) W
 have l1:LB 2 2 1024 ex1:=⟨by decide,by decide,by decide,by decide,fun a ha=>by rcases (show a=0∨a=1 by omega) with rfl | rfl <;> decide +kernel,f1⟩
 have l0:LB 3 0 1024 (fun _ _=>0):=⟨by decide,by decide,by decide,by decide,fun a ha=>absurd ha (Nat.not_lt_zero a),f0⟩
 have r1:=gp 2 2 1024 ex1 l1 W
 have r2:=ju 2 2 ex2 S S (gf S S f2) W
 have r3:=gp 3 0 1024 (fun _ _=>0) l0 Int.one_ne_zero
 have hf:=nt 1 2 S S S S S
 rw [zj] at hf
 have q2:=eA 2 S S
 have q1:=eA 1 S S
 rw [show ((2:Int):Rat)=2 by decide +kernel] at q2
 have e1:=fh 2 2 idF S S (gf S S fI) true ⟨fun _=>Be,fun _=>rfl⟩
 have e2:=fh 2 2 ex4 S S (gf S S f4) false ⟨fun h=>absurd h S,fun h=>absurd h Bf⟩
 have e3:=fh 2 2 ex5 S S (gf S S f5) true ⟨fun _=>Bd,fun _=>rfl⟩
 have e4:=fh 2 1 (fun _ _=>0) S S (gf S S f0) false ⟨fun h=>absurd h S,fun h=>absurd h Dz⟩
 have e5:=fh 2 0 (fun _ _=>0) S S (gf S S f0) true ⟨fun _=>DM,fun _=>rfl⟩
 have m1 : ∀ i j,dA (ex1 i j):=fun i j=>(dF (t:=6) (f1 i j) S).L
 have mI : ∀ i j,dA (idF i j):=fun i j=>(dF (t:=6) (fI i j) S).L
 have c3:=kV 2 2 ex1 ex1 idF idF S S m1 mI mI (gf S S f1) false ⟨fun h=>absurd h S,fun h=>absurd h.red Bg⟩
 have hrw:=pB 2 (grM 2 ex3) (fun _ _=>1 / 2) S (fun i j hi hj=>by
  obtain rfl:i=1:=by omega
  obtain rfl:j=0:=by omega
  exact DA)
 have hli:=kR 2 2 (grQ 2 ex3) (fun i=>if i=0 then 2 else 1 / 2) S
 rw [decide_eq_true ⟨rfl,DB⟩] at hli
 refine Ok.enter Tryz.func9 Z Tryz.ntmps9 Z (fun w O => ?_)
 refine ae (aj (Ea Z (Ec (aa (ae (aj (stS Z Z Z Z (PartsK.cons Z (PartsK.cons Z ?_)))))))))
 refine PartsK.cons Z (PartsK.cons Z (PartsK.nil ?_))
 refine DY (am (i1) Z ⟨H,H,(kD),Ed⟩) ?_
 refine aF (T:=28) Z Z Z (fun b1 => ?_)
 refine cK 0 Z Z Z Z (Ec (aa (ae (aj (stS Z Z Z Z (PartsK.cons Z (PartsK.cons Z (PartsK.cons Z (PartsK.cons Z ?_)))))))))
 refine PartsK.nil ?_
 refine DY (am (i2) Z ⟨H,H,(kD),Ed⟩) ?_
 refine aF (T:=28) Z Z Z (fun b2 => ?_)
 refine cK 0 Z Z Z Z (Ec (aa (ae (aj (stS Z Z Z Z (PartsK.cons Z (PartsK.cons Z (PartsK.cons Z (PartsK.cons Z ?_)))))))))
 refine PartsK.nil ?_
 refine DY (am (i3) Z ⟨H,H,(kD),Ed⟩) ?_
 refine DY (am (g1) Z ⟨H,Ed⟩) ?_
 refine DZ Z (DY (aq Z Z) (DY (aq Z Z) (DY (aq Z Z) (Ea Z (Ea Z (Ea Z (Ec (aa (ae ?_)))))))))
 refine aj (DY (ak 0 Z Z Z) ?_)
 refine DY (am (g2) Z ⟨H,Ed⟩) ?_
 refine DZ Z (DY (aq Z Z) (DY (aq Z Z) (DY (aq Z Z) (Ea Z (Ea Z (Ea Z (Ec (aa (ae ?_)))))))))
 refine aj (DY (ak 1 Z Z Z) ?_)
 refine di (r1) Z ⟨H,Ed⟩ Z Z (fun s37 => ?_)
 refine DZ Z (DY (aq Z Z) (DY (aq Z Z) ?_))
 refine aF (T:=54) Z Z Z (fun b9 => ?_)
 refine aH 0 Z Z Z Z (Ea Z (Ec (aa (ae ?_))))
 obtain ⟨s,hs⟩:=s37
 have k1:=fP 2 2 ex1 s.R s.U s.V S S m1 hs.mU hs.mV hs.lzR true ⟨fun _=>hs.chk,fun _=>rfl⟩
 have k2:=kV 2 2 ex1 s.R s.U s.V S S m1 hs.mU hs.mV (hs.des S S) true ⟨fun _=>hs.chk,fun _=>rfl⟩
 have k3:=kW 2 (s.R 0) S (hs.m4R 0)
 rw [CI hs] at k3
 refine aj (DY (ak 1 Z Z Z) ?_)
 refine DY (am (r2) Z ⟨H,Ed⟩) ?_
 refine DZ Z (DY (aq Z Z) (DY (aq Z Z) ?_))
 refine aF (T:=54) Z Z Z (fun b11 => ?_)
 refine aH 0 Z Z Z Z (Ea Z (Ec (aa (ae (aj ?_)))))
 refine DY (am (n1) Z ⟨H,H,Ed⟩) ?_
 refine di (r3) Z ⟨H,Ed⟩ Z Z (fun s47 => ?_)
 refine DZ Z (DY (aq Z Z) (DY (aq Z Z) ?_))
 refine aF (T:=54) Z Z Z (fun b13 => ?_)
 refine aH 0 Z Z Z Z (Ea Z (Ec (aa (ae ?_))))
 obtain ⟨s',hs'⟩:=s47
 have k4:=fP 3 0 (fun _ _=>0) s'.R s'.U s'.V S S (fun i j=>(dF (t:=6) (f0 i j) S).L) hs'.mU hs'.mV hs'.lzR true ⟨fun _=>hs'.chk,fun _=>rfl⟩
 have k5:=kP ((1:Int):Rat) ((1:Int):Rat)
 rw [decide_eq_true Z] at k5
 refine aj ?_
 refine DY (am (hf) Z ⟨H,H,Ed⟩) ?_
 refine aF (T:=45) Z Z Z (fun b15 => ?_)
 refine cK 0 Z Z Z Z (Ec (aa (ae (aT 21 aS X S (DZ Z (DY (sT Y (cn Z Z)) (DZ Z (Eb (ab Z) (pN Z Z Z Z Z Z ?_)))))))))
 refine PartsK.nil (Eb (ak 0 Z Z Z) (pN Z Z Z Z Z Z (PartsK.cons Z (PartsK.nil (pN Z Z Z Z Z Z (PartsK.cons Z (PartsK.cons Z (PartsK.nil ?_))))))))
 refine Eb (am (hrw) Z ⟨H,(xm),Ed⟩) ?_
 refine DY (aV Z Z) (DZ Z (Eb (ab Z) ?_))
 refine Eb (am (q2) Z ⟨H,Ed⟩) ?_
 refine Eb (ak 0 Z Z Z) (pN Z Z Z Z Z Z (PartsK.cons Z (PartsK.cons Z (PartsK.nil ?_))))
 refine Eb (am (hli) Z ⟨H,(rs),Ed⟩) ?_
 refine DY (aV Z Z) (DZ Z (Eb (ab Z) (Eb (sT Y (cn Z Z)) (DY (aV Z Z) (Ec (Ea Z (Ec (aa (ae ?_)))))))))
 refine aj ?_
 refine DY (am (id2) Z ⟨H,Ed⟩) ?_
 refine DY (am (e1) Z ⟨H,Ed⟩) ?_
 refine DZ Z (pN Z Z Z Z Z Z (PartsK.cons Z (PartsK.cons Z (PartsK.cons Z (PartsK.cons Z (PartsK.nil ?_))))))
 refine Eb (am (i4) Z ⟨H,H,(kD),Ed⟩) ?_
 refine Eb (am (e2) Z ⟨H,Ed⟩) ?_
 refine Eb (bF Z) (DY (aV Z Z) (DZ Z (pN Z Z Z Z Z Z (PartsK.cons Z (PartsK.cons Z (PartsK.cons Z (PartsK.cons Z (PartsK.nil ?_))))))))
 refine Eb (am (i5) Z ⟨H,H,(kD),Ed⟩) ?_
 refine Eb (am (e3) Z ⟨H,Ed⟩) ?_
 refine DY (aV Z Z) (DZ Z ?_)
 refine Eb (am (n2) Z ⟨H,H,Ed⟩) ?_
 refine Eb (am (e4) Z ⟨H,Ed⟩) ?_
 refine Eb (bF Z) (DY (aV Z Z) (DZ Z ?_))
 refine Eb (am (n3) Z ⟨H,H,Ed⟩) ?_
 refine Eb (am (e5) Z ⟨H,Ed⟩) ?_
 refine DY (aV Z Z) (Ea Z (Ec (aa (ae (ae (aT 18 aS X S (DZ Z (DY (sF Y (cE Z Z)) (DZ Z ?_)))))))))
 refine Eb (ak 5 Z Z Z) (Eb (ay 3 Z Z) ?_)
 refine Eb (am (k1) Z ⟨H,H,Ed⟩) ?_
 refine Eb (bF Z) (DY (a6 Z Z) (DZ Z (Eb (ab Z) (Eb (sF Y (cE Z Z)) (DY (a6 Z Z) (DZ Z ?_))))))
 refine Eb (am (n1) Z ⟨H,H,Ed⟩) ?_
 refine Eb (ay 1 Z Z) ?_
 refine Eb (am (k4) Z ⟨H,H,Ed⟩) ?_
 refine Eb (bF Z) (DY (a6 Z Z) (Ec (Ec (aa (az Z (av (aa (ae (et (ConvM.cons (ConvM.cons (ConvM.cons (ConvM.le r4)))) ?_)))))))))
 refine aT 32 aS X S (DZ Z (DZ Z (Eb (ab Z) (DY (aV Z Z) (DZ Z (Eb (ab Z) (Eb (sT Y (cn Z Z)) (DY (aV Z Z) (DZ Z ?_)))))))))
 refine Eb (ah Z) (Eb (ah Z) (Eb (ak 3 Z Z Z) (Eb (ax Z Z S) (Eb (aJ Z) ?_))))
 refine Eb (am (k3) Z ⟨H,Ed⟩) ?_
 refine Eb (am (q1) Z ⟨H,Ed⟩) ?_
 refine Eb (am (k5) Z ⟨H,H,Ed⟩) ?_
 refine DY (aV Z Z) (DZ Z (Eb (ak 5 Z Z Z) (Eb (ay 3 Z Z) ?_)))
 refine Eb (am (k2) Z ⟨H,(CJ),Ed⟩) ?_
 refine DY (aV Z Z) (DZ Z (Eb (ak 5 Z Z Z) (Eb (ak 5 Z Z Z) ?_)))
 refine Eb (am (id2) Z ⟨H,Ed⟩) ?_
 refine Eb (am (id2) Z ⟨H,Ed⟩) ?_
 refine CY Z Z Z Z Z (BuildK.cons Z Z Z (BuildK.cons Z Z Z (BuildK.cons Z Z Z (BuildK.nil ?_))))
 refine Eb (am (c3) Z ⟨H,H,Ed⟩) ?_
 refine Eb (bF Z) (DY (aV Z Z) (Ec (Ea Z (Ec (aa (aD ?_))))))
 refine aK Tryz.results9 (.tmp Z H)
end Tor
end
section
namespace Tor
open Go Go.RowKit Go.Proofs
def fj (r c:Nat) (l:List Int):VT:=bA 3 [(0, .one,one (.int .u8 r)),(1, .one,one (.int .u8 c)),(2, .one,jY .i8 l)]
def DC (c:Nat) (l:List Int):Nat→Nat→Int:=fun i j=>dig l (i*(c % 5)+j)
theorem BI (n:Nat):(n:Int).tmod 5=((n % 5:Nat):Int):=by
 rw [Int.tmod_eq_emod_of_nonneg Y]; omega
attribute [local irreducible] J PJ aP one slT cv bA bM exT cq eP aW aU slV VT.le Ret bO
attribute [local irreducible] aO c8
theorem xn (r c:Nat) (l:List Int):OkM Tryz.prog 10 [fj r c l] (jE (r % 5) (c % 5)) (fun s => [fC s.1.2.1 s.1.2.2 (r % 5) (c % 5) s.1.1,ew (c % 5) s.1.1 (DC c l)]):=by
 unfold fj jY
 refine OkM.enter Tryz.func10 Z Tryz.ntmps10 Z (fun w O => ?_)
 have h5:=BI r
 have h6:=BI c
 have hr:r % 5<5:=Nat.mod_lt _ S
 have hc:c % 5<5:=Nat.mod_lt _ S
 refine ae (aj ?_)
 refine aM Z Z (ltN Z) (fun b => ?_)
 refine aF (T:=28) Z Z Z (fun b => ?_)
 refine Ec (aa (ae (aj (DY (ah Z) (DY (ak 1 Z Z Z) (DY (jX Z Z S Z) ?_))))))
 (refine DY (eZ Z ?_ ?_) ?_;omega;omega)
 refine DY (ah Z) (DY (ak 1 Z Z Z) (DY (jX Z Z S Z) ?_))
 (refine DY (eZ Z ?_ ?_) ?_;omega;omega)
 refine DY (ah Z) (DY (ak 1 Z Z Z) ?_)
 rw [h5]
 skip
 rw [h6]
 skip
 refine di (nK (r % 5) (c % 5) l Y Y) Z ⟨H,H,H,Ed⟩ Z Z (fun s => ?_)
 unfold jE
 refine aH 2 Z Z Z Z (Ec (aa (aD ?_)))
 refine l7 s Tryz.results10 (.cellW 2 Z Z ?_) ?_
 ·exact VT.le_refl _
 ·exact .keep DX (.keep DX (SubM.nilR _))
end Tor
end
section
namespace Tor
open Go Go.RowKit Go.Proofs
theorem ij (r c:Nat) (l:List Int):Ok Tryz.prog 10 [fj r c l] (bG (r % 5) (c % 5) (fun i j=>dig l (i*(c % 5)+j))):=(xn r c l).ok fun s=>oW _ s
attribute [local irreducible] J PJ aP one slT cv bA bM exT cq eP aW aU slV VT.le Ret bO xO
attribute [local irreducible] aO cu
theorem uW (r c:Nat) (v:Nat→Int) (F:Nat→Nat→Int) (hr:r≤1024) (hc:c≤1024) (hv : ∀ i,cX (v i)) (hF : ∀ i j,cX (F i j)):Ok Tryz.prog 74 [cu r v,bG r c F] (bM [cu c (gD r (fun _=>v) F 0),one (.int .i64 0)]):=by
 have h1:=Aj r v
 have h2:=sY 1 r (fun _=>v) c F S Y Y (fun _=>hv) hF
 unfold bG at *
 refine Ok.enter Tryz.func74 Z Tryz.ntmps74 Z (fun w O => ?_)
 unfold cu at *
 refine ae (aj ?_)
 refine aM Z Z (ltN Z) (fun b3 => ?_)
 refine Ea Z (Ea Z (Ec (aa (ae (ae (aj (DZ Z (DY (aZ Z) (DY (ah Z) ?_)))))))))
 refine DY (ak 0 Z Z Z) (DY (sF Y (cE Z Z)) (Ec (aa (az Z (av (aa (ae (aT 7 aS X S (DZ Z ?_)))))))))
 refine DY (am (h1) Z ⟨H,Ed⟩) ?_
 refine DY (ay 0 Z Z) ?_
 refine DY (am (h2) Z ⟨H,H,Ed⟩) ?_
 refine DY (va Z Z) (DY (ax Z Z S) (DY (aJ Z) (Ec (Ea Z (Ea Z (Ec (aa (aD ?_))))))))
 refine fw Tryz.results74 (.tmp Z H) (.tmp Z H)
theorem zI (r c:Nat) (v:Nat→Int) (F:Nat→Nat→Int) (hr:r≤1024) (hc:c≤1024) (hv : ∀ i,cX (v i)) (hF : ∀ i j,cX (F i j)):Ok Tryz.prog 33 [cu r v,bG r c F] (cu c (gD r (fun _=>v) F 0)):=by
 have h:=uW r c v F hr hc hv hF
 refine Ok.enter Tryz.func33 Z Tryz.ntmps33 Z (fun w O => ?_)
 refine ae (aj ?_)
 refine aM Z Z (ltN Z) (fun b3 => ?_)
 refine Ea Z (Ec (aa (ae (aj (DZ Z (DY (ay 0 Z Z) ?_))))))
 refine DY (am (h) Z ⟨H,H,Ed⟩) ?_
 refine DZ Z (DY (aq Z Z) (DY (aq Z Z) (Ea Z (Ea Z (Ec (aa (ae (aj (DZ Z ?_)))))))))
 refine Ea Z (Ec (aa (aD ?_)))
 refine aK Tryz.results33 (.tmp Z H)
end Tor
end
section
namespace Tor
open Go Go.RowKit Go.Proofs
open Lin (dZ lZ uZ cO dK ec qq cf qF dot gsB gsM sm)
theorem nR (l:List Int) (k:Nat):(dig l k).natAbs≤9:=by
 unfold dig
 generalize l.getD k 0=x
 rw [Int.natAbs_tmod]
 have:=Nat.mod_lt x.natAbs (show 0<10 by decide)
 show x.natAbs % 10≤9
 omega
theorem kE {L:Lay} {φ:Nat→VT} : VT.le (one (.slice none 0 0)) (slT L 0 φ):=gV
attribute [local irreducible] J PJ aP one slT cv bA bM exT cq eP aW aU slV VT.le Ret bO
attribute [local irreducible] aO bx c8 bG
set_option maxRecDepth 100000 in
theorem uX (r c:Nat) (l:List Int):Ok Tryz.prog 3 [fj r c l] (one (.bool true)):=by
 have hr:r % 5≤4:=by omega
 have hc:c % 5≤4:=by omega
 have hm:=ij r c l
 have f9 : ∀ i j,((fun i j=>dig l (i*(c % 5)+j)) i j).natAbs≤9:=fun i j=>nR _ _
 unfold fj at hm ⊢
 generalize (fun i j=>dig l (i*(c % 5)+j))=F at *
 generalize r % 5=n at *
 generalize c % 5=m at *
 have hb:=qR hc hr f9
 have hdes:=hb.des
 have hlz : ∀ i j,lz 1 (F i j):=fun i j=>kC (Nat.le_trans (f9 i j) S)
 have hs:=fQ
 obtain ⟨v,hv⟩ : ∃ v:Bool,v=true↔(dZ m F n≠0∧lc n (dZ m F) (lZ m F)):=by
  by_cases h:dZ m F n≠0∧lc n (dZ m F) (lZ m F)
  ·exact ⟨true,fun _=>h,fun _=>rfl⟩
  ·exact ⟨false,fun e=>absurd e S,fun e=>absurd e h⟩
 have k1:=fh m n F Y Y hdes v hv
 have k2:=nP m n F hr hc hlz v (hv.trans A8)
 by_cases hd:dZ m F n=0
 ·have g1:=rS m n F Y Y hdes hd
  have g2:=mO m n F hr hc hlz false ⟨fun h=>absurd h S,fun h=>absurd hd (Dx.2 h)⟩
  simp only [grO,cond_false] at g2
  have g3:=pB 0 (fun _ _=>0) (fun _ _=>0) S (fun i j hi hj=>rfl)
  have g4:=kR 0 0 (fun _=>0) (fun _=>0) S
  rw [decide_eq_true ⟨rfl,fun i hi=>rfl⟩] at g4
  refine Ok.enter Tryz.func3 Z Tryz.ntmps3 Z (fun w O => ?_)
  cases v
  ·refine ae (aj ?_)
   refine aM Z Z (ltN Z) (fun b1 => ?_)
   refine Ea Z (Ec (aa (ae (aj (DY (am (hs) Z trivial) (Ea Z (Ec (aa (ae ?_)))))))))
   refine aj (DY (ay 0 Z Z) ?_)
   refine DY (am (hm) Z ⟨H,Ed⟩) ?_
   refine aF (T:=28) Z Z Z (fun b4 => ?_)
   refine cK 0 Z Z Z Z (Ec (aa (ae (aj (DY (ak 0 Z Z Z) ?_)))))
   refine DY (am (g1) Z ⟨H,Ed⟩) ?_
   refine DZ Z (DY (aq Z Z) (DY (aq Z Z) (DY (aq Z Z) (Ea Z (Ea Z (Ea Z (Ec (aa (ae ?_)))))))))
   refine aj (DY (ak 0 Z Z Z) ?_)
   refine DY (am (g2) Z ⟨H,Ed⟩) ?_
   refine DZ Z (DY (aq Z Z) (DY (aq Z Z) (DY (aq Z Z) (Ea Z (Ea Z (Ea Z (Ec (aa (ae ?_)))))))))
   refine aT 23 aS X S (DZ Z (DZ Z ?_))
   refine DY (am (g3) Z ⟨(kE),(kE),Ed⟩) ?_
   refine DZ Z (Eb (ab Z) (Eb (ab Z) ?_))
   refine Eb (am (g4) Z ⟨(kE),(kE),Ed⟩) ?_
   refine DY (aV Z Z) (DZ Z (Eb (ab Z) (Eb (ab Z) (Eb (sT Y (cn Z Z)) (DY (aV Z Z) (DZ Z (Eb (ak 0 Z Z Z) ?_)))))))
   refine Eb (am (k1) Z ⟨H,Ed⟩) ?_
   refine Eb (ak 0 Z Z Z) ?_
   refine Eb (am (k2) Z ⟨H,Ed⟩) ?_
   refine Eb (fv Z Z) (DY (aV Z Z) (DZ Z (Eb (ab Z) (DY (aV Z Z) (Ec (Ea Z (Ec (aa (aD ?_)))))))))
   refine aK Tryz.results3 (.tmp Z H)
  ·refine ae (aj ?_)
   refine aM Z Z (ltN Z) (fun b1 => ?_)
   refine Ea Z (Ec (aa (ae (aj (DY (am (hs) Z trivial) (Ea Z (Ec (aa (ae ?_)))))))))
   refine aj (DY (ay 0 Z Z) ?_)
   refine DY (am (hm) Z ⟨H,Ed⟩) ?_
   refine aF (T:=28) Z Z Z (fun b4 => ?_)
   refine cK 0 Z Z Z Z (Ec (aa (ae (aj (DY (ak 0 Z Z Z) ?_)))))
   refine DY (am (g1) Z ⟨H,Ed⟩) ?_
   refine DZ Z (DY (aq Z Z) (DY (aq Z Z) (DY (aq Z Z) (Ea Z (Ea Z (Ea Z (Ec (aa (ae ?_)))))))))
   refine aj (DY (ak 0 Z Z Z) ?_)
   refine DY (am (g2) Z ⟨H,Ed⟩) ?_
   refine DZ Z (DY (aq Z Z) (DY (aq Z Z) (DY (aq Z Z) (Ea Z (Ea Z (Ea Z (Ec (aa (ae ?_)))))))))
   refine aT 23 aS X S (DZ Z (DZ Z ?_))
   refine DY (am (g3) Z ⟨(kE),(kE),Ed⟩) ?_
   refine DZ Z (Eb (ab Z) (Eb (ab Z) ?_))
   refine Eb (am (g4) Z ⟨(kE),(kE),Ed⟩) ?_
   refine DY (aV Z Z) (DZ Z (Eb (ab Z) (Eb (ab Z) (Eb (sT Y (cn Z Z)) (DY (aV Z Z) (DZ Z (Eb (ak 0 Z Z Z) ?_)))))))
   refine Eb (am (k1) Z ⟨H,Ed⟩) ?_
   refine Eb (ak 0 Z Z Z) ?_
   refine Eb (am (k2) Z ⟨H,Ed⟩) ?_
   refine Eb (fv Z Z) (DY (aV Z Z) (DZ Z (Eb (ab Z) (DY (aV Z Z) (Ec (Ea Z (Ec (aa (aD ?_)))))))))
   refine aK Tryz.results3 (.tmp Z H)
 ·have g1:=mM m n F Y Y hdes hd
  have g2:=mO m n F hr hc hlz true ⟨fun _=>Dx.1 hd,fun _=>rfl⟩
  simp only [grO,cond_true] at g2
  have g3:=pB n (grM m F) (gsM m (qF F)) Y (fun i j hi hj=>rX hd hi hj)
  have g4:=kR n n (grQ m F) (qq m (qF F)) Y
  rw [decide_eq_true ⟨rfl,fun i hi=>rY hd hi⟩] at g4
  refine Ok.enter Tryz.func3 Z Tryz.ntmps3 Z (fun w O => ?_)
  cases v
  ·refine ae (aj ?_)
   refine aM Z Z (ltN Z) (fun b1 => ?_)
   refine Ea Z (Ec (aa (ae (aj (DY (am (hs) Z trivial) (Ea Z (Ec (aa (ae ?_)))))))))
   refine aj (DY (ay 0 Z Z) ?_)
   refine DY (am (hm) Z ⟨H,Ed⟩) ?_
   refine aF (T:=28) Z Z Z (fun b4 => ?_)
   refine cK 0 Z Z Z Z (Ec (aa (ae (aj (DY (ak 0 Z Z Z) ?_)))))
   refine DY (am (g1) Z ⟨H,Ed⟩) ?_
   refine DZ Z (DY (aq Z Z) (DY (aq Z Z) (DY (aq Z Z) (Ea Z (Ea Z (Ea Z (Ec (aa (ae ?_)))))))))
   refine aj (DY (ak 0 Z Z Z) ?_)
   refine DY (am (g2) Z ⟨H,Ed⟩) ?_
   refine DZ Z (DY (aq Z Z) (DY (aq Z Z) (DY (aq Z Z) (Ea Z (Ea Z (Ea Z (Ec (aa (ae ?_)))))))))
   refine aT 23 aS X S (DZ Z (DZ Z ?_))
   refine DY (am (g3) Z ⟨H,H,Ed⟩) ?_
   refine DZ Z (Eb (ab Z) (Eb (ab Z) ?_))
   refine Eb (am (g4) Z ⟨H,H,Ed⟩) ?_
   refine DY (aV Z Z) (DZ Z (Eb (ab Z) (Eb (ab Z) (Eb (sT Y (cn Z Z)) (DY (aV Z Z) (DZ Z (Eb (ak 0 Z Z Z) ?_)))))))
   refine Eb (am (k1) Z ⟨H,Ed⟩) ?_
   refine Eb (ak 0 Z Z Z) ?_
   refine Eb (am (k2) Z ⟨H,Ed⟩) ?_
   refine Eb (fv Z Z) (DY (aV Z Z) (DZ Z (Eb (ab Z) (DY (aV Z Z) (Ec (Ea Z (Ec (aa (aD ?_)))))))))
   refine aK Tryz.results3 (.tmp Z H)
  ·refine ae (aj ?_)
   refine aM Z Z (ltN Z) (fun b1 => ?_)
   refine Ea Z (Ec (aa (ae (aj (DY (am (hs) Z trivial) (Ea Z (Ec (aa (ae ?_)))))))))
   refine aj (DY (ay 0 Z Z) ?_)
   refine DY (am (hm) Z ⟨H,Ed⟩) ?_
   refine aF (T:=28) Z Z Z (fun b4 => ?_)
   refine cK 0 Z Z Z Z (Ec (aa (ae (aj (DY (ak 0 Z Z Z) ?_)))))
   refine DY (am (g1) Z ⟨H,Ed⟩) ?_
   refine DZ Z (DY (aq Z Z) (DY (aq Z Z) (DY (aq Z Z) (Ea Z (Ea Z (Ea Z (Ec (aa (ae ?_)))))))))
   refine aj (DY (ak 0 Z Z Z) ?_)
   refine DY (am (g2) Z ⟨H,Ed⟩) ?_
   refine DZ Z (DY (aq Z Z) (DY (aq Z Z) (DY (aq Z Z) (Ea Z (Ea Z (Ea Z (Ec (aa (ae ?_)))))))))
   refine aT 23 aS X S (DZ Z (DZ Z ?_))
   refine DY (am (g3) Z ⟨H,H,Ed⟩) ?_
   refine DZ Z (Eb (ab Z) (Eb (ab Z) ?_))
   refine Eb (am (g4) Z ⟨H,H,Ed⟩) ?_
   refine DY (aV Z Z) (DZ Z (Eb (ab Z) (Eb (ab Z) (Eb (sT Y (cn Z Z)) (DY (aV Z Z) (DZ Z (Eb (ak 0 Z Z Z) ?_)))))))
   refine Eb (am (k1) Z ⟨H,Ed⟩) ?_
   refine Eb (ak 0 Z Z Z) ?_
   refine Eb (am (k2) Z ⟨H,Ed⟩) ?_
   refine Eb (fv Z Z) (DY (aV Z Z) (DZ Z (Eb (ab Z) (DY (aV Z Z) (Ec (Ea Z (Ec (aa (aD ?_)))))))))
   refine aK Tryz.results3 (.tmp Z H)
set_option maxRecDepth 100000 in
theorem r5 (r c:Nat) (l:List Int):Ok Tryz.prog 5 [fj r c l] (one (.bool true)):=by
 have hr:r % 5≤4:=by omega
 have hc:c % 5≤4:=by omega
 have hm:=ij r c l
 have f9 : ∀ i j,((fun i j=>dig l (i*(c % 5)+j)) i j).natAbs≤9:=fun i j=>nR _ _
 unfold fj at hm ⊢
 generalize (fun i j=>dig l (i*(c % 5)+j))=F at *
 generalize r % 5=n at *
 generalize c % 5=m at *
 have hb:=qR hc hr f9
 have hdes:=hb.des
 have hlz : ∀ i j,lz 1 (F i j):=fun i j=>kC (Nat.le_trans (f9 i j) S)
 have hs:=fQ
 by_cases hd:dZ m F n=0
 ·have g1:=ju m n F Y Y hdes hd
  have g2:=rZ m n F hr hc hlz false ⟨fun h=>absurd h S,fun h=>absurd hd h⟩
  have g3:=nC 0 0 0 0 (fun _ _=>0) (fun _ _=>0) S
  rw [decide_eq_true ⟨rfl,rfl,rfl⟩] at g3
  refine Ok.enter Tryz.func5 Z Tryz.ntmps5 Z (fun w O => ?_)
  refine ae (aj ?_)
  refine aM Z Z (ltN Z) (fun b1 => ?_)
  refine Ea Z (Ec (aa (ae (aj (DY (am (hs) Z trivial) (Ea Z (Ec (aa (ae ?_)))))))))
  refine aj (DY (ay 0 Z Z) ?_)
  refine DY (am (hm) Z ⟨H,Ed⟩) ?_
  refine aF (T:=28) Z Z Z (fun b4 => ?_)
  refine cK 0 Z Z Z Z (Ec (aa (ae (aj (DY (ak 0 Z Z Z) ?_)))))
  refine DY (am (g1) Z ⟨H,Ed⟩) ?_
  refine DZ Z (DY (aq Z Z) (DY (aq Z Z) ?_))
  refine aF (T:=54) Z Z Z (fun b5 => ?_)
  refine aH 0 Z Z Z Z (Ea Z (Ec (aa (ae (ae (aj (DY (ak 1 Z Z Z) ?_)))))))
  refine DY (am (g2) Z ⟨H,Ed⟩) ?_
  refine DY (bF Z) (Ec (aa (aG Z (ae (aj (DZ Z (DY (sT Y (cn Z Z)) (DZ Z (Eb (ah Z) ?_)))))))))
  refine Eb (ak 0 Z Z Z) (CY Z Z Z Z Z (BuildK.nil ?_))
  refine Eb (am (g3) Z ⟨H,(o4 _),Ed⟩) ?_
  refine DY (aV Z Z) (DZ Z (Eb (ab Z) (DY (aV Z Z) (Ea Z (Ec (aa (aD (aI ?_))))))))
  refine aK Tryz.results5 (.tmp Z H)
 ·have g1:=gp m n 1024 F hb hd
  have g2:=rZ m n F hr hc hlz true ⟨fun _=>hd,fun _=>rfl⟩
  have mF : ∀ i j,dA (F i j):=fun i j=>(dF (t:=6) (hb.f i j) S).L
  refine Ok.enter Tryz.func5 Z Tryz.ntmps5 Z (fun w O => ?_)
  refine ae (aj ?_)
  refine aM Z Z (ltN Z) (fun b1 => ?_)
  refine Ea Z (Ec (aa (ae (aj (DY (am (hs) Z trivial) (Ea Z (Ec (aa (ae ?_)))))))))
  refine aj (DY (ay 0 Z Z) ?_)
  refine DY (am (hm) Z ⟨H,Ed⟩) ?_
  refine aF (T:=28) Z Z Z (fun b4 => ?_)
  refine cK 0 Z Z Z Z (Ec (aa (ae (aj (DY (ak 0 Z Z Z) ?_)))))
  refine di (g1) Z ⟨H,Ed⟩ Z Z (fun s14 => ?_)
  refine DZ Z (DY (aq Z Z) (DY (aq Z Z) ?_))
  refine aF (T:=54) Z Z Z (fun b5 => ?_)
  refine aH 0 Z Z Z Z (Ea Z (Ec (aa (ae (ae ?_)))))
  obtain ⟨s,hs'⟩:=s14
  have k1:=fP m n F s.R s.U s.V hr hc mF hs'.mU hs'.mV hs'.lzR true ⟨fun _=>hs'.chk,fun _=>rfl⟩
  have k2:=kV m n F s.R s.U s.V Y Y mF hs'.mU hs'.mV (hs'.des hc hr) true ⟨fun _=>hs'.chk,fun _=>rfl⟩
  have k3:=fh m n s.R Y Y (hs'.des hc hr) true ⟨fun _=>⟨hs'.dn,hs'.chk.red⟩,fun _=>rfl⟩
  have k4:=gp m n 2048 s.R (hs'.lb hc hr) hs'.dn
  refine aj (DY (ak 1 Z Z Z) ?_)
  refine DY (am (g2) Z ⟨H,Ed⟩) ?_
  refine DY (bF Z) (Ec (aa (az Z (av (aa (ae (ae (aj (DZ Z ?_)))))))))
  refine DY (sF Y (cE Z Z)) (DZ Z (Eb (ak 1 Z Z Z) (Eb (ay 0 Z Z) ?_)))
  refine Eb (am (k1) Z ⟨H,H,Ed⟩) ?_
  refine Eb (bF Z) (DY (a6 Z Z) (DZ Z (Eb (ak 1 Z Z Z) (Eb (ay 0 Z Z) ?_))))
  refine Eb (am (k2) Z ⟨H,H,Ed⟩) ?_
  refine Eb (bF Z) (DY (a6 Z Z) (Ec (aa (az Z (av (aa (ae (aj (DY (ah Z) ?_)))))))))
  refine DY (ak 0 Z Z Z) ?_
  refine di (k4) Z ⟨H,Ed⟩ Z Z (fun s48 => ?_)
  refine DZ Z (DY (aq Z Z) (DY (aq Z Z) ?_))
  refine aF (T:=54) Z Z Z (fun b7 => ?_)
  refine aH 0 Z Z Z Z (Ea Z (Ec (aa (ae ?_))))
  obtain ⟨t,ht⟩:=s48
  have k5:=fP m n s.R t.R t.U t.V hr hc hs'.mR ht.mU ht.mV ht.lzR true ⟨fun _=>ht.chk,fun _=>rfl⟩
  refine aj (DZ Z (DY (sT Y (cn Z Z)) (DZ Z (Eb (ah Z) (Eb (ak 1 Z Z Z) (Eb (ay 0 Z Z) ?_))))))
  refine Eb (am (k5) Z ⟨H,H,Ed⟩) ?_
  refine DY (aV Z Z) (DZ Z (Eb (ah Z) (Eb (ak 1 Z Z Z) ?_)))
  refine Eb (am (k3) Z ⟨H,Ed⟩) ?_
  refine DY (aV Z Z) (DZ Z (Eb (ab Z) (DY (aV Z Z) (Ea Z (Ec (aa (aD ?_)))))))
  refine aK Tryz.results5 (.tmp Z H)
end Tor
end
section
namespace Tor
open Lin (dZ lZ uZ cO shZ exZ dK ec qq cf qF dot gsB gsM sm DD be)
def p2:Nat→Rat
 | 0 => 1
 | n + 1 => p2 n * 2
theorem r6 : ∀ n,0<p2 n
 | 0 => by show (0 : Rat) < 1; decide
 | n + 1 => by have := r6 n; show 0 < p2 n * 2; grind
theorem Bh {a b:Nat} (h:a≤b):p2 a≤p2 b:=by
 induction b with
 | zero => rw [show a = 0 by omega]; exact Rat.le_refl
 | succ b ih =>
  rcases Nat.lt_or_eq_of_le h with h1 | h1
  ·have:=ih Y;have:=r6 b;show p2 a≤p2 b*2;grind
  ·rw [h1]; exact Rat.le_refl
structure RedA (m n:Nat) (A:Nat→Nat→Rat):Prop where
 c : ∀ i j,i<n→j<i→4*(cf m A i j*cf m A i j)≤1
 q : ∀ p,p+1<n→qq m A p≤2*qq m A (p+1)
theorem Bi {m n:Nat} {F:Nat→Nat→Int} (hd:dZ m F n≠0) (h1 : ∀ a b,a<n→b<a→dK m F a b) (h2 : ∀ p,p+1<n→ec m F p):RedA m n (qF F) :=
 ⟨fun i j hi hj=>Lin.pw (h1 i j hi hj) (Lin.cx hd Y),fun p hp=>by
  have h3:=(pH hd hp).1 (h2 p hp)
  have h4:=Lin.pw (h1 (p+1) p hp Y) (Lin.cx hd Y)
  rw [Lin.kt (Nat.lt_succ_self p)] at h4
  have h5:=Lin.cV (m:=m) (A:=qF F) p
  have h6:0≤(1 - 4*(gsM m (qF F) (p+1) p*gsM m (qF F) (p+1) p))*qq m (qF F) p:=Rat.mul_nonneg (by grind) h5
  grind⟩
section
variable {m n:Nat} {A:Nat→Nat→Rat}
theorem RedA.q0 (h:RedA m n A) : ∀ i,i<n→qq m A 0≤p2 i*qq m A i
 | 0, _ => by show qq m A 0 ≤ 1 * qq m A 0; grind
 | i + 1, hi => by
  have h1:=h.q0 i Y
  have h2:=h.q i hi
  have h3:=Rat.mul_le_mul_of_nonneg_left h2 (Rat.le_of_lt (r6 i))
  show qq m A 0≤p2 i*2*qq m A (i+1)
  grind
theorem RedA.norm (h:RedA m n A) (hn:n≤4) {i:Nat} (hi:i<n):dot m (A i) (A i)≤p2 i*qq m A i:=by
 rw [Lin.mK]
 have key : ∀ t,t<i→4*(cf m A i t*cf m A i t*qq m A t)≤qq m A t:=fun t ht=>by
  have h1:=h.c i t hi ht
  have h2:=Lin.cV (m:=m) (A:=A) t
  have h3:0≤(1 - 4*(cf m A i t*cf m A i t))*qq m A t:=Rat.mul_nonneg (by grind) h2
  grind
 have hq:=h.q
 have z:=fun t=>Lin.cV (m:=m) (A:=A) t
 rcases (show i=0∨i=1∨i=2∨i=3 by omega) with rfl | rfl | rfl | rfl
 ·simp only [sm,p2]; grind
 ·have k0:=key 0 Y
  have q0:=hq 0 Y
  have z1:=z 1
  simp only [sm,p2,Nat.zero_add] at *; grind
 ·have k0:=key 0 Y
  have k1:=key 1 Y
  have q0:=hq 0 Y
  have q1:=hq 1 Y
  have z1:=z 2
  simp only [sm,p2,Nat.zero_add] at *; grind
 ·have k0:=key 0 Y
  have k1:=key 1 Y
  have k2:=key 2 Y
  have q0:=hq 0 Y
  have q1:=hq 1 Y
  have q2:=hq 2 Y
  have z1:=z 3
  simp only [sm,p2,Nat.zero_add] at *; grind
theorem xo {c:Nat} {y:Nat→Rat} (hc:c<n) (h2 : ∀ j,c<j→y j=0):y c*y c*qq m A c≤dot m (fun k=>sm n (fun j=>y j*A j k)) (fun k=>sm n (fun j=>y j*A j k)):=by
 have h1:=tW (m:=m) (A:=A) hc h2
 generalize (fun k=>sm n (fun j=>y j*A j k))=v at *
 have h3:=Lin.mE m (fun k=>1*v k+(-(y c))*gsB m A c k)
 rw [Lin.jQ,Lin.eL,Lin.eL,h1,Lin.eK m (gsB m A c) v,h1] at h3
 have h4:dot m (gsB m A c) (gsB m A c)=qq m A c:=rfl
 rw [h4] at h3
 grind
end
theorem Bj {n:Nat} {z:Nat→Int} (h : ∃ k,k<n∧z k≠0) : ∃ c,c<n∧z c≠0 ∧ ∀ j,c<j→j<n→z j=0:=by
 induction n with
 | zero => obtain ⟨k, hk, _⟩ := h; exact absurd hk (Nat.not_lt_zero k)
 | succ n ih =>
  by_cases hz:z n=0
  ·obtain ⟨k,hk,hk2⟩:=h
   obtain ⟨c,h1,h2,h3⟩:=ih ⟨k,by
    rcases Nat.lt_or_eq_of_le (Nat.lt_succ_iff.1 hk) with h | h
    ·exact h
    ·subst h;exact absurd hz hk2,hk2⟩
   refine ⟨c,by omega,h2,fun j hj hjn => ?_⟩
   rcases Nat.lt_or_eq_of_le (Nat.lt_succ_iff.1 hjn) with h | h
   ·exact h3 j hj h
   ·subst h;exact hz
  ·exact ⟨n,Nat.lt_succ_self n,hz,fun j h1 h2=>by omega⟩
theorem xp {m n:Nat} {R:Nat→Nat→Int} {z:Nat→Int} {v:Nat→Int} (hA:RedA m n (qF R)) (hn:n≤4) (hv : ∀ k,k<m→v k=cS n (fun j=>z j*R j k)) (h0 : ∃ k,k<m∧v k≠0):((cO m (R 0) (R 0):Int):Rat)≤((cO m v v:Int):Rat)*p2 (n - 1):=by
 obtain ⟨c,hc,hz,hl⟩:=Bj (n:=n) (z:=z) (by
  refine Classical.byContradiction fun hno => ?_
  obtain ⟨k,hk,hk2⟩:=h0
  rw [hv k hk,nx (fun j hj=>by
   have:z j=0:=Classical.byContradiction fun h=>hno ⟨j,hj,h⟩
   rw [this,Int.zero_mul])] at hk2
  exact hk2 Z)
 have hy : ∀ k,k<m→((v k:Int):Rat)=sm n (fun j=>(if j≤c then (z j:Rat) else 0)*qF R j k):=fun k hk=>by
  rw [hv k hk, ← jr,Lin.o8]
  exact be fun j hj=>by
   show ((z j*R j k:Int):Rat)=_
   by_cases h:j≤c
   ·rw [if_pos h]; show _=(z j:Rat)*(R j k:Rat);exact_mod_cast Z
   ·rw [if_neg h,hl j Y hj,Int.zero_mul]; show (0:Rat)=0*_;grind
 have h1:=xo (m:=m) (n:=n) (A:=qF R) (y:=fun j=>if j≤c then (z j:Rat) else 0) hc (fun j hj=>if_neg Y)
 have h2:dot m (fun k=>sm n (fun j=>(if j≤c then (z j:Rat) else 0)*qF R j k)) (fun k=>sm n (fun j=>(if j≤c then (z j:Rat) else 0)*qF R j k))=((cO m v v:Int):Rat):=by
  rw [Lin.fu m (fun _=>v) 0 0]
  exact Lin.ie (fun k hk=>(hy k hk).symm) (fun k hk=>(hy k hk).symm)
 rw [h2] at h1
 have e:((cO m (R 0) (R 0):Int):Rat)=qq m (qF R) 0:=by
  rw [Lin.fu]
  have:=Lin.mK (m:=m) (A:=qF R) 0
  rw [this]; show _+0=_;grind
 rw [e]
 have h3:=hA.q0 c hc
 have h4:(1:Rat)≤(z c:Rat)*(z c:Rat):=by
  have:1≤z c*z c:=by
   have e1:(z c).natAbs*(z c).natAbs=(z c*z c):=Int.natAbs_mul_self' (z c)
   have e2:1≤(z c).natAbs:=by omega
   have e3:1*1≤(z c).natAbs*(z c).natAbs:=Nat.mul_le_mul e2 e2
   rw [← e1]; exact_mod_cast e3
  exact_mod_cast this
 have h5:=Lin.cV (m:=m) (A:=qF R) c
 have h6:qq m (qF R) c≤((cO m v v:Int):Rat):=by
  simp only [Nat.le_refl,if_true] at h1
  have:=Rat.mul_le_mul_of_nonneg_right h4 h5
  grind
 have h7:=Rat.mul_le_mul_of_nonneg_left h6 (Rat.le_of_lt (r6 c))
 have h8:p2 c≤p2 (n - 1):=Bh Y
 have h9:0≤((cO m v v:Int):Rat):=by grind
 have h10:=Rat.mul_le_mul_of_nonneg_left h8 h9
 grind
end Tor
end
section
namespace Tor
open Go Go.RowKit Go.Proofs
open Lin (dZ lZ uZ cO dK ec qq cf qF dot gsB gsM sm DD)
theorem mW {x:Int} (h:cX x):lz 13 x:=gG (t:=400) (k:=13) h S
theorem zJ : ∀ k,p2 k=(((2^k:Nat):Int):Rat)
 | 0 => by show (1 : Rat) = _; rfl
 | k + 1 => by
  show p2 k*2=_
  rw [zJ k,Nat.pow_succ]
  exact_mod_cast Z
theorem wu {k:Nat} (h:k≤8):qz 1 (p2 k):=by
 rw [zJ]
 refine gO (Nat.le_refl _) (lz1 ?_)
 have:2^k≤2^8:=Nat.pow_le_pow_right S h
 have e:(2:Nat)^8=256:=by decide
 rw [Int.natAbs_natCast]
 omega
def tri:Nat→Nat
 | 0 => 0
 | n + 1 => tri n + n
theorem uY {i:Nat} (h:i≤4):tri i≤6:=by
 rcases (show i=0∨i=1∨i=2∨i=3∨i=4 by omega) with rfl | rfl | rfl | rfl | rfl <;> decide
section
variable {m n:Nat} {F:Nat→Nat→Int}
theorem pK (h:dZ m F n≠0) : ∀ i,i≤n→prQ (grQ m F) i=((dZ m F i:Int):Rat)
 | 0, _ => rfl
 | i + 1, hi => by
  show prQ (grQ m F) i*grQ m F i=_
  rw [pK h i Y,rY h Y,Lin.cp,Lin.cp,Lin.dx]
theorem nD (h:dZ m F n≠0) (hd:DesB m n F) {i:Nat} (hi:i<n):qz 13 (grQ m F i):=lN (mW (hd.d Y)) (mW (hd.d Y)) (Lin.cx h Y)
theorem zK (hd:DesB m n F) {i:Nat} (hi:i≤n):qz 13 ((dZ m F i:Int):Rat):=gO S (mW (hd.d hi))
def lf (m:Nat) (F:Nat→Nat→Int) (i:Nat):Rat:=((cO m (F i) (F i):Int):Rat)
theorem tX (i:Nat):lf m F i=dot m (qF F i) (qF F i):=Lin.fu _ _ _ _
theorem zL (hA:RedA m n (qF F)) (hn:n≤4) : ∀ i,i≤n→0≤prQ (lf m F) i∧prQ (lf m F) i≤DD m (qF F) i*p2 (tri i)
 | 0, _ => by
  show (0:Rat)≤1∧(1:Rat)≤1*1
  constructor
  ·decide
  ·grind
 | i + 1, hi => by
  obtain ⟨h0,h1⟩:=zL hA hn i Y
  have h2:=hA.norm hn (i:=i) Y
  have h3:0≤lf m F i:=by rw [tX]; exact Lin.mE _ _
  have h4:lf m F i≤p2 i*qq m (qF F) i:=by rw [tX]; exact h2
  refine ⟨Rat.mul_nonneg h0 h3,?_⟩
  have h5:=Lin.yH h0 h1 h3 h4
  have e:p2 (tri i+i)=p2 (tri i)*p2 i:=by
   generalize tri i=t
   clear h5 h4 h3 h2 h1 h0 hi
   induction i with
   | zero => show p2 t = p2 t * 1; grind
   | succ i ih => show p2 (t + i) * 2 = p2 t * (p2 i * 2); rw [ih]; grind
  show prQ (lf m F) i*lf m F i≤_
  rw [Lin.dx,show tri (i+1)=tri i+i from rfl,e]
  grind
end
theorem RedOut.redA {m n N:Nat} {F:Nat→Nat→Int} {s:LS} (h:RedOut m n N F s):RedA m n (qF s.R):=Bi h.dn h.red h.ord
theorem Bk {m n N:Nat} {F:Nat→Nat→Int} (hN:N≤4096) (h : ∀ a,a<n→cO m (F a) (F a)≤(N:Int)) {i:Nat} (hi:i<n):qz 1 (lf m F i):=by
 refine gO (Nat.le_refl _) (lz1 ?_)
 have h1:(0:Rat)≤((cO m (F i) (F i):Int):Rat):=by rw [Lin.fu]; exact Lin.mE _ _
 have h2:0≤cO m (F i) (F i):=by exact_mod_cast h1
 have h3:=h i hi
 omega
theorem u0 {n:Nat} {f:Nat→Rat} (h : ∀ i,i<n→qz 1 (f i)) : ∀ i,i≤n→qz (i+1) (prQ f i)
 | 0, _ => Cm 1 (Nat.le_refl _)
 | i + 1, hi => fe (u0 h i Y) (h i Y)
theorem wv {b:Nat} {T:TypeId} {x y:Rat} (h:x=y):Own.le (aW b T 4 [(0, .agg 4,bx x)]) (aW b T 4 [(0, .agg 4,bx y)]):=by rw [h]; exact Own.le_refl _
attribute [local irreducible] J PJ aP one slT cv bA bM exT cq eP aW aU slV VT.le Ret bO
attribute [local irreducible] aO bx c8
set_option maxRecDepth 100000 in
theorem tY (r c:Nat) (l:List Int):Ok Tryz.prog 6 [fj r c l] (one (.bool true)):=by
 have hr:r % 5≤4:=by omega
 have hc:c % 5≤4:=by omega
 have hm:=ij r c l
 have f9 : ∀ i j,((fun i j=>dig l (i*(c % 5)+j)) i j).natAbs≤9:=fun i j=>nR _ _
 unfold fj at hm ⊢
 generalize (fun i j=>dig l (i*(c % 5)+j))=F at *
 generalize r % 5=n at *
 generalize c % 5=m at *
 have hb:=qR hc hr f9
 have hdes:=hb.des
 have hs:=fQ
 by_cases hd:dZ m F n=0
 ·have g1:=ju m n F Y Y hdes hd
  refine Ok.enter Tryz.func6 Z Tryz.ntmps6 Z (fun w O => ?_)
  refine ae (aj ?_)
  refine aM Z Z (ltN Z) (fun b1 => ?_)
  refine Ea Z (Ec (aa (ae (aj (DY (am (hs) Z trivial) (Ea Z (Ec (aa (ae ?_)))))))))
  refine aj (DY (ay 0 Z Z) ?_)
  refine DY (am (hm) Z ⟨H,Ed⟩) ?_
  refine aF (T:=28) Z Z Z (fun b4 => ?_)
  refine aH 0 Z Z Z Z (Ec (aa (ae (aj (DY (ay 0 Z Z) ?_)))))
  refine DY (am (g1) Z ⟨H,Ed⟩) ?_
  refine DZ Z (DY (aq Z Z) (DY (aq Z Z) ?_))
  refine aF (T:=54) Z Z Z (fun b5 => ?_)
  refine aH 0 Z Z Z Z (Ea Z (Ec (aa (ae (ae (aj (DZ Z (DY (sT Y (cE Z Z)) (Ec ?_)))))))))
  refine aa (aG Z (ae (aj (DZ Z (DY (sT Y (cn Z Z)) (DZ Z (Eb (ab Z) (DY (aV Z Z) (Ea Z ?_)))))))))
  refine Ec (aa (aD (aI ?_)))
  refine aK Tryz.results6 (.tmp Z H)
 ·have g1:=gp m n 1024 F hb hd
  have mF : ∀ i j,dA (F i j):=fun i j=>(dF (t:=6) (hb.f i j) S).L
  have k3:=mM m n F Y Y hdes hd
  have zF : ∀ i,i<n→qz 13 (grQ m F i):=fun i hi=>nD hd hdes hi
  have v1:=gc n n (grQ m F) 13 Y S zF
  rw [decide_eq_true Z] at v1
  have a1:=wk n (grQ m F) 13 13 Y S zF (fun i hi=>by rw [pK hd i hi]; exact zK hdes hi)
  rw [pK hd n (Nat.le_refl n)] at a1
  have q1:=eA 1 S S
  have q2:=eA 2 S S
  rw [show ((1:Int):Rat)=1 by decide +kernel] at q1
  rw [show ((2:Int):Rat)=2 by decide +kernel] at q2
  have z2:qz 1 2:=by rw [← show ((2:Int):Rat)=2 by decide +kernel]; exact gO (Nat.le_refl _) (lz1 W)
  refine Ok.enter Tryz.func6 Z Tryz.ntmps6 Z (fun w O => ?_)
  refine ae (aj ?_)
  refine aM Z Z (ltN Z) (fun b1 => ?_)
  refine Ea Z (Ec (aa (ae (aj (DY (am (hs) Z trivial) (Ea Z (Ec (aa (ae ?_)))))))))
  refine aj (DY (ay 0 Z Z) ?_)
  refine DY (am (hm) Z ⟨H,Ed⟩) ?_
  refine aF (T:=28) Z Z Z (fun b4 => ?_)
  refine aH 0 Z Z Z Z (Ec (aa (ae (aj (DY (ay 0 Z Z) ?_)))))
  refine di (g1) Z ⟨H,Ed⟩ Z Z (fun s22 => ?_)
  refine DZ Z (DY (aq Z Z) (DY (aq Z Z) ?_))
  refine aF (T:=54) Z Z Z (fun b5 => ?_)
  refine aH 0 Z Z Z Z (Ea Z (Ec (aa (ae (ae ?_)))))
  obtain ⟨s,hs'⟩:=s22
  have k1:=fP m n F s.R s.U s.V hr hc mF hs'.mU hs'.mV hs'.lzR true ⟨fun _=>hs'.chk,fun _=>rfl⟩
  have hdR:=hs'.des hc hr
  have k2:=mM m n s.R Y Y hdR hs'.dn
  have zR : ∀ i,i<n→qz 13 (grQ m s.R i):=fun i hi=>nD hs'.dn hdR hi
  have v2:=gc n n (grQ m s.R) 13 Y S zR
  rw [decide_eq_true Z] at v2
  have a2:=wk n (grQ m s.R) 13 13 Y S zR (fun i hi=>by rw [pK hs'.dn i hi]; exact zK hdR hi)
  rw [pK hs'.dn n (Nat.le_refl n),hs'.vol] at a2
  have sa:=kP ((dZ m F n:Int):Rat) ((dZ m F n:Int):Rat)
  rw [decide_eq_true Z] at sa
  refine aj (DZ Z (DY (sF Y (cE Z Z)) (Ec (aa (az Z (av (aa (ae (ae ?_)))))))))
  refine aj (DY (ay 1 Z Z) (DY (ay 0 Z Z) ?_))
  refine DY (am (k1) Z ⟨H,H,Ed⟩) ?_
  refine DY (bF Z) (Ec (aa (az Z (av (aa (ae (aj (DY (ay 1 Z Z) ?_))))))))
  refine DY (am (k3) Z ⟨H,Ed⟩) ?_
  refine DZ Z (DY (aq Z Z) (DY (aq Z Z) (DY (aq Z Z) (Ea Z (Ea Z (Ea Z (Ec (aa (ae ?_)))))))))
  refine aj (DY (ah Z) (DY (ak 0 Z Z Z) ?_))
  refine DY (am (k2) Z ⟨H,Ed⟩) ?_
  refine DZ Z (DY (aq Z Z) (DY (aq Z Z) (DY (aq Z Z) (Ea Z (Ea Z (Ea Z (Ec (aa (ae ?_)))))))))
  refine ae (aj (DZ Z (DY (sF Y (cE Z Z)) (DZ Z (Eb (ab Z) (Eb (sF Y (cE Z Z)) (DY (a6 Z Z) (DZ Z (Eb (ab Z) ?_)))))))))
  refine Eb (ah Z) (Eb (ak 1 Z Z Z) ?_)
  refine Eb (am (v1) Z ⟨H,H,Ed⟩) ?_
  refine Eb (bF Z) (DY (a6 Z Z) (DZ Z (Eb (ab Z) (Eb (ah Z) (Eb (ak 1 Z Z Z) ?_)))))
  refine Eb (am (v2) Z ⟨H,H,Ed⟩) ?_
  refine Eb (bF Z) (DY (a6 Z Z) (Ec (aa (az Z (av (aa (ae (aj ?_))))))))
  refine DY (am (q1) Z ⟨H,Ed⟩) ?_
  refine DZ Z ?_
  refine DY (am (a1) Z ⟨H,Ed⟩) ?_
  refine aF (T:=45) Z Z Z (fun b13 => ?_)
  refine aF (T:=45) Z Z Z (fun b14 => ?_)
  refine cK 1 Z Z Z Z (cK 0 Z Z Z Z (Ec (aa (ae (ae (et (ConvM.cons (ConvM.cons (ConvM.le r4))) (aj (Ea Z (Ec ?_)))))))))
  refine aa (ar ?_)
  have zD:=zK hdes (Nat.le_refl n)
  have zl : ∀ i,i<n→qz 1 (lf m s.R i):=fun i hi=>Bk S hs'.nrm hi
  refine cm (Γ' := [(2,_),(3,_),(4,_),(5,_),(8,_),(11,_),(13,_),(14,_),(15,_)]) DT (SubM.refl _) ?_
  refine bw (σ:=Nat) (Γk := [(2,_),(3,_),(4,_),(5,_),(8,_),(11,_),(13,_),(14,_)]) DT (fun i => [(15,one (.int .i64 (i:Nat)))]) (fun i M0=>((M0.set 0 (aW b14 45 4 [(0, .agg 4,bx (((dZ m F n:Int):Rat)*p2 (tri i)))])).set 1 (aW b13 45 4 [(0, .agg 4,bx (prQ (lf m s.R) i))]))) (fun i=>i≤n) (fun i=>n - i) (0) (Nat.zero_le _) DU (.keep (wv (by show _=_*(1:Rat);grind)) (.keep DX (.keep DX (.keep DX (.keep DX (.nil)))))) (fun i hi => ?_)
  refine bN (Γ' := [(15,_),(2,_),(3,_),(4,_),(5,_),(8,_),(11,_),(13,_),(14,_)]) (M' := [_,_,_,_,_]) Z Z ?_
  by_cases hin:i<n
  ·have hsq:Ok Tryz.prog 31 [cu m (s.R i)] (bx (lf m s.R i)):=kW m (s.R i) Y (hs'.m4R i)
   have hmu:Ok Tryz.prog 21 [bx (prQ (lf m s.R) i),bx (lf m s.R i)] (bx (prQ (lf m s.R) (i+1))):=eJ _ _ (i+1) 1 (u0 zl i hi) (zl i hin) Y
   refine ae (ae (aj (DZ Z (DY (ah Z) (DY (ak 3 Z Z Z) (DY (sT Y (a7 Z Z)) (Ec (aa (aG Z ?_)))))))))
   refine av (aa (ae (ar (ae (aT 9 aS X S (DY (ak 1 Z Z Z) (DY (ah Z) (DY (ah Z) (DY (ak 2 Z Z Z) ?_)))))))))
   refine DZ Z (DY (ax Z Z Y) (DY (aJ Z) ?_))
   refine DY (am (hsq) Z ⟨H,Ed⟩) ?_
   refine DY (am (hmu) Z ⟨H,H,Ed⟩) ?_
   refine Ec (aC 1 Z Z Z Z Z (leN Z) Z (Ec (aa (ae (aj (Ea Z (Ec (aa (ar ?_)))))))))
   refine cm (Γ' := [(2,_),(3,_),(4,_),(5,_),(8,_),(11,_),(13,_),(14,_),(15,_),(16,_)]) DT (SubM.refl _) ?_
   refine bw (σ:=Nat) (Γk := [(2,_),(3,_),(4,_),(5,_),(8,_),(11,_),(13,_),(14,_),(15,_)]) DT (fun j => [(16,one (.int .i64 (j:Nat)))]) (fun j M0=>(M0.set 0 (aW b14 45 4 [(0, .agg 4,bx (((dZ m F n:Int):Rat)*p2 (tri i+j)))]))) (fun j=>j≤i) (fun j=>i - j) (0) (Nat.zero_le _) DU (.keep DX (.keep DX (.keep DX (.keep DX (.keep DX (.nil)))))) (fun j hj => ?_)
   refine bN (Γ' := [(16,_),(2,_),(3,_),(4,_),(5,_),(8,_),(11,_),(13,_),(14,_),(15,_)]) (M' := [_,_,_,_,_]) Z Z ?_
   by_cases hji:j<i
   ·have ht:=uY (show i≤4 by omega)
    have ht1:=uY (show i+1≤4 by omega)
    have ht2:tri (i+1)=tri i+i:=rfl
    have hm2:=eJ (((dZ m F n:Int):Rat)*p2 (tri i+j)) 2 (13+1) 1 (fe zD (wu Y)) z2 S
    rw [show ((dZ m F n:Int):Rat)*p2 (tri i+j)*2=((dZ m F n:Int):Rat)*p2 (tri i+(j+1)) by rw [← Nat.add_assoc]; show _=_*(p2 (tri i+j)*2);grind] at hm2
    refine ae (ae (aj (DZ Z (DZ Z (DY (sT Y (a7 Z Z)) (Ec (aa (aG Z (av ?_)))))))))
    refine aa (ae (ar (aT 2 aS X S (DY (ak 0 Z Z Z) ?_))))
    refine DY (am (q2) Z ⟨H,Ed⟩) ?_
    refine Ec ?_
    refine DY (am (hm2) Z ⟨H,H,Ed⟩) ?_
    refine aC 0 Z Z Z Z Z (leN Z) Z (Ec (aB (aa (aj (DZ Z (DY (bn _ 1 Z Z Y) (Ea Z (Ec ?_))))))))
    refine aN (j+1) (hji) Y DU (.keep DX (.keep DX (.keep DX (.keep DX (.keep DX (.nil))))))
   ·have he:i=j:=by omega
    subst he
    refine ae (ae (aj (DZ Z (DZ Z (DY (sF Y (a7 Z Z)) (Ec (aa (az Z (aY ?_)))))))))
    refine aw (aw (aE (aB (aa (aj (DZ Z (DY (bn _ 1 Z Z Y) (Ea Z (Ec ?_)))))))))
    refine aN (i+1) (hin) Y DU (.keep DX (.keep DX (.keep DX (.keep DX (.keep DX (.nil))))))
  ·have he:n=i:=by omega
   subst he
   have hcm:=kv (prQ (lf m s.R) n) (((dZ m F n:Int):Rat)*p2 (tri n)) (n+1) (13+1) (u0 zl n (Nat.le_refl n)) (fe zD (wu (by have:=uY hr;omega))) Y
   rw [oe] at hcm
   have hle:nV (prQ (lf m s.R) n) (((dZ m F n:Int):Rat)*p2 (tri n))≤0:=by
    refine Int.not_lt.1 (rU ?_)
    have h1:=(zL hs'.redA hr n (Nat.le_refl n)).2
    rw [← Lin.cp,hs'.vol] at h1
    exact h1
   refine ae (ae (aj (DZ Z (DY (ah Z) (DY (ak 3 Z Z Z) (DY (sF Y (a7 Z Z)) (Ec (aa (az Z ?_)))))))))
   refine aY (aw (aw (aE (aa (ae (aj (DZ Z ?_)))))))
   refine DY (am (a1) Z ⟨H,Ed⟩) ?_
   refine DZ Z ?_
   refine DY (am (a2) Z ⟨H,Ed⟩) ?_
   refine DY (am (sa) Z ⟨H,H,Ed⟩) ?_
   refine DZ Z (Eb (ak 1 Z Z Z) (Eb (ak 0 Z Z Z) ?_))
   refine Eb (am (hcm) Z ⟨H,H,Ed⟩) ?_
   refine Eb (sT (by assumption) (j8 Z Z)) (DY (aV Z Z) (DZ Z (Eb (ab Z) (DY (aV Z Z) (Ea Z (Ec (aa (aD ?_))))))))
   refine aK Tryz.results6 (.tmp Z H)
end Tor
end
section
namespace Tor
open Go Go.RowKit Go.Proofs
open Lin (dZ lZ uZ cO dK ec qq cf qF dot gsB gsM sm DD)
theorem pL (n:Nat) (f:Nat→Int) (v:Bool) (hv:v=true ↔ ∀ k,k<n→f k=0):Ok Tryz.prog 35 [cu n f] (one (.bool v)):=by
 have h:=x9 ((List.range n).map f)
 have e:(((List.range n).map f).all fun x=>decide (x=0))=v:=by
  cases v
  ·refine Bool.eq_false_iff.2 fun h2=>Bool.false_ne_true (hv.2 fun k hk => ?_)
   exact of_decide_eq_true (List.all_eq_true.1 h2 (f k) (List.mem_map.2 ⟨k,List.mem_range.2 hk,rfl⟩))
  ·refine List.all_eq_true.2 fun x hx => ?_
   obtain ⟨k,hk,rfl⟩:=List.mem_map.1 hx
   exact decide_eq_true (hv.1 Z k (List.mem_range.1 hk))
 rw [e] at h
 exact h.le ⟨oU n f,Ed⟩ H
theorem xq {m n:Nat} {F R V:Nat→Nat→Int} {x:Nat→Int} (h:EqP n m F V R) {k:Nat} (hk:k<m):cS n (fun t=>x t*F t k)=cS n (fun j=>cS n (fun t=>x t*V t j)*R j k):=by
 rw [dj (g:=fun t=>cS n (fun j=>x t*V t j*R j k)) (fun t ht=>by
  rw [h t k ht hk, ← jo]; exact dj fun j _=>(Int.mul_assoc _ _ _).symm),qD]
 exact dj fun j _=>qC _ _ _
theorem wy {m B N:Nat} {f:Nat→Int} (h : ∀ k,(f k).natAbs≤B) (hN:m*(B*B)≤N) (hN2:N<4294967296):qz 1 ((cO m f f:Int):Rat):=by
 have h1:=iI (B:=B*B) (f:=fun k=>f k*f k) (fun k=>by rw [Int.natAbs_mul]; exact Nat.mul_le_mul (h k) (h k)) m
 refine gO (Nat.le_refl _) (lz1 ?_)
 show (Lin.smZ m fun k=>f k*f k).natAbs<_
 omega
attribute [local irreducible] J PJ aP one slT cv bA bM exT cq eP aW aU slV VT.le Ret bO
attribute [local irreducible] aO bx c8
set_option maxRecDepth 100000 in
theorem u1 (r c:Nat) (l d:List Int):Ok Tryz.prog 7 [fj r c l,jY .i8 d] (one (.bool true)):=by
 have hr:r % 5≤4:=by omega
 have hc:c % 5≤4:=by omega
 have hm:=ij r c l
 have f9 : ∀ i j,((fun i j=>dig l (i*(c % 5)+j)) i j).natAbs≤9:=fun i j=>nR _ _
 unfold fj at hm ⊢
 generalize (fun i j=>dig l (i*(c % 5)+j))=F at *
 generalize r % 5=n at *
 generalize c % 5=m at *
 have hb:=qR hc hr f9
 have hdes:=hb.des
 have hs:=fQ
 by_cases hd:dZ m F n=0
 ·have g1:=ju m n F Y Y hdes hd
  refine Ok.enter Tryz.func7 Z Tryz.ntmps7 Z (fun w O => ?_)
  refine ae (aj ?_)
  refine aM Z Z (ltN Z) (fun b2 => ?_)
  refine Ea Z (Ec (aa (ae (aj (DY (am (hs) Z trivial) (Ea Z (Ec (aa (ae ?_)))))))))
  refine aj (DY (ay 0 Z Z) ?_)
  refine DY (am (hm) Z ⟨H,Ed⟩) ?_
  refine aF (T:=28) Z Z Z (fun b6 => ?_)
  refine aH 0 Z Z Z Z (Ec (aa (ae (aj (DY (ay 0 Z Z) ?_)))))
  refine DY (am (g1) Z ⟨H,Ed⟩) ?_
  refine DZ Z (DY (aq Z Z) (DY (aq Z Z) ?_))
  refine aF (T:=54) Z Z Z (fun b7 => ?_)
  refine aH 0 Z Z Z Z (Ea Z (Ec (aa (ae (ae (aj (DZ Z (DY (sT Y (cE Z Z)) (Ec ?_)))))))))
  refine aa (aG Z (ae (aj (DZ Z (DY (sT Y (cn Z Z)) (DZ Z (Eb (ab Z) (DY (aV Z Z) (Ea Z ?_)))))))))
  refine Ec (aa (aD (aI ?_)))
  refine aK Tryz.results7 (.tmp Z H)
 ·have g1:=gp m n 1024 F hb hd
  have mF : ∀ i j,dA (F i j):=fun i j=>(dF (t:=6) (hb.f i j) S).L
  have hve:=uw d n Y
  have md : ∀ i,cX (dig d i):=fun i=>dF (t:=6) (Nat.le_trans (nR d i) S) S
  have m4F : ∀ i j,cX (F i j):=fun i j=>dF (t:=6) (hb.f i j) S
  have hac:=zI n m (dig d) F Y Y md m4F
  have hwk : ∀ k,gD n (fun _=>dig d) F 0 k=cS n (fun t=>dig d t*F t k):=fun k=>rfl
  have hwb : ∀ k,(gD n (fun _=>dig d) F 0 k).natAbs≤324:=fun k=>by
   have h1:=iI (B:=81) (f:=fun t=>dig d t*F t k) (fun t=>by rw [Int.natAbs_mul]; exact Nat.mul_le_mul (nR d t) (f9 t k)) n
   rw [jr] at h1
   rw [hwk]
   exact Nat.le_trans h1 (Nat.le_trans (Nat.mul_le_mul_right _ hr) S)
  generalize gD n (fun _=>dig d) F 0=v at *
  have q2:=eA 2 S S
  rw [show ((2:Int):Rat)=2 by decide +kernel] at q2
  have z2:qz 1 2:=by rw [← show ((2:Int):Rat)=2 by decide +kernel]; exact gO (Nat.le_refl _) (lz1 W)
  refine Ok.enter Tryz.func7 Z Tryz.ntmps7 Z (fun w O => ?_)
  refine ae (aj ?_)
  refine aM Z Z (ltN Z) (fun b2 => ?_)
  refine Ea Z (Ec (aa (ae (aj (DY (am (hs) Z trivial) (Ea Z (Ec (aa (ae ?_)))))))))
  refine aj (DY (ay 0 Z Z) ?_)
  refine DY (am (hm) Z ⟨H,Ed⟩) ?_
  refine aF (T:=28) Z Z Z (fun b6 => ?_)
  refine aH 0 Z Z Z Z (Ec (aa (ae (aj (DY (ay 0 Z Z) ?_)))))
  refine di (g1) Z ⟨H,Ed⟩ Z Z (fun s17 => ?_)
  refine DZ Z (DY (aq Z Z) (DY (aq Z Z) ?_))
  refine aF (T:=54) Z Z Z (fun b7 => ?_)
  refine aH 0 Z Z Z Z (Ea Z (Ec (aa (ae (ae ?_)))))
  obtain ⟨s,hs'⟩:=s17
  have k1:=fP m n F s.R s.U s.V hr hc mF hs'.mU hs'.mV hs'.lzR true ⟨fun _=>hs'.chk,fun _=>rfl⟩
  have hback:=hs'.ua.back hs'.vu
  by_cases hv0 : ∀ k,k<m→v k=0
  ·have hz:=pL m v true ⟨fun _=>hv0,fun _=>rfl⟩
   by_cases hn0:n=0
   ·subst hn0
    refine aj (DZ Z (DY (sF Y (cE Z Z)) (Ec (aa (az Z (av (aa (ae (aT 6 aS X S ?_)))))))))
    refine DZ Z (DY (ah Z) (DY (ak 1 Z Z Z) ?_))
    refine DY (am (hve) Z ⟨H,H,Ed⟩) ?_
    refine DY (ay 1 Z Z) ?_
    refine DY (am (hac) Z ⟨H,H,Ed⟩) ?_
    refine Ec (Ea Z (Ec (aa (ae (ae (aj (DY (ay 1 Z Z) (DY (ay 0 Z Z) ?_))))))))
    refine DY (am (k1) Z ⟨H,H,Ed⟩) ?_
    refine DY (bF Z) (Ec (aa (az Z (av (aa (ae (ae (aj (DY (ah Z) ?_)))))))))
    refine DY (ak 1 Z Z Z) (DY (sT Y (cn Z Z)) (DZ Z (sn0 Z Z Z Z Z (sn0 Z Z Z Z Z (DY (aV Z Z) (Ec (aa (aG Z (ae ?_)))))))))
    refine aj (DZ Z (Ea Z (Ec (aa (aD (aI ?_))))))
    refine aK Tryz.results7 (.tmp Z H)
   ·refine aj (DZ Z (DY (sF Y (cE Z Z)) (Ec (aa (az Z (av (aa (ae (aT 6 aS X S ?_)))))))))
    refine DZ Z (DY (ah Z) (DY (ak 1 Z Z Z) ?_))
    refine DY (am (hve) Z ⟨H,H,Ed⟩) ?_
    refine DY (ay 1 Z Z) ?_
    refine DY (am (hac) Z ⟨H,H,Ed⟩) ?_
    refine Ec (Ea Z (Ec (aa (ae (ae (aj (DY (ay 1 Z Z) (DY (ay 0 Z Z) ?_))))))))
    refine DY (am (k1) Z ⟨H,H,Ed⟩) ?_
    refine DY (bF Z) (Ec (aa (az Z (av (aa (ae (ae (aj (DY (ah Z) ?_)))))))))
    refine DY (ak 1 Z Z Z) (DY (sF Y (cn Z Z)) (DZ Z (Eb (ab Z) ?_)))
    refine Eb (am (hz) Z ⟨H,Ed⟩) ?_
    refine DY (a6 Z Z) (Ec (aa (aG Z (ae (aj (DZ Z (Ea Z (Ec (aa ?_)))))))))
    refine aD (aI ?_)
    refine aK Tryz.results7 (.tmp Z H)
  ·have hz:=pL m v false ⟨fun h=>absurd h S,fun h=>absurd h hv0⟩
   by_cases hn0:n=0
   ·subst hn0
    refine aj (DZ Z (DY (sF Y (cE Z Z)) (Ec (aa (az Z (av (aa (ae (aT 6 aS X S ?_)))))))))
    refine DZ Z (DY (ah Z) (DY (ak 1 Z Z Z) ?_))
    refine DY (am (hve) Z ⟨H,H,Ed⟩) ?_
    refine DY (ay 1 Z Z) ?_
    refine DY (am (hac) Z ⟨H,H,Ed⟩) ?_
    refine Ec (Ea Z (Ec (aa (ae (ae (aj (DY (ay 1 Z Z) (DY (ay 0 Z Z) ?_))))))))
    refine DY (am (k1) Z ⟨H,H,Ed⟩) ?_
    refine DY (bF Z) (Ec (aa (az Z (av (aa (ae (ae (aj (DY (ah Z) ?_)))))))))
    refine DY (ak 1 Z Z Z) (DY (sT Y (cn Z Z)) (DZ Z (sn0 Z Z Z Z Z (sn0 Z Z Z Z Z (DY (aV Z Z) (Ec (aa (aG Z (ae ?_)))))))))
    refine aj (DZ Z (Ea Z (Ec (aa (aD (aI ?_))))))
    refine aK Tryz.results7 (.tmp Z H)
   ·have hsv:=kW m v Y (fun k=>dF (t:=9) (Nat.le_trans (hwb k) S) S)
    have hsR:=kW m (s.R 0) Y (hs'.m4R 0)
    have zv:qz 1 ((cO m v v:Int):Rat):=wy (N:=419904) hwb (Nat.mul_le_mul_right _ hc) S
    have zR:qz 1 ((cO m (s.R 0) (s.R 0):Int):Rat):=wy (N:=16384) (hs'.f 0) (Nat.mul_le_mul_right _ hc) S
    have hle:((cO m (s.R 0) (s.R 0):Int):Rat)≤((cO m v v:Int):Rat)*p2 (n - 1):=xp hs'.redA hr (z:=fun j=>cS n (fun t=>dig d t*s.V t j)) (fun k hk=>by rw [hwk]; exact xq hback hk) (by
     refine Classical.byContradiction fun hno=>hv0 fun k hk=>Classical.byContradiction fun h=>hno ⟨k,hk,h⟩)
    refine aj (DZ Z (DY (sF Y (cE Z Z)) (Ec (aa (az Z (av (aa (ae (aT 6 aS X S ?_)))))))))
    refine DZ Z (DY (ah Z) (DY (ak 1 Z Z Z) ?_))
    refine DY (am (hve) Z ⟨H,H,Ed⟩) ?_
    refine DY (ay 1 Z Z) ?_
    refine DY (am (hac) Z ⟨H,H,Ed⟩) ?_
    refine Ec (Ea Z (Ec (aa (ae (ae (aj (DY (ay 1 Z Z) (DY (ay 0 Z Z) ?_))))))))
    refine DY (am (k1) Z ⟨H,H,Ed⟩) ?_
    refine DY (bF Z) (Ec (aa (az Z (av (aa (ae (ae (aj (DY (ah Z) ?_)))))))))
    refine DY (ak 1 Z Z Z) (DY (sF Y (cn Z Z)) (DZ Z (Eb (ab Z) ?_)))
    refine Eb (am (hz) Z ⟨H,Ed⟩) ?_
    refine DY (a6 Z Z) (Ec (aa (az Z (av (aa (ae (aj (DZ Z ?_))))))))
    refine DY (am (hsv) Z ⟨H,Ed⟩) ?_
    refine aF (T:=45) Z Z Z (fun b10 => ?_)
    refine cK 0 Z Z Z Z (Ec (aa (ae (ae (et (ConvM.cons (ConvM.le r4)) (aj (Ea Z (Ec (aa ?_)))))))))
    refine ar (cm (Γ' := [(4,_),(5,_),(6,_),(7,_),(10,_),(11,_)]) DT (SubM.refl _) ?_)
    refine bw (σ:=Nat) (Γk := [(4,_),(5,_),(6,_),(7,_),(10,_)]) DT (fun i => [(11,one (.int .i64 ((i+1:Nat):Int)))]) (fun i M0=>(M0.set 0 (aW b10 45 4 [(0, .agg 4,bx (((cO m v v:Int):Rat)*p2 i))]))) (fun i=>i+1≤n) (fun i=>n - i) (0) Y DU (.keep (wv (by show _=_*(1:Rat);grind)) (.keep DX (.keep DX (.keep DX (.nil))))) (fun i hi => ?_)
    refine bN (Γ' := [(11,_),(4,_),(5,_),(6,_),(7,_),(10,_)]) (M' := [_,_,_,_]) Z Z ?_
    by_cases hin:i+1<n
    ·have hm2:=eJ (((cO m v v:Int):Rat)*p2 i) 2 2 1 (fe zv (wu Y)) z2 S
     rw [show ((cO m v v:Int):Rat)*p2 i*2=((cO m v v:Int):Rat)*p2 (i+1) by show _=_*(p2 i*2);grind] at hm2
     refine ae (ae (aj (DZ Z (DY (ah Z) (DY (ak 2 Z Z Z) (DY (sT Y (a7 Z Z)) (Ec (aa (aG Z ?_)))))))))
     refine av (aa (ae (ar (aT 2 aS X S (DY (ak 0 Z Z Z) ?_)))))
     refine DY (am (q2) Z ⟨H,Ed⟩) ?_
     refine Ec ?_
     refine DY (am (hm2) Z ⟨H,H,Ed⟩) ?_
     refine aC 0 Z Z Z Z Z (leN Z) Z (Ec (aB (aa (aj (DZ Z (DY (bn _ 1 Z Z Y) (Ea Z (Ec ?_))))))))
     refine aN (i+1) Y Y DU (.keep DX (.keep DX (.keep DX (.keep DX (.nil)))))
    ·have he:n=i+1:=by omega
     subst he
     rw [Nat.add_sub_cancel] at hle
     have hcm:=kv ((cO m (s.R 0) (s.R 0):Int):Rat) (((cO m v v:Int):Rat)*p2 i) 1 2 zR (fe zv (wu Y)) S
     rw [oe] at hcm
     have hle':nV ((cO m (s.R 0) (s.R 0):Int):Rat) (((cO m v v:Int):Rat)*p2 i)≤0:=Int.not_lt.1 (rU hle)
     refine ae (ae (aj (DZ Z (DY (ah Z) (DY (ak 2 Z Z Z) (DY (sF Y (a7 Z Z)) (Ec (aa (az Z ?_)))))))))
     refine aY (aw (aw (aE (aa (ae (aT 12 aS X S (DY (ah Z) (DY (ah Z) (DY (ak 1 Z Z Z) ?_)))))))))
     refine DY (ei Z Z Y Y) (DY (aJ Z) ?_)
     refine DY (am (hsR) Z ⟨H,Ed⟩) ?_
     refine DY (ak 0 Z Z Z) ?_
     refine DY (am (hcm) Z ⟨H,H,Ed⟩) ?_
     refine DY (sT (by assumption) (j8 Z Z)) (DZ Z (Eb (ab Z) (DY (aV Z Z) (Ec (Ea Z (Ec (aa (aD ?_))))))))
     refine aK Tryz.results7 (.tmp Z H)
end Tor
end
