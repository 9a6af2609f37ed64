/-
  Theorems that the proofs of laws of this seat rest on.
  No condition.
-/
import Derived.Test.YtamglpeiacmooaaGreatZB7
set_option maxHeartbeats 20000000
set_option linter.unusedVariables false
set_option linter.unusedSimpArgs false
section
namespace Tor
open Go Go.RowKit Go.Proofs
theorem gm {x:Int} (h:cx x) (q:Int):cx (x / q):=Nat.le_trans (co (Int.natAbs_ediv_le_natAbs x q)) h
def fv (k r:Nat) (q:Int) (j:Nat) (F:Nat→Nat→Int):Nat→Nat→Int:=fun a b=>if a=k∧b<j then F a b - q*F r b else F a b
def iw (r k:Nat) (q:Int) (i:Nat) (F:Nat→Nat→Int):Nat→Nat→Int:=fun a b=>if a<i∧b=r then F a b+q*F a k else F a b
theorem u7 {k r j:Nat} {q:Int} {F:Nat→Nat→Int} : fv k r q j F k j=F k j:=by unfold fv;rw [if_neg S]
theorem oW {k r j b:Nat} {q:Int} {F:Nat→Nat→Int} (h:k≠r):fv k r q j F r b=F r b:=by unfold fv;rw [if_neg (fun e=>h e.1.symm)]
theorem mK {i r k b:Nat} {q:Int} {F:Nat→Nat→Int} : iw r k q i F i b=F i b:=by unfold iw;rw [if_neg S]
theorem jj {k r j:Nat} {q:Int} {F:Nat→Nat→Int} (h : ∀ i j,cx (F i j)):ci (fv k r q j F k j):=by rw [u7]; exact bA (h _ _)
theorem jk {k r j b:Nat} {q:Int} {F:Nat→Nat→Int} (hne:k≠r) (h : ∀ i j,cx (F i j)):ci (fv k r q j F r b):=by rw [oW hne]; exact bA (h _ _)
theorem lL {k r j b:Nat} {q:Int} {F:Nat→Nat→Int} (hne:k≠r) (hq:cx q) (h : ∀ i j,cx (F i j)):ci (q*fv k r q j F r b):=by rw [oW hne]; exact fW hq (h _ _)
theorem jl {i r k b:Nat} {q:Int} {F:Nat→Nat→Int} (h : ∀ i j,cx (F i j)):ci (iw r k q i F i b):=by rw [mK]; exact bA (h _ _)
theorem su {i r k b:Nat} {q:Int} {F:Nat→Nat→Int} (hq:cx q) (h : ∀ i j,cx (F i j)):ci (q*iw r k q i F i b):=by rw [mK]; exact fW hq (h _ _)
theorem nK {c k r:Nat} {q:Int} {bs:List Nat} {F:Nat→Nat→Int} : Own.le (bg c bs F) (bg c bs (fv k r q 0 F)):=du fun a b _ _=>by unfold fv;rw [if_neg S]
theorem nL {c k r:Nat} {q:Int} {bs:List Nat} {F:Nat→Nat→Int} : Own.le (bg c bs (fv k r q c F)) (bg c bs (bW k r q F)):=du fun a b _ hb=>by
 unfold fv bW
 by_cases h:a=k
 ·rw [if_pos ⟨h,hb⟩,if_pos h]
 ·rw [if_neg (fun e=>h e.1),if_neg h]
theorem qp {c k r j:Nat} {q:Int} {bs:List Nat} {F:Nat→Nat→Int} (hne:k≠r):Own.le (bX 55 (.agg 2) c bs (eO (fun a b=>bm (fv k r q j F a b)) k j (bm (fv k r q j F k j - q*fv k r q j F r j)))) (bg c bs (fv k r q (j+1) F)):=dM fun a b _ _=>by
 unfold eO
 rw [u7,oW hne]
 unfold fv
 by_cases h:a=k
 ·subst h
  by_cases h2:b=j
  ·subst h2;simp
  ·have h3:b<j+1↔b<j:=by omega
   simp [h2,h3]
 ·simp [h]
theorem u9 {c k r n:Nat} {q:Int} {bs:List Nat} {F:Nat→Nat→Int} (hb:bs.length=n):Own.le (bg c bs (iw r k q n F)) (bg c bs (eQ r k q F)):=du fun a b ha _=>by
 subst hb
 unfold iw eQ
 by_cases h:b=r
 ·rw [if_pos ⟨ha,h⟩,if_pos h]
 ·rw [if_neg (fun e=>h e.2),if_neg h]
theorem va {c k r i:Nat} {q:Int} {bs:List Nat} {F:Nat→Nat→Int} : Own.le (bX 55 (.agg 2) c bs (eO (fun a b=>bm (iw r k q i F a b)) i r (bm (iw r k q i F i r+q*iw r k q i F i k)))) (bg c bs (iw r k q (i+1) F)):=dM fun a b _ _=>by
 unfold eO
 rw [mK,mK]
 unfold iw
 by_cases h:b=r
 ·subst h
  by_cases h2:a=i
  ·subst h2;simp
  ·have h3:a<i+1↔a<i:=by omega
   simp [h2,h3]
 ·simp [h]
attribute [local irreducible] J PJ aQ one slT cA bG bZ exT cE eP aX a8 slV VT.le Ret bS
attribute [local irreducible] bX
theorem oX (b r c:Nat) (A:VT) [hA:Flat A (.agg 3)] (sM sU sV:S3) (M U V:Nat→Nat→Int) (row col:Nat) (d:VT) [hd:Flat d .one] (hr:r≤1048576) (hc:c≤1048576) (hM:ok3 r sM) (hrow:row<r) (hcol:col<c) (hmM : ∀ i j,cx (M i j)) (hp:M row col≠0) (h0 : ∀ k,k<r→ct (fun i=>M i col) (M row col) row k=false) :
  OkI Tryz.prog 69 [one (.pointer (some ⟨b,0,none⟩))] (ei b r c A sM sU sV M U V row col d)
   (fun _:Unit=>one (.bool false)) (fun _=>ei b r c A sM sU sV M U V row col d):=by
 obtain ⟨bs,bo,cap,rfl,hbl⟩:=hM.some S
 have hdm:=fun k=>nG (M k col) (M row col) hp (bA (hmM _ _)) (bA (hmM _ _))
 unfold ei bF
 dsimp only at hbl ⊢
 refine OkI.enter Tryz.func69 Z Tryz.ntmps69 Z (fun w O => ?_)
 refine ah (aj (An Z (Ap (aa (ah (aZ 9 aV X Y (Am Z (Al (ao Z) (Al (ab Z) ?_)))))))))
 refine Al (ak 0 Z Z Z) (Am Z (Al (ao Z) (Al (ab Z) (Al (ak 0 Z Z Z) (An Z (Ap (An Z (Ap (aa ?_)))))))))
 refine ah (ah (aj (Am Z (Al (ao Z) (Al (ab Z) (Al (ab Z) (Al (aw 0 3 0 Z Z Z Z Z) (Am Z (Ap ?_)))))))))
 refine aa (ar (bV (Γ' := [(0,_),(2,_),(3,_),(4,_),(27,_),(28,_)]) Ag (SubM.refl _) ?_))
 refine bv (σ:=Nat) (Γk := [(0,_),(3,_),(4,_),(27,_)]) Ag (fun k => [(28,one (.int .i64 (k:Nat)))]) (fun k M0=>M0) (fun k=>k≤r) (fun k=>r - k) (0) (Nat.zero_le _) Ah (.keep Ak (.keep Ak (.keep Ak (.keep Ak (.keep Ak (.keep Ak (.keep Ak (.nil)))))))) (fun k hk => ?_)
 refine bK (Γ' := [(28,_),(0,_),(3,_),(4,_),(27,_)]) (M' := [_,_,_,_,_,_,_]) Z Z ?_
 by_cases hk:k<r
 ·have hn:=h0 k hk
  simp only [ct,decide_eq_false_iff_not] at hn
  have hz:=cI (M k col)
  have hzq:=cI (M k col / M row col)
  by_cases h1:k=row
  ·refine ah (aj (Al (sT S (aS Z Z)) (Ap (aa (ah (az Z (au (aa (ah ?_)))))))))
   refine ar (ah (aj (Am Z (An Z (Ap (aa (ah (aj (Am Z ?_)))))))))
   refine Al (ao Z) (Al (ab Z) (Al (ab Z) (Al (aw 0 3 2 Z Z Z Z Z) (Am Z (Al (an Z Z S) (Al (aI 1 Z Z S) (Am Z (Al (an Z Z S) (Al (bd 2 Z Z (bC S) S) ?_)))))))))
   refine aT (T:=55) Z (ltN Z) (fun b6 => ?_)
   refine aF 0 Z Z Z Z Z (leN Z) Z (Ap (aa (ah ?_)))
   refine dq aV X X ?_
   refine ux (fun B=>ak 0 Z Z Z) Z Z ?_
   refine ux (fun B=>ae Z) Z Z ?_
   refine ux (fun B=>ao Z) Z Z ?_
   refine ux (fun B=>ab Z) Z Z ?_
   refine ux (fun B=>ab Z) Z Z ?_
   refine ux (fun B=>aw 1 3 2 Z Z Z Z Z) Z Z ?_
   refine ux (fun B=>ae Z) Z Z ?_
   refine ux (fun B=>an Z Z S) Z Z ?_
   refine ux (fun B=>aI 2 Z Z S) Z Z ?_
   refine ux (fun B=>ae Z) Z Z ?_
   refine ux (fun B=>an Z Z S) Z Z ?_
   refine ux (fun B=>bd 3 Z Z (bC S) S) Z Z ?_
   refine uxk (hdm _) Z ⟨W,W,Aq⟩ Z ?_
   refine ux (fun B=>ae Z) Z Z ?_
   refine ux (fun B=>aN Z Z) Z Z ?_
   refine ux (fun B=>aN Z Z) Z Z ?_
   refine ux (fun B=>aN Z Z) Z Z ?_
   refine ua Z (ua Z (us Z (us Z ?_)))
   refine ux (fun B=>ai Z) Z Z ?_
   refine RunU.nil (fun γ => ?_)
   refine cG (M' := [_,_,_,_,_,_,_,_,_,_]) Z (aa (ah (ah (aj (Am Z (Am Z (Al (sT S (cj Z Z)) (Am Z (sn0 Z Z Z Z Z ?_)))))))))
   refine sn0 Z Z Z Z Z (sn0 Z Z Z Z Z (sn0 Z Z Z Z Z (snU Z Z Z Z (snU Z Z Z Z (snU Z Z Z Z (sn0 Z Z Z Z Z (Al (aE Z Z) (Am Z (sn0 Z Z Z Z Z ?_)))))))))
   refine sn0 Z Z Z Z Z (sn0 Z Z Z Z Z (sn0 Z Z Z Z Z (snU Z Z Z Z (snU Z Z Z Z (snU Z Z Z Z (sn0 Z Z Z Z Z (Al (aE Z Z) (Ap (aa ?_)))))))))
   refine az Z (aU (av (aC (aa (aj (Al (bn _ 1 Z Z S) (Am Z (Ap ?_))))))))
   refine aJ (k+1) (hk) S Ah (.drop (.drop (.drop (.keep Ak (.keep Ak (.keep Ak (.keep Ak (.keep Ak (.keep Ak (.keep Ak (.nil)))))))))))
  ·by_cases h2:k<row
   ·have h3:de (M k col / M row col)=0:=hzq.2 (Decidable.not_not.1 fun e=>hn ⟨h1, .inl ⟨h2,e⟩⟩)
    refine ah (aj (Al (sT S (aS Z Z)) (Ap (aa (ah (az Z (au (aa (ah ?_)))))))))
    refine ar (ah (aj (Am Z (An Z (Ap (aa (ah (aj (Am Z ?_)))))))))
    refine Al (ao Z) (Al (ab Z) (Al (ab Z) (Al (aw 0 3 2 Z Z Z Z Z) (Am Z (Al (an Z Z S) (Al (aI 1 Z Z S) (Am Z (Al (an Z Z S) (Al (bd 2 Z Z (bC S) S) ?_)))))))))
    refine aT (T:=55) Z (ltN Z) (fun b6 => ?_)
    refine aF 0 Z Z Z Z Z (leN Z) Z (Ap (aa (ah ?_)))
    refine dq aV X X ?_
    refine ux (fun B=>ak 0 Z Z Z) Z Z ?_
    refine ux (fun B=>ae Z) Z Z ?_
    refine ux (fun B=>ao Z) Z Z ?_
    refine ux (fun B=>ab Z) Z Z ?_
    refine ux (fun B=>ab Z) Z Z ?_
    refine ux (fun B=>aw 1 3 2 Z Z Z Z Z) Z Z ?_
    refine ux (fun B=>ae Z) Z Z ?_
    refine ux (fun B=>an Z Z S) Z Z ?_
    refine ux (fun B=>aI 2 Z Z S) Z Z ?_
    refine ux (fun B=>ae Z) Z Z ?_
    refine ux (fun B=>an Z Z S) Z Z ?_
    refine ux (fun B=>bd 3 Z Z (bC S) S) Z Z ?_
    refine uxk (hdm _) Z ⟨W,W,Aq⟩ Z ?_
    refine ux (fun B=>ae Z) Z Z ?_
    refine ux (fun B=>aN Z Z) Z Z ?_
    refine ux (fun B=>aN Z Z) Z Z ?_
    refine ux (fun B=>aN Z Z) Z Z ?_
    refine ua Z (ua Z (us Z (us Z ?_)))
    refine ux (fun B=>ai Z) Z Z ?_
    refine RunU.nil (fun γ => ?_)
    refine cG (M' := [_,_,_,_,_,_,_,_,_,_]) Z (aa (ah (ah (aj (Am Z (Am Z (Al (sF S (cj Z Z)) (Am Z (Ao (ae Z) ?_)))))))))
    refine Ao (ae Z) (Ao (sT S (aS Z Z)) (Ao (ae Z) (Ao (ak 1 Z Z Z) ?_)))
    refine Ao (am (cw _) Z ⟨W,Aq⟩) ?_
    refine Ao (sT (by assumption) (cj Z Z)) (Ao (aE Z Z) (Al (ay Z Z) (Am Z (sn0 Z Z Z Z Z (sn0 Z Z Z Z Z (sn0 Z Z Z Z Z (sn0 Z Z Z Z Z (snU Z Z Z Z (snU Z Z Z Z ?_)))))))))
    refine snU Z Z Z Z (sn0 Z Z Z Z Z (Al (aE Z Z) (Ap (aa (az Z (aU (av (aC (aa ?_)))))))))
    refine aj (Al (bn _ 1 Z Z S) (Am Z (Ap ?_)))
    refine aJ (k+1) (hk) S Ah (.drop (.drop (.drop (.keep Ak (.keep Ak (.keep Ak (.keep Ak (.keep Ak (.keep Ak (.keep Ak (.nil)))))))))))
   ·have h3:de (M k col)=0:=hz.2 (Decidable.not_not.1 fun e=>hn ⟨h1, .inr ⟨by omega,e⟩⟩)
    refine ah (aj (Al (sT S (aS Z Z)) (Ap (aa (ah (az Z (au (aa (ah ?_)))))))))
    refine ar (ah (aj (Am Z (An Z (Ap (aa (ah (aj (Am Z ?_)))))))))
    refine Al (ao Z) (Al (ab Z) (Al (ab Z) (Al (aw 0 3 2 Z Z Z Z Z) (Am Z (Al (an Z Z S) (Al (aI 1 Z Z S) (Am Z (Al (an Z Z S) (Al (bd 2 Z Z (bC S) S) ?_)))))))))
    refine aT (T:=55) Z (ltN Z) (fun b6 => ?_)
    refine aF 0 Z Z Z Z Z (leN Z) Z (Ap (aa (ah ?_)))
    refine dq aV X X ?_
    refine ux (fun B=>ak 0 Z Z Z) Z Z ?_
    refine ux (fun B=>ae Z) Z Z ?_
    refine ux (fun B=>ao Z) Z Z ?_
    refine ux (fun B=>ab Z) Z Z ?_
    refine ux (fun B=>ab Z) Z Z ?_
    refine ux (fun B=>aw 1 3 2 Z Z Z Z Z) Z Z ?_
    refine ux (fun B=>ae Z) Z Z ?_
    refine ux (fun B=>an Z Z S) Z Z ?_
    refine ux (fun B=>aI 2 Z Z S) Z Z ?_
    refine ux (fun B=>ae Z) Z Z ?_
    refine ux (fun B=>an Z Z S) Z Z ?_
    refine ux (fun B=>bd 3 Z Z (bC S) S) Z Z ?_
    refine uxk (hdm _) Z ⟨W,W,Aq⟩ Z ?_
    refine ux (fun B=>ae Z) Z Z ?_
    refine ux (fun B=>aN Z Z) Z Z ?_
    refine ux (fun B=>aN Z Z) Z Z ?_
    refine ux (fun B=>aN Z Z) Z Z ?_
    refine ua Z (ua Z (us Z (us Z ?_)))
    refine ux (fun B=>ai Z) Z Z ?_
    refine RunU.nil (fun γ => ?_)
    refine cG (M' := [_,_,_,_,_,_,_,_,_,_]) Z (aa (ah (ah (aj (Am Z (Am Z (Al (sF S (cj Z Z)) (Am Z (Ao (ae Z) ?_)))))))))
    refine Ao (ae Z) (Ao (sF S (aS Z Z)) (Ao (ae Z) (sn0 Z Z Z Z Z (sn0 Z Z Z Z Z (sn0 Z Z Z Z Z (Ao (ay Z Z) (Al (ay Z Z) (Am Z (Ao (ae Z) ?_)))))))))
    refine Ao (ae Z) (Ao (sT S (dS Z Z)) (Ao (ae Z) (Ao (ak 2 Z Z Z) ?_)))
    refine Ao (am (cw _) Z ⟨W,Aq⟩) ?_
    refine Ao (sT (by assumption) (cj Z Z)) (Ao (aE Z Z) (Al (ay Z Z) (Ap (aa (az Z (aU (av (aC (aa ?_)))))))))
    refine aj (Al (bn _ 1 Z Z S) (Am Z (Ap ?_)))
    refine aJ (k+1) (hk) S Ah (.drop (.drop (.drop (.keep Ak (.keep Ak (.keep Ak (.keep Ak (.keep Ak (.keep Ak (.keep Ak (.nil)))))))))))
 ·refine ah (aj (Al (sF S (aS Z Z)) (Ap (aa (ah (aA Z (aU (av (av ?_)))))))))
  refine aC (aa (ah (aj (An Z (Ap (aa (aG (iC () Tryz.results69 (.tmp Z W) ?_))))))))
  exact SubM.refl _
theorem qq (b r c:Nat) (A:VT) [hA:Flat A (.agg 3)] (sM sU sV:S3) (M U V:Nat→Nat→Int) (row col:Nat) (d:VT) [hd:Flat d .one] (hr:r≤1048576) (hc:c≤1048576) (hM:ok3 r sM) (hU:ok3 r sU) (hV:ok3 r sV) (hrow:row<r) (hcol:col<c) (hmM : ∀ i j,cx (M i j)) (hmU : ∀ i j,cx (U i j)) (hmV : ∀ i j,cx (V i j)) (hp:M row col≠0) (k0:Nat) (hk0:k0<r) (hf : ∀ k,k<k0→ct (fun i=>M i col) (M row col) row k=false) (h0:ct (fun i=>M i col) (M row col) row k0=true) :
  OkI Tryz.prog 69 [one (.pointer (some ⟨b,0,none⟩))] (ei b r c A sM sU sV M U V row col d)
   (fun _:Unit=>one (.bool true)) (fun _=>ei b r c A sM sU sV (bW k0 row (M k0 col / M row col) M) (bW k0 row (M k0 col / M row col) U) (eQ row k0 (M k0 col / M row col) V) row col d):=by
 obtain ⟨bs,bo,cap,rfl,hbl⟩:=hM.some S
 obtain ⟨bsU,boU,capU,rfl,hblU⟩:=hU.some S
 obtain ⟨bsV,boV,capV,rfl,hblV⟩:=hV.some S
 have hdm:=fun k=>nG (M k col) (M row col) hp (bA (hmM _ _)) (bA (hmM _ _))
 have hmq:=gm (hmM k0 col) (M row col)
 unfold ei bF
 dsimp only at hbl hblU hblV ⊢
 refine OkI.enter Tryz.func69 Z Tryz.ntmps69 Z (fun w O => ?_)
 refine ah (aj (An Z (Ap (aa (ah (aZ 9 aV X Y (Am Z (Al (ao Z) (Al (ab Z) ?_)))))))))
 refine Al (ak 0 Z Z Z) (Am Z (Al (ao Z) (Al (ab Z) (Al (ak 0 Z Z Z) (An Z (Ap (An Z (Ap (aa ?_)))))))))
 refine ah (ah (aj (Am Z (Al (ao Z) (Al (ab Z) (Al (ab Z) (Al (aw 0 3 0 Z Z Z Z Z) (Am Z (Ap ?_)))))))))
 refine aa (ar (bV (Γ' := [(0,_),(2,_),(3,_),(4,_),(27,_),(28,_)]) Ag (SubM.refl _) ?_))
 refine bv (σ:=Nat) (Γk := [(0,_),(3,_),(4,_),(27,_)]) Ag (fun k => [(28,one (.int .i64 (k:Nat)))]) (fun k M0=>M0) (fun k=>k≤k0) (fun k=>k0 - k) (0) (Nat.zero_le _) Ah (.keep Ak (.keep Ak (.keep Ak (.keep Ak (.keep Ak (.keep Ak (.keep Ak (.nil)))))))) (fun k hk => ?_)
 refine bK (Γ' := [(28,_),(0,_),(3,_),(4,_),(27,_)]) (M' := [_,_,_,_,_,_,_]) Z Z ?_
 by_cases hk:k<k0
 ·have hn:=hf k hk
  simp only [ct,decide_eq_false_iff_not] at hn
  have hz:=cI (M k col)
  have hzq:=cI (M k col / M row col)
  by_cases h1:k=row
  ·refine ah (aj (Al (sT S (aS Z Z)) (Ap (aa (ah (az Z (au (aa (ah ?_)))))))))
   refine ar (ah (aj (Am Z (An Z (Ap (aa (ah (aj (Am Z ?_)))))))))
   refine Al (ao Z) (Al (ab Z) (Al (ab Z) (Al (aw 0 3 2 Z Z Z Z Z) (Am Z (Al (an Z Z S) (Al (aI 1 Z Z S) (Am Z (Al (an Z Z S) (Al (bd 2 Z Z (bC S) S) ?_)))))))))
   refine aT (T:=55) Z (ltN Z) (fun b6 => ?_)
   refine aF 0 Z Z Z Z Z (leN Z) Z (Ap (aa (ah ?_)))
   refine dq aV X X ?_
   refine ux (fun B=>ak 0 Z Z Z) Z Z ?_
   refine ux (fun B=>ae Z) Z Z ?_
   refine ux (fun B=>ao Z) Z Z ?_
   refine ux (fun B=>ab Z) Z Z ?_
   refine ux (fun B=>ab Z) Z Z ?_
   refine ux (fun B=>aw 1 3 2 Z Z Z Z Z) Z Z ?_
   refine ux (fun B=>ae Z) Z Z ?_
   refine ux (fun B=>an Z Z S) Z Z ?_
   refine ux (fun B=>aI 2 Z Z S) Z Z ?_
   refine ux (fun B=>ae Z) Z Z ?_
   refine ux (fun B=>an Z Z S) Z Z ?_
   refine ux (fun B=>bd 3 Z Z (bC S) S) Z Z ?_
   refine uxk (hdm _) Z ⟨W,W,Aq⟩ Z ?_
   refine ux (fun B=>ae Z) Z Z ?_
   refine ux (fun B=>aN Z Z) Z Z ?_
   refine ux (fun B=>aN Z Z) Z Z ?_
   refine ux (fun B=>aN Z Z) Z Z ?_
   refine ua Z (ua Z (us Z (us Z ?_)))
   refine ux (fun B=>ai Z) Z Z ?_
   refine RunU.nil (fun γ => ?_)
   refine cG (M' := [_,_,_,_,_,_,_,_,_,_]) Z (aa (ah (ah (aj (Am Z (Am Z (Al (sT S (cj Z Z)) (Am Z (sn0 Z Z Z Z Z ?_)))))))))
   refine sn0 Z Z Z Z Z (sn0 Z Z Z Z Z (sn0 Z Z Z Z Z (snU Z Z Z Z (snU Z Z Z Z (snU Z Z Z Z (sn0 Z Z Z Z Z (Al (aE Z Z) (Am Z (sn0 Z Z Z Z Z ?_)))))))))
   refine sn0 Z Z Z Z Z (sn0 Z Z Z Z Z (sn0 Z Z Z Z Z (snU Z Z Z Z (snU Z Z Z Z (snU Z Z Z Z (sn0 Z Z Z Z Z (Al (aE Z Z) (Ap (aa ?_)))))))))
   refine az Z (aU (av (aC (aa (aj (Al (bn _ 1 Z Z S) (Am Z (Ap ?_))))))))
   refine aJ (k+1) (hk) S Ah (.drop (.drop (.drop (.keep Ak (.keep Ak (.keep Ak (.keep Ak (.keep Ak (.keep Ak (.keep Ak (.nil)))))))))))
  ·by_cases h2:k<row
   ·have h3:de (M k col / M row col)=0:=hzq.2 (Decidable.not_not.1 fun e=>hn ⟨h1, .inl ⟨h2,e⟩⟩)
    refine ah (aj (Al (sT S (aS Z Z)) (Ap (aa (ah (az Z (au (aa (ah ?_)))))))))
    refine ar (ah (aj (Am Z (An Z (Ap (aa (ah (aj (Am Z ?_)))))))))
    refine Al (ao Z) (Al (ab Z) (Al (ab Z) (Al (aw 0 3 2 Z Z Z Z Z) (Am Z (Al (an Z Z S) (Al (aI 1 Z Z S) (Am Z (Al (an Z Z S) (Al (bd 2 Z Z (bC S) S) ?_)))))))))
    refine aT (T:=55) Z (ltN Z) (fun b6 => ?_)
    refine aF 0 Z Z Z Z Z (leN Z) Z (Ap (aa (ah ?_)))
    refine dq aV X X ?_
    refine ux (fun B=>ak 0 Z Z Z) Z Z ?_
    refine ux (fun B=>ae Z) Z Z ?_
    refine ux (fun B=>ao Z) Z Z ?_
    refine ux (fun B=>ab Z) Z Z ?_
    refine ux (fun B=>ab Z) Z Z ?_
    refine ux (fun B=>aw 1 3 2 Z Z Z Z Z) Z Z ?_
    refine ux (fun B=>ae Z) Z Z ?_
    refine ux (fun B=>an Z Z S) Z Z ?_
    refine ux (fun B=>aI 2 Z Z S) Z Z ?_
    refine ux (fun B=>ae Z) Z Z ?_
    refine ux (fun B=>an Z Z S) Z Z ?_
    refine ux (fun B=>bd 3 Z Z (bC S) S) Z Z ?_
    refine uxk (hdm _) Z ⟨W,W,Aq⟩ Z ?_
    refine ux (fun B=>ae Z) Z Z ?_
    refine ux (fun B=>aN Z Z) Z Z ?_
    refine ux (fun B=>aN Z Z) Z Z ?_
    refine ux (fun B=>aN Z Z) Z Z ?_
    refine ua Z (ua Z (us Z (us Z ?_)))
    refine ux (fun B=>ai Z) Z Z ?_
    refine RunU.nil (fun γ => ?_)
    refine cG (M' := [_,_,_,_,_,_,_,_,_,_]) Z (aa (ah (ah (aj (Am Z (Am Z (Al (sF S (cj Z Z)) (Am Z (Ao (ae Z) ?_)))))))))
    refine Ao (ae Z) (Ao (sT S (aS Z Z)) (Ao (ae Z) (Ao (ak 1 Z Z Z) ?_)))
    refine Ao (am (cw _) Z ⟨W,Aq⟩) ?_
    refine Ao (sT (by assumption) (cj Z Z)) (Ao (aE Z Z) (Al (ay Z Z) (Am Z (sn0 Z Z Z Z Z (sn0 Z Z Z Z Z (sn0 Z Z Z Z Z (sn0 Z Z Z Z Z (snU Z Z Z Z (snU Z Z Z Z ?_)))))))))
    refine snU Z Z Z Z (sn0 Z Z Z Z Z (Al (aE Z Z) (Ap (aa (az Z (aU (av (aC (aa ?_)))))))))
    refine aj (Al (bn _ 1 Z Z S) (Am Z (Ap ?_)))
    refine aJ (k+1) (hk) S Ah (.drop (.drop (.drop (.keep Ak (.keep Ak (.keep Ak (.keep Ak (.keep Ak (.keep Ak (.keep Ak (.nil)))))))))))
   ·have h3:de (M k col)=0:=hz.2 (Decidable.not_not.1 fun e=>hn ⟨h1, .inr ⟨by omega,e⟩⟩)
    refine ah (aj (Al (sT S (aS Z Z)) (Ap (aa (ah (az Z (au (aa (ah ?_)))))))))
    refine ar (ah (aj (Am Z (An Z (Ap (aa (ah (aj (Am Z ?_)))))))))
    refine Al (ao Z) (Al (ab Z) (Al (ab Z) (Al (aw 0 3 2 Z Z Z Z Z) (Am Z (Al (an Z Z S) (Al (aI 1 Z Z S) (Am Z (Al (an Z Z S) (Al (bd 2 Z Z (bC S) S) ?_)))))))))
    refine aT (T:=55) Z (ltN Z) (fun b6 => ?_)
    refine aF 0 Z Z Z Z Z (leN Z) Z (Ap (aa (ah ?_)))
    refine dq aV X X ?_
    refine ux (fun B=>ak 0 Z Z Z) Z Z ?_
    refine ux (fun B=>ae Z) Z Z ?_
    refine ux (fun B=>ao Z) Z Z ?_
    refine ux (fun B=>ab Z) Z Z ?_
    refine ux (fun B=>ab Z) Z Z ?_
    refine ux (fun B=>aw 1 3 2 Z Z Z Z Z) Z Z ?_
    refine ux (fun B=>ae Z) Z Z ?_
    refine ux (fun B=>an Z Z S) Z Z ?_
    refine ux (fun B=>aI 2 Z Z S) Z Z ?_
    refine ux (fun B=>ae Z) Z Z ?_
    refine ux (fun B=>an Z Z S) Z Z ?_
    refine ux (fun B=>bd 3 Z Z (bC S) S) Z Z ?_
    refine uxk (hdm _) Z ⟨W,W,Aq⟩ Z ?_
    refine ux (fun B=>ae Z) Z Z ?_
    refine ux (fun B=>aN Z Z) Z Z ?_
    refine ux (fun B=>aN Z Z) Z Z ?_
    refine ux (fun B=>aN Z Z) Z Z ?_
    refine ua Z (ua Z (us Z (us Z ?_)))
    refine ux (fun B=>ai Z) Z Z ?_
    refine RunU.nil (fun γ => ?_)
    refine cG (M' := [_,_,_,_,_,_,_,_,_,_]) Z (aa (ah (ah (aj (Am Z (Am Z (Al (sF S (cj Z Z)) (Am Z (Ao (ae Z) ?_)))))))))
    refine Ao (ae Z) (Ao (sF S (aS Z Z)) (Ao (ae Z) (sn0 Z Z Z Z Z (sn0 Z Z Z Z Z (sn0 Z Z Z Z Z (Ao (ay Z Z) (Al (ay Z Z) (Am Z (Ao (ae Z) ?_)))))))))
    refine Ao (ae Z) (Ao (sT S (dS Z Z)) (Ao (ae Z) (Ao (ak 2 Z Z Z) ?_)))
    refine Ao (am (cw _) Z ⟨W,Aq⟩) ?_
    refine Ao (sT (by assumption) (cj Z Z)) (Ao (aE Z Z) (Al (ay Z Z) (Ap (aa (az Z (aU (av (aC (aa ?_)))))))))
    refine aj (Al (bn _ 1 Z Z S) (Am Z (Ap ?_)))
    refine aJ (k+1) (hk) S Ah (.drop (.drop (.drop (.keep Ak (.keep Ak (.keep Ak (.keep Ak (.keep Ak (.keep Ak (.keep Ak (.nil)))))))))))
 ·have hkk:k=k0:=by omega
  subst hkk
  simp only [ct,decide_eq_true_eq] at h0
  obtain ⟨hne,h0⟩:=h0
  have hz:=cI (M k col)
  have hzq:=cI (M k col / M row col)
  rcases h0 with ⟨h2,h4⟩ | ⟨h2,h4⟩
  ·have h3 : ¬ de (M k col / M row col)=0:=fun e=>h4 (hzq.1 e)
   refine ah (aj (Al (sT S (aS Z Z)) (Ap (aa (ah (az Z (au (aa (ah ?_)))))))))
   refine ar (ah (aj (Am Z (An Z (Ap (aa (ah (aj (Am Z ?_)))))))))
   refine Al (ao Z) (Al (ab Z) (Al (ab Z) (Al (aw 0 3 2 Z Z Z Z Z) (Am Z (Al (an Z Z S) (Al (aI 1 Z Z S) (Am Z (Al (an Z Z S) (Al (bd 2 Z Z (bC S) S) ?_)))))))))
   refine aT (T:=55) Z (ltN Z) (fun b6 => ?_)
   refine aF 0 Z Z Z Z Z (leN Z) Z (Ap (aa (ah ?_)))
   refine dq aV X X ?_
   refine ux (fun B=>ak 0 Z Z Z) Z Z ?_
   refine ux (fun B=>ae Z) Z Z ?_
   refine ux (fun B=>ao Z) Z Z ?_
   refine ux (fun B=>ab Z) Z Z ?_
   refine ux (fun B=>ab Z) Z Z ?_
   refine ux (fun B=>aw 1 3 2 Z Z Z Z Z) Z Z ?_
   refine ux (fun B=>ae Z) Z Z ?_
   refine ux (fun B=>an Z Z S) Z Z ?_
   refine ux (fun B=>aI 2 Z Z S) Z Z ?_
   refine ux (fun B=>ae Z) Z Z ?_
   refine ux (fun B=>an Z Z S) Z Z ?_
   refine ux (fun B=>bd 3 Z Z (bC S) S) Z Z ?_
   refine uxk (hdm _) Z ⟨W,W,Aq⟩ Z ?_
   refine ux (fun B=>ae Z) Z Z ?_
   refine ux (fun B=>aN Z Z) Z Z ?_
   refine ux (fun B=>aN Z Z) Z Z ?_
   refine ux (fun B=>aN Z Z) Z Z ?_
   refine ua Z (ua Z (us Z (us Z ?_)))
   refine ux (fun B=>ai Z) Z Z ?_
   refine RunU.nil (fun γ => ?_)
   refine cG (M' := [_,_,_,_,_,_,_,_,_,_]) Z (aa (ah (ah (aj (Am Z (Am Z (Al (sF S (cj Z Z)) (Am Z (Ao (ae Z) ?_)))))))))
   refine Ao (ae Z) (Ao (sT S (aS Z Z)) (Ao (ae Z) (Ao (ak 1 Z Z Z) ?_)))
   refine Ao (am (cw _) Z ⟨W,Aq⟩) ?_
   refine Ao (sF (by assumption) (cj Z Z)) (Ao (aE Z Z) (Al (ay Z Z) (Am Z (Ao (ae Z) (Ao (ae Z) (Ao (sF S (dS Z Z)) (Ao (ae Z) (sn0 Z Z Z Z Z (sn0 Z Z Z Z Z ?_)))))))))
   refine sn0 Z Z Z Z Z (Ao (ay Z Z) (Al (ay Z Z) (Ap (aa (aA Z (au (aa (ah (ah ?_)))))))))
   refine aZ 11 aV X Y (Am Z (Al (ao Z) (Al (ab Z) (Al (ak 3 Z Z Z) (Am Z (Al (ao Z) (Al (ab Z) (Al (ak 3 Z Z Z) (stS Z Z Z Z ?_)))))))))
   refine PartsK.cons Z (PartsK.cons Z (PartsK.nil (Al (be Z) (Am Z (Ap (Ap (aa (ar ?_))))))))
   refine jN (t:=90) (ψ:=slT (.agg 3) 2 (fun q=>match q with | 0=>bG 3 [(0, .one,one (.int .i64 (r:Nat))),(1, .one,one (.int .i64 (c:Nat))),(2, .one,one (slV (some bo) r cap))] | _=>bG 3 [(0, .one,one (.int .i64 (r:Nat))),(1, .one,one (.int .i64 (r:Nat))),(2, .one,one (slV (some boU) r capU))])) Z (cL Z fun q hq=>match q,hq with | 0,_=>rfl | 1,_=>rfl) ?_
   refine bV (Γ' := [(0,_),(3,_),(4,_),(5,_),(7,_),(27,_),(28,_),(90,_),(91,_),(92,_)]) Ag (SubM.refl _) ?_
   refine bv (σ:=Nat) (Γk := [(0,_),(3,_),(4,_),(5,_),(7,_),(27,_),(28,_),(90,_),(91,_)]) Ag (fun i => [(92,one (.int .i64 (i:Nat)))]) (fun i M0=>((M0.set 5 (bg c bs (if 0<i then bW k row (M k col / M row col) M else M))).set 7 (bg r bsU (if 1<i then bW k row (M k col / M row col) U else U)))) (fun i=>i≤2) (fun i=>2 - i) (0) (Nat.zero_le _) Ah (.keep Ak (.keep Ak (.keep Ak (.keep Ak (.keep Ak (.keep Ak (.keep Ak (.keep Ak (.keep Ak (.keep Ak (.nil))))))))))) (fun i hi => ?_)
   refine bK (Γ' := [(92,_),(0,_),(3,_),(4,_),(5,_),(7,_),(27,_),(28,_),(90,_),(91,_)]) (M' := [_,_,_,_,_,_,_,_,_,_]) Z Z ?_
   by_cases hi0:i=0
   ·subst hi0
    rw [if_neg (show ¬ 0<0 by omega),if_neg (show ¬ 1<0 by omega)]
    refine ah (aj (Al (sT S (aS Z Z)) (Ap (aa (ah (az Z (au (aa (ah ?_)))))))))
    refine ar (ah (aj (Al (ax Z Z S) (Al (aH Z) ?_))))
    refine a7 (T:=29) Z Z Z (fun b11 => ?_)
    refine aW 0 Z Z Z Z (Ap (aa (ah (aj (Al (ab Z) (Al (ak 0 Z Z Z) (Am Z (Ap (aa ?_)))))))))
    refine ar (bV (Γ' := [(0,_),(3,_),(4,_),(5,_),(7,_),(11,_),(27,_),(28,_),(90,_),(91,_),(92,_),(97,_),(98,_)]) Ag (SubM.refl _) ?_)
    refine bv (σ:=Nat) (Γk := [(0,_),(3,_),(4,_),(5,_),(7,_),(11,_),(27,_),(28,_),(90,_),(91,_),(92,_),(97,_)]) Ag (fun j => [(98,one (.int .i64 (j:Nat)))]) (fun j M0=>(M0.set 6 (bg c bs (fv k row (M k col / M row col) j M)))) (fun j=>j≤c) (fun j=>c - j) (0) (Nat.zero_le _) Ah (.keep Ak (.keep Ak (.keep Ak (.keep Ak (.keep Ak (.keep Ak (.keep (nK) (.keep Ak (.keep Ak (.keep Ak (.keep Ak (.nil)))))))))))) (fun j hj => ?_)
    refine bK (Γ' := [(98,_),(0,_),(3,_),(4,_),(5,_),(7,_),(11,_),(27,_),(28,_),(90,_),(91,_),(92,_),(97,_)]) (M' := [_,_,_,_,_,_,_,_,_,_,_]) Z Z ?_
    by_cases hj:j<c
    ·refine ah (aj (Al (sT S (aS Z Z)) (Ap (aa (ah (az Z (au (aa (ah ?_)))))))))
     refine ar (ah (aj (Am Z (An Z (Ap (aa (aZ 25 aV X Y (Al (ab Z) (Al (ak 0 Z Z Z) ?_)))))))))
     refine Am Z (Al (an Z Z S) (Al (aI 5 Z Z S) (Am Z (Al (ab Z) (Al (ak 0 Z Z Z) (Am Z (Al (an Z Z S) (Al (aI 5 Z Z S) (Am Z ?_)))))))))
     refine Al (an Z Z S) (Al (bd 6 Z Z (bC S) S) (Al (ak 2 Z Z Z) (Al (ab Z) (Al (ak 0 Z Z Z) (Am Z (Al (an Z Z S) (Al (aI 5 Z Z S) (Am Z (Al (an Z Z S) ?_)))))))))
     refine Al (bd 6 Z Z (bC S) S) ?_
     refine Al (am (ip _ _ (bA hmq) (jk hne hmM)) Z ⟨W,W,Aq⟩) ?_
     refine Al (am (lK _ _ (jj hmM) (lL hne hmq hmM)) Z ⟨W,W,Aq⟩) ?_
     refine Ap (Al (an Z Z S) ?_)
     (refine a9 6 Z Z Z (bC ?_) ?_ Z ?_;omega;omega)
     refine Ap (aD (aa (aj (Al (bn _ 1 Z Z S) (Am Z (Ap ?_))))))
     refine aJ (j+1) (hj) S Ah (.keep Ak (.keep Ak (.keep Ak (.keep Ak (.keep Ak (.keep Ak (.keep (qp hne) (.keep Ak (.keep Ak (.keep Ak (.keep Ak (.nil))))))))))))
    ·have he:j=c:=by omega
     subst he
     refine ah (aj (Al (sF S (aS Z Z)) (Ap (aa (ah (aA Z (aU (av (av ?_)))))))))
     refine aC (aD (aa (aj (Al (bn _ 1 Z Z S) (Am Z (Ap ?_))))))
     refine aJ (1) S S Ah (.drop (.keep Ak (.keep Ak (.keep Ak (.keep Ak (.keep Ak (.keep (nL) (.keep Ak (.keep Ak (.keep Ak (.keep Ak (.nil))))))))))))
   ·by_cases hi1:i=1
    ·subst hi1
     rw [if_pos (show 0<1 by omega),if_neg (show ¬ 1<1 by omega)]
     refine ah (aj (Al (sT S (aS Z Z)) (Ap (aa (ah (az Z (au (aa (ah ?_)))))))))
     refine ar (ah (aj (Al (ax Z Z S) (Al (aH Z) ?_))))
     refine a7 (T:=29) Z Z Z (fun b11 => ?_)
     refine aW 0 Z Z Z Z (Ap (aa (ah (aj (Al (ab Z) (Al (ak 0 Z Z Z) (Am Z (Ap (aa ?_)))))))))
     refine ar (bV (Γ' := [(0,_),(3,_),(4,_),(5,_),(7,_),(11,_),(27,_),(28,_),(90,_),(91,_),(92,_),(97,_),(98,_)]) Ag (SubM.refl _) ?_)
     refine bv (σ:=Nat) (Γk := [(0,_),(3,_),(4,_),(5,_),(7,_),(11,_),(27,_),(28,_),(90,_),(91,_),(92,_),(97,_)]) Ag (fun j => [(98,one (.int .i64 (j:Nat)))]) (fun j M0=>(M0.set 8 (bg r bsU (fv k row (M k col / M row col) j U)))) (fun j=>j≤r) (fun j=>r - j) (0) (Nat.zero_le _) Ah (.keep Ak (.keep Ak (.keep Ak (.keep Ak (.keep Ak (.keep Ak (.keep Ak (.keep Ak (.keep (nK) (.keep Ak (.keep Ak (.nil)))))))))))) (fun j hj => ?_)
     refine bK (Γ' := [(98,_),(0,_),(3,_),(4,_),(5,_),(7,_),(11,_),(27,_),(28,_),(90,_),(91,_),(92,_),(97,_)]) (M' := [_,_,_,_,_,_,_,_,_,_,_]) Z Z ?_
     by_cases hj:j<r
     ·refine ah (aj (Al (sT S (aS Z Z)) (Ap (aa (ah (az Z (au (aa (ah ?_)))))))))
      refine ar (ah (aj (Am Z (An Z (Ap (aa (aZ 25 aV X Y (Al (ab Z) (Al (ak 0 Z Z Z) ?_)))))))))
      refine Am Z (Al (an Z Z S) (Al (aI 7 Z Z S) (Am Z (Al (ab Z) (Al (ak 0 Z Z Z) (Am Z (Al (an Z Z S) (Al (aI 7 Z Z S) (Am Z ?_)))))))))
      refine Al (an Z Z S) (Al (bd 8 Z Z (bC S) S) (Al (ak 2 Z Z Z) (Al (ab Z) (Al (ak 0 Z Z Z) (Am Z (Al (an Z Z S) (Al (aI 7 Z Z S) (Am Z (Al (an Z Z S) ?_)))))))))
      refine Al (bd 8 Z Z (bC S) S) ?_
      refine Al (am (ip _ _ (bA hmq) (jk hne hmU)) Z ⟨W,W,Aq⟩) ?_
      refine Al (am (lK _ _ (jj hmU) (lL hne hmq hmU)) Z ⟨W,W,Aq⟩) ?_
      refine Ap (Al (an Z Z S) ?_)
      (refine a9 8 Z Z Z (bC ?_) ?_ Z ?_;omega;omega)
      refine Ap (aD (aa (aj (Al (bn _ 1 Z Z S) (Am Z (Ap ?_))))))
      refine aJ (j+1) (hj) S Ah (.keep Ak (.keep Ak (.keep Ak (.keep Ak (.keep Ak (.keep Ak (.keep Ak (.keep Ak (.keep (qp hne) (.keep Ak (.keep Ak (.nil))))))))))))
     ·have he:j=r:=by omega
      subst he
      refine ah (aj (Al (sF S (aS Z Z)) (Ap (aa (ah (aA Z (aU (av (av ?_)))))))))
      refine aC (aD (aa (aj (Al (bn _ 1 Z Z S) (Am Z (Ap ?_))))))
      refine aJ (2) S S Ah (.drop (.keep Ak (.keep Ak (.keep Ak (.keep Ak (.keep Ak (.keep Ak (.keep Ak (.keep (nL) (.keep Ak (.keep Ak (.nil))))))))))))
    ·have hi2:i=2:=by omega
     subst hi2
     rw [if_pos (show 0<2 by omega),if_pos (show 1<2 by omega)]
     refine ah (aj (Al (sF S (aS Z Z)) (Ap (aa (ah (aA Z (aU (av (av ?_)))))))))
     refine aC (aa (ah (ah (aj (Am Z (Al (ao Z) (Al (ab Z) (Al (ab Z) (Al (aw 3 9 2 Z Z Z Z Z) ?_)))))))))
     refine Al (jx Z) (Am Z (Ap (aa (ar (bV (Γ' := [(0,_),(3,_),(4,_),(5,_),(7,_),(27,_),(28,_),(133,_),(134,_),(135,_)]) Ag (SubM.refl _) ?_)))))
     refine bv (σ:=Nat) (Γk := [(0,_),(3,_),(4,_),(5,_),(7,_),(27,_),(28,_),(133,_),(134,_)]) Ag (fun i => [(135,one (.int .i64 (i:Nat)))]) (fun i M0=>(M0.set 9 (bg r bsV (iw row k (M k col / M row col) i V)))) (fun i=>i≤r) (fun i=>r - i) (0) (Nat.zero_le _) Ah (.keep Ak (.keep Ak (.keep Ak (.keep Ak (.keep Ak (.keep Ak (.keep Ak (.keep Ak (.keep Ak (.keep Ak (.nil))))))))))) (fun i hi => ?_)
     refine bK (Γ' := [(135,_),(0,_),(3,_),(4,_),(5,_),(7,_),(27,_),(28,_),(133,_),(134,_)]) (M' := [_,_,_,_,_,_,_,_,_,_]) Z Z ?_
     by_cases hi:i<r
     ·refine ah (aj (Al (sT S (aS Z Z)) (Ap (aa (ah (az Z (au (aa (ah ?_)))))))))
      refine ar (ah (aj (Al (an Z Z S) (Al (aI 8 Z Z S) (An Z (Ap (aa (aZ 13 aV X Y (Am Z ?_)))))))))
      refine Am Z (Am Z (Am Z (Al (an Z Z S) (Al (bd 9 Z Z (bC S) S) (Al (ak 1 Z Z Z) (Am Z (Am Z (Al (an Z Z S) (Al (bd 9 Z Z (bC S) S) ?_)))))))))
      refine Al (am (ip _ _ (bA hmq) (jl hmV)) Z ⟨W,W,Aq⟩) ?_
      refine Al (am (oz _ _ (jl hmV) (su hmq hmV)) Z ⟨W,W,Aq⟩) ?_
      refine Ap (Al (an Z Z S) ?_)
      (refine a9 9 Z Z Z (bC ?_) ?_ Z ?_;omega;omega)
      refine Ap (aD (aa (aj (Al (bn _ 1 Z Z S) (Am Z (Ap ?_))))))
      refine aJ (i+1) (hi) S Ah (.keep Ak (.keep Ak (.keep Ak (.keep Ak (.keep Ak (.keep Ak (.keep Ak (.keep Ak (.keep Ak (.keep (va) (.nil)))))))))))
     ·have he:i=r:=by omega
      subst he
      refine ah (aj (Al (sF S (aS Z Z)) (Ap (aa (ah (aA Z (aU (av (av ?_)))))))))
      refine aC (aa (ah (aj (An Z (Ap (aa (aG (a6 (aB ?_)))))))))
      refine aB (a6 (aB (iC () Tryz.results69 (.tmp Z W) ?_)))
      exact .drop (.drop (.drop (.keep Ak (.keep Ak (.keep Ak (.keep Ak (.keep Ak (.keep Ak (.keep (u9 hblV) .nil)))))))))
  ·have h3 : ¬ de (M k col)=0:=fun e=>h4 (hz.1 e)
   have h5 : ¬ k<row:=by omega
   refine ah (aj (Al (sT S (aS Z Z)) (Ap (aa (ah (az Z (au (aa (ah ?_)))))))))
   refine ar (ah (aj (Am Z (An Z (Ap (aa (ah (aj (Am Z ?_)))))))))
   refine Al (ao Z) (Al (ab Z) (Al (ab Z) (Al (aw 0 3 2 Z Z Z Z Z) (Am Z (Al (an Z Z S) (Al (aI 1 Z Z S) (Am Z (Al (an Z Z S) (Al (bd 2 Z Z (bC S) S) ?_)))))))))
   refine aT (T:=55) Z (ltN Z) (fun b6 => ?_)
   refine aF 0 Z Z Z Z Z (leN Z) Z (Ap (aa (ah ?_)))
   refine dq aV X X ?_
   refine ux (fun B=>ak 0 Z Z Z) Z Z ?_
   refine ux (fun B=>ae Z) Z Z ?_
   refine ux (fun B=>ao Z) Z Z ?_
   refine ux (fun B=>ab Z) Z Z ?_
   refine ux (fun B=>ab Z) Z Z ?_
   refine ux (fun B=>aw 1 3 2 Z Z Z Z Z) Z Z ?_
   refine ux (fun B=>ae Z) Z Z ?_
   refine ux (fun B=>an Z Z S) Z Z ?_
   refine ux (fun B=>aI 2 Z Z S) Z Z ?_
   refine ux (fun B=>ae Z) Z Z ?_
   refine ux (fun B=>an Z Z S) Z Z ?_
   refine ux (fun B=>bd 3 Z Z (bC S) S) Z Z ?_
   refine uxk (hdm _) Z ⟨W,W,Aq⟩ Z ?_
   refine ux (fun B=>ae Z) Z Z ?_
   refine ux (fun B=>aN Z Z) Z Z ?_
   refine ux (fun B=>aN Z Z) Z Z ?_
   refine ux (fun B=>aN Z Z) Z Z ?_
   refine ua Z (ua Z (us Z (us Z ?_)))
   refine ux (fun B=>ai Z) Z Z ?_
   refine RunU.nil (fun γ => ?_)
   refine cG (M' := [_,_,_,_,_,_,_,_,_,_]) Z (aa (ah (ah (aj (Am Z (Am Z (Al (sF S (cj Z Z)) (Am Z (Ao (ae Z) ?_)))))))))
   refine Ao (ae Z) (Ao (sF S (aS Z Z)) (Ao (ae Z) (sn0 Z Z Z Z Z (sn0 Z Z Z Z Z (sn0 Z Z Z Z Z (Ao (ay Z Z) (Al (ay Z Z) (Am Z (Ao (ae Z) ?_)))))))))
   refine Ao (ae Z) (Ao (sT S (dS Z Z)) (Ao (ae Z) (Ao (ak 2 Z Z Z) ?_)))
   refine Ao (am (cw _) Z ⟨W,Aq⟩) ?_
   refine Ao (sF (by assumption) (cj Z Z)) (Ao (aE Z Z) (Al (ay Z Z) (Ap (aa (aA Z (au (aa (ah (ah ?_)))))))))
   refine aZ 11 aV X Y (Am Z (Al (ao Z) (Al (ab Z) (Al (ak 3 Z Z Z) (Am Z (Al (ao Z) (Al (ab Z) (Al (ak 3 Z Z Z) (stS Z Z Z Z ?_)))))))))
   refine PartsK.cons Z (PartsK.cons Z (PartsK.nil (Al (be Z) (Am Z (Ap (Ap (aa (ar ?_))))))))
   refine jN (t:=90) (ψ:=slT (.agg 3) 2 (fun q=>match q with | 0=>bG 3 [(0, .one,one (.int .i64 (r:Nat))),(1, .one,one (.int .i64 (c:Nat))),(2, .one,one (slV (some bo) r cap))] | _=>bG 3 [(0, .one,one (.int .i64 (r:Nat))),(1, .one,one (.int .i64 (r:Nat))),(2, .one,one (slV (some boU) r capU))])) Z (cL Z fun q hq=>match q,hq with | 0,_=>rfl | 1,_=>rfl) ?_
   refine bV (Γ' := [(0,_),(3,_),(4,_),(5,_),(7,_),(27,_),(28,_),(90,_),(91,_),(92,_)]) Ag (SubM.refl _) ?_
   refine bv (σ:=Nat) (Γk := [(0,_),(3,_),(4,_),(5,_),(7,_),(27,_),(28,_),(90,_),(91,_)]) Ag (fun i => [(92,one (.int .i64 (i:Nat)))]) (fun i M0=>((M0.set 5 (bg c bs (if 0<i then bW k row (M k col / M row col) M else M))).set 7 (bg r bsU (if 1<i then bW k row (M k col / M row col) U else U)))) (fun i=>i≤2) (fun i=>2 - i) (0) (Nat.zero_le _) Ah (.keep Ak (.keep Ak (.keep Ak (.keep Ak (.keep Ak (.keep Ak (.keep Ak (.keep Ak (.keep Ak (.keep Ak (.nil))))))))))) (fun i hi => ?_)
   refine bK (Γ' := [(92,_),(0,_),(3,_),(4,_),(5,_),(7,_),(27,_),(28,_),(90,_),(91,_)]) (M' := [_,_,_,_,_,_,_,_,_,_]) Z Z ?_
   by_cases hi0:i=0
   ·subst hi0
    rw [if_neg (show ¬ 0<0 by omega),if_neg (show ¬ 1<0 by omega)]
    refine ah (aj (Al (sT S (aS Z Z)) (Ap (aa (ah (az Z (au (aa (ah ?_)))))))))
    refine ar (ah (aj (Al (ax Z Z S) (Al (aH Z) ?_))))
    refine a7 (T:=29) Z Z Z (fun b11 => ?_)
    refine aW 0 Z Z Z Z (Ap (aa (ah (aj (Al (ab Z) (Al (ak 0 Z Z Z) (Am Z (Ap (aa ?_)))))))))
    refine ar (bV (Γ' := [(0,_),(3,_),(4,_),(5,_),(7,_),(11,_),(27,_),(28,_),(90,_),(91,_),(92,_),(97,_),(98,_)]) Ag (SubM.refl _) ?_)
    refine bv (σ:=Nat) (Γk := [(0,_),(3,_),(4,_),(5,_),(7,_),(11,_),(27,_),(28,_),(90,_),(91,_),(92,_),(97,_)]) Ag (fun j => [(98,one (.int .i64 (j:Nat)))]) (fun j M0=>(M0.set 6 (bg c bs (fv k row (M k col / M row col) j M)))) (fun j=>j≤c) (fun j=>c - j) (0) (Nat.zero_le _) Ah (.keep Ak (.keep Ak (.keep Ak (.keep Ak (.keep Ak (.keep Ak (.keep (nK) (.keep Ak (.keep Ak (.keep Ak (.keep Ak (.nil)))))))))))) (fun j hj => ?_)
    refine bK (Γ' := [(98,_),(0,_),(3,_),(4,_),(5,_),(7,_),(11,_),(27,_),(28,_),(90,_),(91,_),(92,_),(97,_)]) (M' := [_,_,_,_,_,_,_,_,_,_,_]) Z Z ?_
    by_cases hj:j<c
    ·refine ah (aj (Al (sT S (aS Z Z)) (Ap (aa (ah (az Z (au (aa (ah ?_)))))))))
     refine ar (ah (aj (Am Z (An Z (Ap (aa (aZ 25 aV X Y (Al (ab Z) (Al (ak 0 Z Z Z) ?_)))))))))
     refine Am Z (Al (an Z Z S) (Al (aI 5 Z Z S) (Am Z (Al (ab Z) (Al (ak 0 Z Z Z) (Am Z (Al (an Z Z S) (Al (aI 5 Z Z S) (Am Z ?_)))))))))
     refine Al (an Z Z S) (Al (bd 6 Z Z (bC S) S) (Al (ak 2 Z Z Z) (Al (ab Z) (Al (ak 0 Z Z Z) (Am Z (Al (an Z Z S) (Al (aI 5 Z Z S) (Am Z (Al (an Z Z S) ?_)))))))))
     refine Al (bd 6 Z Z (bC S) S) ?_
     refine Al (am (ip _ _ (bA hmq) (jk hne hmM)) Z ⟨W,W,Aq⟩) ?_
     refine Al (am (lK _ _ (jj hmM) (lL hne hmq hmM)) Z ⟨W,W,Aq⟩) ?_
     refine Ap (Al (an Z Z S) ?_)
     (refine a9 6 Z Z Z (bC ?_) ?_ Z ?_;omega;omega)
     refine Ap (aD (aa (aj (Al (bn _ 1 Z Z S) (Am Z (Ap ?_))))))
     refine aJ (j+1) (hj) S Ah (.keep Ak (.keep Ak (.keep Ak (.keep Ak (.keep Ak (.keep Ak (.keep (qp hne) (.keep Ak (.keep Ak (.keep Ak (.keep Ak (.nil))))))))))))
    ·have he:j=c:=by omega
     subst he
     refine ah (aj (Al (sF S (aS Z Z)) (Ap (aa (ah (aA Z (aU (av (av ?_)))))))))
     refine aC (aD (aa (aj (Al (bn _ 1 Z Z S) (Am Z (Ap ?_))))))
     refine aJ (1) S S Ah (.drop (.keep Ak (.keep Ak (.keep Ak (.keep Ak (.keep Ak (.keep (nL) (.keep Ak (.keep Ak (.keep Ak (.keep Ak (.nil))))))))))))
   ·by_cases hi1:i=1
    ·subst hi1
     rw [if_pos (show 0<1 by omega),if_neg (show ¬ 1<1 by omega)]
     refine ah (aj (Al (sT S (aS Z Z)) (Ap (aa (ah (az Z (au (aa (ah ?_)))))))))
     refine ar (ah (aj (Al (ax Z Z S) (Al (aH Z) ?_))))
     refine a7 (T:=29) Z Z Z (fun b11 => ?_)
     refine aW 0 Z Z Z Z (Ap (aa (ah (aj (Al (ab Z) (Al (ak 0 Z Z Z) (Am Z (Ap (aa ?_)))))))))
     refine ar (bV (Γ' := [(0,_),(3,_),(4,_),(5,_),(7,_),(11,_),(27,_),(28,_),(90,_),(91,_),(92,_),(97,_),(98,_)]) Ag (SubM.refl _) ?_)
     refine bv (σ:=Nat) (Γk := [(0,_),(3,_),(4,_),(5,_),(7,_),(11,_),(27,_),(28,_),(90,_),(91,_),(92,_),(97,_)]) Ag (fun j => [(98,one (.int .i64 (j:Nat)))]) (fun j M0=>(M0.set 8 (bg r bsU (fv k row (M k col / M row col) j U)))) (fun j=>j≤r) (fun j=>r - j) (0) (Nat.zero_le _) Ah (.keep Ak (.keep Ak (.keep Ak (.keep Ak (.keep Ak (.keep Ak (.keep Ak (.keep Ak (.keep (nK) (.keep Ak (.keep Ak (.nil)))))))))))) (fun j hj => ?_)
     refine bK (Γ' := [(98,_),(0,_),(3,_),(4,_),(5,_),(7,_),(11,_),(27,_),(28,_),(90,_),(91,_),(92,_),(97,_)]) (M' := [_,_,_,_,_,_,_,_,_,_,_]) Z Z ?_
     by_cases hj:j<r
     ·refine ah (aj (Al (sT S (aS Z Z)) (Ap (aa (ah (az Z (au (aa (ah ?_)))))))))
      refine ar (ah (aj (Am Z (An Z (Ap (aa (aZ 25 aV X Y (Al (ab Z) (Al (ak 0 Z Z Z) ?_)))))))))
      refine Am Z (Al (an Z Z S) (Al (aI 7 Z Z S) (Am Z (Al (ab Z) (Al (ak 0 Z Z Z) (Am Z (Al (an Z Z S) (Al (aI 7 Z Z S) (Am Z ?_)))))))))
      refine Al (an Z Z S) (Al (bd 8 Z Z (bC S) S) (Al (ak 2 Z Z Z) (Al (ab Z) (Al (ak 0 Z Z Z) (Am Z (Al (an Z Z S) (Al (aI 7 Z Z S) (Am Z (Al (an Z Z S) ?_)))))))))
      refine Al (bd 8 Z Z (bC S) S) ?_
      refine Al (am (ip _ _ (bA hmq) (jk hne hmU)) Z ⟨W,W,Aq⟩) ?_
      refine Al (am (lK _ _ (jj hmU) (lL hne hmq hmU)) Z ⟨W,W,Aq⟩) ?_
      refine Ap (Al (an Z Z S) ?_)
      (refine a9 8 Z Z Z (bC ?_) ?_ Z ?_;omega;omega)
      refine Ap (aD (aa (aj (Al (bn _ 1 Z Z S) (Am Z (Ap ?_))))))
      refine aJ (j+1) (hj) S Ah (.keep Ak (.keep Ak (.keep Ak (.keep Ak (.keep Ak (.keep Ak (.keep Ak (.keep Ak (.keep (qp hne) (.keep Ak (.keep Ak (.nil))))))))))))
     ·have he:j=r:=by omega
      subst he
      refine ah (aj (Al (sF S (aS Z Z)) (Ap (aa (ah (aA Z (aU (av (av ?_)))))))))
      refine aC (aD (aa (aj (Al (bn _ 1 Z Z S) (Am Z (Ap ?_))))))
      refine aJ (2) S S Ah (.drop (.keep Ak (.keep Ak (.keep Ak (.keep Ak (.keep Ak (.keep Ak (.keep Ak (.keep (nL) (.keep Ak (.keep Ak (.nil))))))))))))
    ·have hi2:i=2:=by omega
     subst hi2
     rw [if_pos (show 0<2 by omega),if_pos (show 1<2 by omega)]
     refine ah (aj (Al (sF S (aS Z Z)) (Ap (aa (ah (aA Z (aU (av (av ?_)))))))))
     refine aC (aa (ah (ah (aj (Am Z (Al (ao Z) (Al (ab Z) (Al (ab Z) (Al (aw 3 9 2 Z Z Z Z Z) ?_)))))))))
     refine Al (jx Z) (Am Z (Ap (aa (ar (bV (Γ' := [(0,_),(3,_),(4,_),(5,_),(7,_),(27,_),(28,_),(133,_),(134,_),(135,_)]) Ag (SubM.refl _) ?_)))))
     refine bv (σ:=Nat) (Γk := [(0,_),(3,_),(4,_),(5,_),(7,_),(27,_),(28,_),(133,_),(134,_)]) Ag (fun i => [(135,one (.int .i64 (i:Nat)))]) (fun i M0=>(M0.set 9 (bg r bsV (iw row k (M k col / M row col) i V)))) (fun i=>i≤r) (fun i=>r - i) (0) (Nat.zero_le _) Ah (.keep Ak (.keep Ak (.keep Ak (.keep Ak (.keep Ak (.keep Ak (.keep Ak (.keep Ak (.keep Ak (.keep Ak (.nil))))))))))) (fun i hi => ?_)
     refine bK (Γ' := [(135,_),(0,_),(3,_),(4,_),(5,_),(7,_),(27,_),(28,_),(133,_),(134,_)]) (M' := [_,_,_,_,_,_,_,_,_,_]) Z Z ?_
     by_cases hi:i<r
     ·refine ah (aj (Al (sT S (aS Z Z)) (Ap (aa (ah (az Z (au (aa (ah ?_)))))))))
      refine ar (ah (aj (Al (an Z Z S) (Al (aI 8 Z Z S) (An Z (Ap (aa (aZ 13 aV X Y (Am Z ?_)))))))))
      refine Am Z (Am Z (Am Z (Al (an Z Z S) (Al (bd 9 Z Z (bC S) S) (Al (ak 1 Z Z Z) (Am Z (Am Z (Al (an Z Z S) (Al (bd 9 Z Z (bC S) S) ?_)))))))))
      refine Al (am (ip _ _ (bA hmq) (jl hmV)) Z ⟨W,W,Aq⟩) ?_
      refine Al (am (oz _ _ (jl hmV) (su hmq hmV)) Z ⟨W,W,Aq⟩) ?_
      refine Ap (Al (an Z Z S) ?_)
      (refine a9 9 Z Z Z (bC ?_) ?_ Z ?_;omega;omega)
      refine Ap (aD (aa (aj (Al (bn _ 1 Z Z S) (Am Z (Ap ?_))))))
      refine aJ (i+1) (hi) S Ah (.keep Ak (.keep Ak (.keep Ak (.keep Ak (.keep Ak (.keep Ak (.keep Ak (.keep Ak (.keep Ak (.keep (va) (.nil)))))))))))
     ·have he:i=r:=by omega
      subst he
      refine ah (aj (Al (sF S (aS Z Z)) (Ap (aa (ah (aA Z (aU (av (av ?_)))))))))
      refine aC (aa (ah (aj (An Z (Ap (aa (aG (a6 (aB ?_)))))))))
      refine aB (a6 (aB (iC () Tryz.results69 (.tmp Z W) ?_)))
      exact .drop (.drop (.drop (.keep Ak (.keep Ak (.keep Ak (.keep Ak (.keep Ak (.keep Ak (.keep (u9 hblV) .nil)))))))))
end Tor
end
section
namespace Tor
open Go Go.RowKit Go.Proofs
def fT (i k:Nat) (bs:List Nat):List Nat:=(bs.set i (bs.getD k 0)).set k (bs.getD i 0)
theorem vb {i k:Nat} {bs:List Nat} : (fT i k bs).length=bs.length:=by simp [fT]
theorem qr {i k q:Nat} {bs:List Nat} (hi:i<bs.length) (hk:k<bs.length) (hne:i≠k):(fT i k bs).getD q 0=swp i k (fun q=>bs.getD q 0) q:=by
 unfold fT swp
 rw [dA (by simpa using hk),dA hi]
 by_cases h1:q=k
 ·subst h1;rw [if_pos Z,if_neg (fun e=>hne e.symm),if_pos Z]
 ·rw [if_neg h1]
  by_cases h2:q=i
  ·rw [if_pos h2,if_pos h2]
  ·rw [if_neg h2,if_neg h2,if_neg h1]
theorem tI {i k:Nat} {bs:List Nat} (hi:i<bs.length) (hk:k<bs.length):(fT i k bs).Perm bs:=by
 have e1:bs.getD k 0=bs[k]:=by simp [List.getD,hk]
 have e2:bs.getD i 0=bs[i]:=by simp [List.getD,hi]
 unfold fT
 rw [e1,e2]
 exact List.set_set_perm hi hk
theorem ve {T:TypeId} {L:Lay} {c i k:Nat} {bs:List Nat} {φ:Nat→Nat→VT} {M:Mem} (hi:i<bs.length) (hk:k<bs.length) (hne:i≠k):ConvM (bX T L c bs φ :: M) (bX T L c (fT i k bs) (swp i k φ) :: M) :=
 ⟨(tI hi hk).symm.append_right _,fun g h Ae o ho=>by
  rcases List.mem_cons.1 ho with rfl | ho
  ·have H0:=Ae _ List.mem_cons_self
   intro q b hq
   have hql:q<(fT i k bs).length:=(List.getElem?_eq_some_iff.1 hq).1
   have hql2:q<bs.length:=by rwa [vb] at hql
   have e0:(fT i k bs).getD q 0=b:=by simp [List.getD,hq]
   rw [qr hi hk hne] at e0
   have get : ∀ j,j<bs.length→bs[j]? = some (bs.getD j 0):=fun j hj=>by simp [List.getD,hj]
   unfold swp at e0 ⊢
   by_cases h1:q=i
   ·rw [if_pos h1] at e0 ⊢; exact H0 k b ((get k hk).trans (congrArg some e0))
   ·rw [if_neg h1] at e0 ⊢
    by_cases h2:q=k
    ·rw [if_pos h2] at e0 ⊢; exact H0 i b ((get i hi).trans (congrArg some e0))
    ·rw [if_neg h2] at e0 ⊢; exact H0 q b ((get q hql2).trans (congrArg some e0))
  ·exact Ae o (List.mem_cons_of_mem _ ho)⟩
theorem jm {c i k:Nat} {bs:List Nat} {F:Nat→Nat→Int} {M:Mem} (hi:i<bs.length) (hk:k<bs.length) (hne:i≠k):ConvM (bg c bs F :: M) (bg c (fT i k bs) (swp i k F) :: M) :=
 (ve hi hk hne).trans (ConvM.le (dM fun q j _ _=>by unfold swp;split;rfl;split <;> rfl))
theorem kv {bo cap r c i k:Nat} {bs:List Nat} (hi:i<bs.length) (hk:k<bs.length) (hne:i≠k) :
  Own.le (a8 (some bo) 57 .one cap r (upd (upd (fun q=>one (slV (some (bs.getD q 0)) c c)) i (one (slV (some (bs.getD k 0)) c c))) k (one (slV (some (bs.getD i 0)) c c)))) (bO (some bo) cap r c (fT i k bs)):=cy fun q _=>by
 rw [qr hi hk hne]
 unfold upd swp
 by_cases h1:q=k
 ·subst h1;rw [if_pos Z,if_neg (fun e=>hne e.symm),if_pos Z]
 ·rw [if_neg h1]
  by_cases h2:q=i
  ·rw [if_pos h2,if_pos h2]
  ·rw [if_neg h2,if_neg h2,if_neg h1]
def k9 (i r j:Nat) (F:Nat→Nat→Int):Nat→Nat→Int:=fun a=>if a<j then swp i r (F a) else F a
theorem vf {c i r n:Nat} {bs:List Nat} {F:Nat→Nat→Int} (hb:bs.length=n):Own.le (bg c bs (k9 i r n F)) (bg c bs (gP i r F)):=du fun a b ha _=>by
 subst hb
 unfold k9 gP;rw [if_pos ha]
theorem vg {c i r a:Nat} {bs:List Nat} {F:Nat→Nat→Int} (hne:i≠r):Own.le (bX 55 (.agg 2) c bs (eO (eO (fun q k=>bm (k9 i r a F q k)) a i (bm (k9 i r a F a r))) a r (bm (k9 i r a F a i)))) (bg c bs (k9 i r (a+1) F)):=dM fun q k _ _=>by
 have e : ∀ b,k9 i r a F a b=F a b:=fun b=>by unfold k9;rw [if_neg S]
 rw [e,e]
 unfold eO
 dsimp only
 by_cases h:q=a
 ·subst h
  have e2:k9 i r (q+1) F q k=swp i r (F q) k:=by unfold k9;rw [if_pos S]
  rw [e2,e]
  unfold swp
  by_cases h1:k=r
  ·subst h1;rw [if_pos ⟨rfl,rfl⟩,if_neg (fun e=>hne e.symm),if_pos Z]
  ·rw [if_neg (fun e=>h1 e.2)]
   by_cases h2:k=i
   ·rw [if_pos ⟨rfl,h2⟩,if_pos h2]
   ·rw [if_neg (fun e=>h2 e.2),if_neg h2,if_neg h1]
 ·rw [if_neg (fun e=>h e.1),if_neg (fun e=>h e.1)]
  unfold k9
  have h3:q<a+1↔q<a:=by omega
  simp only [h3]
def kw (x:Nat→Int) (r j:Nat):Int:=if c9 x r j<0 then 0 else ((x (c9 x r j).toNat).natAbs:Int)
theorem ky {x:Nat→Int} {r j:Nat} (h:x (r+j)≠0∧(c9 x r j<0∨(x (r+j)).natAbs<(x (c9 x r j).toNat).natAbs)):c9 x r (j+1)=((r+j:Nat):Int):=by rw [c9,if_pos h]
theorem kz {x:Nat→Int} {r j:Nat} (h : ¬ (x (r+j)≠0∧(c9 x r j<0∨(x (r+j)).natAbs<(x (c9 x r j).toNat).natAbs))):c9 x r (j+1)=c9 x r j:=by rw [c9,if_neg h]
theorem mL {b:Nat} {x:Nat→Int} {r:Nat} : Own.le (aX b 55 (Lay.agg 2).sz [(0,Lay.agg 2,one (Value.agg #[Value.bool false,Value.slice none 0 0]))]) (aX b 55 2 [(0, .agg 2,bm (kw x r 0))]):=vD fun q hq=>by
 cases List.mem_singleton.1 hq
 exact ⟨_,List.mem_singleton.2 Z,iS⟩
theorem gA {b:Nat} {x y:Int} (h:x=y):Own.le (aX b 55 2 [(0, .agg 2,bm x)]) (aX b 55 2 [(0, .agg 2,bm y)]):=by rw [h]; exact Own.le_refl _
theorem jn {x:Nat→Int} {r j:Nat} (h:c9 x r (j+1)=((r+j:Nat):Int)):((x (r+j)).natAbs:Int)=kw x r (j+1):=by unfold kw;rw [h,if_neg S,Int.toNat_natCast]
theorem jo {x:Nat→Int} {r j:Nat} (h:c9 x r (j+1)=c9 x r j):kw x r j=kw x r (j+1):=by unfold kw;rw [h]
theorem lN {x:Nat→Int} {r j n:Nat} (hL : ¬ c9 x r j<0):ev (n:Int) (kw x r j)<0↔n<(x (c9 x r j).toNat).natAbs:=by
 unfold ev kw
 rw [if_neg hL]
 constructor
 ·intro h
  by_cases h2:(n:Int)<((x (c9 x r j).toNat).natAbs:Int)
  ·omega
  ·rw [if_neg h2] at h
   split at h <;> cases h
 ·intro h
  rw [if_pos S]; decide
attribute [local irreducible] J PJ aQ one slT cA bG bZ exT cE eP aX a8 slV VT.le Ret bS
attribute [local irreducible] bX bm
theorem oY (b r c:Nat) (A:VT) [hA:Flat A (.agg 3)] (sM sU sV:S3) (M U V:Nat→Nat→Int) (row col:Nat) (d:VT) [hd:Flat d .one] (hr:r≤1048576) (hc:c≤1048576) (hM:ok3 r sM) (hrow:row<r) (hcol:col<c) (hmM : ∀ i j,cx (M i j)) (h0:c9 (fun i=>M i col) row (r - row)=row) :
  OkI Tryz.prog 67 [one (.pointer (some ⟨b,0,none⟩))] (ei b r c A sM sU sV M U V row col d)
   (fun _:Unit=>one (.bool false)) (fun _=>ei b r c A sM sU sV M U V row col d):=by
 obtain ⟨bs,bo,cap,rfl,hbl⟩:=hM.some S
 unfold ei bF
 dsimp only at hbl ⊢
 refine OkI.enter Tryz.func67 Z Tryz.ntmps67 Z (fun w O => ?_)
 refine ah (aj (An Z (Ap (aa (ah (aj (Am Z (Al (ao Z) (Al (ab Z) ?_)))))))))
 refine Al (ak 0 Z Z Z) (An Z (Ap (aa (ah (aj (An Z (Ap (aa (ah ?_)))))))))
 refine aj ?_
 refine aT (T:=55) Z (ltN Z) (fun b5 => ?_)
 refine Ap (aa (ah (ah (aj (Am Z (An Z (Ap (aa (ar ?_)))))))))
 refine bV (Γ' := [(0,_),(2,_),(3,_),(4,_),(5,_),(6,_)]) Ag (SubM.refl _) ?_
 refine bv (σ:=Nat) (Γk := [(0,_),(2,_),(3,_),(5,_)]) Ag (fun j => [(6,one (.int .i64 ((row+j:Nat):Int))),(4,one (.int .i64 (c9 (fun i=>M i col) row j)))]) (fun j M0=>(M0.set 0 (aX b5 55 2 [(0, .agg 2,bm (kw (fun i=>M i col) row j))]))) (fun j=>j≤r - row) (fun j=>r - row - j) (0) (Nat.zero_le _) Ah (.keep (mL) (.keep Ak (.keep Ak (.keep Ak (.keep Ak (.keep Ak (.keep Ak (.keep Ak (.nil))))))))) (fun j hj => ?_)
 refine bK (Γ' := [(6,_),(4,_),(0,_),(2,_),(3,_),(5,_)]) (M' := [_,_,_,_,_,_,_,_]) Z Z ?_
 by_cases hj:j<r - row
 ·have hjr:row+j<r:=by omega
  have hab:=r7 (M (row+j) col) (bA (hmM _ _))
  by_cases hx:M (row+j) col=0
  ·have hs1:de ((M (row+j) col).natAbs:Int)=0:=(cI _).2 S
   have hk:=kz (x:=fun i=>M i col) (r:=row) (j:=j) (fun h=>h.1 hx)
   refine ah (ah (aj (Am Z (Am Z (Al (ao Z) (Al (ab Z) (Al (ab Z) (Al (aw 1 3 0 Z Z Z Z Z) (Al (sT S (aS Z Z)) ?_)))))))))
   refine Ap (aa (az Z (au (aa (ah (ar (ah ?_)))))))
   refine dq aV X X ?_
   refine ux (fun B=>ae Z) Z Z ?_
   refine ux (fun B=>ao Z) Z Z ?_
   refine ux (fun B=>ab Z) Z Z ?_
   refine ux (fun B=>ab Z) Z Z ?_
   refine ux (fun B=>aw 1 3 2 Z Z Z Z Z) Z Z ?_
   refine ux (fun B=>ae Z) Z Z ?_
   refine ux (fun B=>an Z Z S) Z Z ?_
   refine ux (fun B=>aI 2 Z Z S) Z Z ?_
   refine ux (fun B=>ae Z) Z Z ?_
   refine ux (fun B=>ao Z) Z Z ?_
   refine ux (fun B=>ab Z) Z Z ?_
   refine ux (fun B=>ak 1 Z Z Z) Z Z ?_
   refine ux (fun B=>an Z Z S) Z Z ?_
   refine ux (fun B=>bd 3 Z Z (bC S) S) Z Z ?_
   refine uxk (hab) Z ⟨W,Aq⟩ Z ?_
   refine ua Z (us Z ?_)
   refine RunU.nil (fun γ => ?_)
   refine cG (M' := [_,_,_,_,_,_,_,_,_]) Z (aa (ah (aj (Al (ak 0 Z Z Z) ?_))))
   refine Al (am (cw _) Z ⟨W,Aq⟩) ?_
   refine Al (sF S (dy Z Z)) (Am Z (sn0 Z Z Z Z Z (sn0 Z Z Z Z Z (sn0 Z Z Z Z Z (snU Z Z Z Z (snU Z Z Z Z (snU Z Z Z Z (snU Z Z Z Z (sn0 Z Z Z Z Z ?_)))))))))
   refine Al (ay Z Z) (Ap (aa (aA Z (au (aD (aa (aj (Am Z (Al (bn _ 1 Z Z S) ?_)))))))))
   refine An Z (Ap ?_)
   refine aJ (j+1) (hj) S Ah (.drop (.keep (gA (jo hk)) (.keep Ak (.keep Ak (.keep Ak (.keep Ak (.keep Ak (.keep Ak (.keep Ak (.nil))))))))))
  ·have hs1 : ¬ de ((M (row+j) col).natAbs:Int)=0:=fun e=>hx (by have:=(cI _).1 e;omega)
   by_cases hL:c9 (fun i=>M i col) row j<0
   ·have hk:=ky (x:=fun i=>M i col) (r:=row) (j:=j) ⟨hx, .inl hL⟩
    refine ah (ah (aj (Am Z (Am Z (Al (ao Z) (Al (ab Z) (Al (ab Z) (Al (aw 1 3 0 Z Z Z Z Z) (Al (sT S (aS Z Z)) ?_)))))))))
    refine Ap (aa (az Z (au (aa (ah (ar (ah ?_)))))))
    refine dq aV X X ?_
    refine ux (fun B=>ae Z) Z Z ?_
    refine ux (fun B=>ao Z) Z Z ?_
    refine ux (fun B=>ab Z) Z Z ?_
    refine ux (fun B=>ab Z) Z Z ?_
    refine ux (fun B=>aw 1 3 2 Z Z Z Z Z) Z Z ?_
    refine ux (fun B=>ae Z) Z Z ?_
    refine ux (fun B=>an Z Z S) Z Z ?_
    refine ux (fun B=>aI 2 Z Z S) Z Z ?_
    refine ux (fun B=>ae Z) Z Z ?_
    refine ux (fun B=>ao Z) Z Z ?_
    refine ux (fun B=>ab Z) Z Z ?_
    refine ux (fun B=>ak 1 Z Z Z) Z Z ?_
    refine ux (fun B=>an Z Z S) Z Z ?_
    refine ux (fun B=>bd 3 Z Z (bC S) S) Z Z ?_
    refine uxk (hab) Z ⟨W,Aq⟩ Z ?_
    refine ua Z (us Z ?_)
    refine RunU.nil (fun γ => ?_)
    refine cG (M' := [_,_,_,_,_,_,_,_,_]) Z (aa (ah (aj (Al (ak 0 Z Z Z) ?_))))
    refine Al (am (cw _) Z ⟨W,Aq⟩) ?_
    refine Al (sT (by assumption) (dy Z Z)) (Am Z (Ao (ae Z) (Ao (sT (by assumption) (aS Z Z)) (Ao (ae Z) (sn0 Z Z Z Z Z (sn0 Z Z Z Z Z (sn0 Z Z Z Z Z (sn0 Z Z Z Z Z (Ao (aE Z Z) ?_)))))))))
    refine Al (aE Z Z) (Ap (aa (az Z (aZ 3 aV X Y (Am Z (Al (ak 0 Z Z Z) (An Z (Ap (aF 1 Z Z Z Z Z (leN Z) Z ?_)))))))))
    refine Ap (aD (aa (aj (Am Z (Al (bn _ 1 Z Z S) (An Z (Ap ?_)))))))
    refine aJ (j+1) (hj) S Ah (.drop (.keep (gA (jn (x:=fun i=>M i col) hk)) (.keep Ak (.keep Ak (.keep Ak (.keep Ak (.keep Ak (.keep Ak (.keep Ak (.nil))))))))))
   ·by_cases hl:(M (row+j) col).natAbs<(M (c9 (fun i=>M i col) row j).toNat col).natAbs
    ·have hk:=ky (x:=fun i=>M i col) (r:=row) (j:=j) ⟨hx, .inr hl⟩
     have hcm:ev ((M (row+j) col).natAbs:Int) (kw (fun i=>M i col) row j)<0:=(lN (x:=fun i=>M i col) hL).2 hl
     refine ah (ah (aj (Am Z (Am Z (Al (ao Z) (Al (ab Z) (Al (ab Z) (Al (aw 1 3 0 Z Z Z Z Z) (Al (sT S (aS Z Z)) ?_)))))))))
     refine Ap (aa (az Z (au (aa (ah (ar (ah ?_)))))))
     refine dq aV X X ?_
     refine ux (fun B=>ae Z) Z Z ?_
     refine ux (fun B=>ao Z) Z Z ?_
     refine ux (fun B=>ab Z) Z Z ?_
     refine ux (fun B=>ab Z) Z Z ?_
     refine ux (fun B=>aw 1 3 2 Z Z Z Z Z) Z Z ?_
     refine ux (fun B=>ae Z) Z Z ?_
     refine ux (fun B=>an Z Z S) Z Z ?_
     refine ux (fun B=>aI 2 Z Z S) Z Z ?_
     refine ux (fun B=>ae Z) Z Z ?_
     refine ux (fun B=>ao Z) Z Z ?_
     refine ux (fun B=>ab Z) Z Z ?_
     refine ux (fun B=>ak 1 Z Z Z) Z Z ?_
     refine ux (fun B=>an Z Z S) Z Z ?_
     refine ux (fun B=>bd 3 Z Z (bC S) S) Z Z ?_
     refine uxk (hab) Z ⟨W,Aq⟩ Z ?_
     refine ua Z (us Z ?_)
     refine RunU.nil (fun γ => ?_)
     refine cG (M' := [_,_,_,_,_,_,_,_,_]) Z (aa (ah (aj (Al (ak 0 Z Z Z) ?_))))
     refine Al (am (cw _) Z ⟨W,Aq⟩) ?_
     refine Al (sT (by assumption) (dy Z Z)) (Am Z (Ao (ae Z) (Ao (sF (by assumption) (aS Z Z)) (Ao (ae Z) (Ao (ak 0 Z Z Z) (Ao (ak 1 Z Z Z) ?_))))))
     refine Ao (am (iq _ _) Z ⟨W,W,Aq⟩) ?_
     refine Ao (sT (by assumption) (aS Z Z)) (Ao (ay Z Z) (Al (aE Z Z) (Ap (aa (az Z (aZ 3 aV X Y (Am Z (Al (ak 0 Z Z Z) (An Z ?_)))))))))
     refine Ap (aF 1 Z Z Z Z Z (leN Z) Z (Ap (aD (aa (aj (Am Z (Al (bn _ 1 Z Z S) (An Z (Ap ?_)))))))))
     refine aJ (j+1) (hj) S Ah (.drop (.keep (gA (jn (x:=fun i=>M i col) hk)) (.keep Ak (.keep Ak (.keep Ak (.keep Ak (.keep Ak (.keep Ak (.keep Ak (.nil))))))))))
    ·have hk:=kz (x:=fun i=>M i col) (r:=row) (j:=j) (fun h=>h.2.elim hL hl)
     have hcm : ¬ ev ((M (row+j) col).natAbs:Int) (kw (fun i=>M i col) row j)<0:=fun h=>hl ((lN (x:=fun i=>M i col) hL).1 h)
     refine ah (ah (aj (Am Z (Am Z (Al (ao Z) (Al (ab Z) (Al (ab Z) (Al (aw 1 3 0 Z Z Z Z Z) (Al (sT S (aS Z Z)) ?_)))))))))
     refine Ap (aa (az Z (au (aa (ah (ar (ah ?_)))))))
     refine dq aV X X ?_
     refine ux (fun B=>ae Z) Z Z ?_
     refine ux (fun B=>ao Z) Z Z ?_
     refine ux (fun B=>ab Z) Z Z ?_
     refine ux (fun B=>ab Z) Z Z ?_
     refine ux (fun B=>aw 1 3 2 Z Z Z Z Z) Z Z ?_
     refine ux (fun B=>ae Z) Z Z ?_
     refine ux (fun B=>an Z Z S) Z Z ?_
     refine ux (fun B=>aI 2 Z Z S) Z Z ?_
     refine ux (fun B=>ae Z) Z Z ?_
     refine ux (fun B=>ao Z) Z Z ?_
     refine ux (fun B=>ab Z) Z Z ?_
     refine ux (fun B=>ak 1 Z Z Z) Z Z ?_
     refine ux (fun B=>an Z Z S) Z Z ?_
     refine ux (fun B=>bd 3 Z Z (bC S) S) Z Z ?_
     refine uxk (hab) Z ⟨W,Aq⟩ Z ?_
     refine ua Z (us Z ?_)
     refine RunU.nil (fun γ => ?_)
     refine cG (M' := [_,_,_,_,_,_,_,_,_]) Z (aa (ah (aj (Al (ak 0 Z Z Z) ?_))))
     refine Al (am (cw _) Z ⟨W,Aq⟩) ?_
     refine Al (sT (by assumption) (dy Z Z)) (Am Z (Ao (ae Z) (Ao (sF (by assumption) (aS Z Z)) (Ao (ae Z) (Ao (ak 0 Z Z Z) (Ao (ak 1 Z Z Z) ?_))))))
     refine Ao (am (iq _ _) Z ⟨W,W,Aq⟩) ?_
     refine Ao (sF (by assumption) (aS Z Z)) (Ao (ay Z Z) (Al (aE Z Z) (Ap (aa (aA Z (au (aD (aa (aj ?_)))))))))
     refine Am Z (Al (bn _ 1 Z Z S) (An Z (Ap ?_)))
     refine aJ (j+1) (hj) S Ah (.drop (.keep (gA (jo hk)) (.keep Ak (.keep Ak (.keep Ak (.keep Ak (.keep Ak (.keep Ak (.keep Ak (.nil))))))))))
 ·have hje:j=r - row:=by omega
  subst hje
  rw [h0]
  refine ah (ah (aj (Am Z (Am Z (Al (ao Z) (Al (ab Z) (Al (ab Z) (Al (aw 1 3 0 Z Z Z Z Z) (Al (sF S (aS Z Z)) ?_)))))))))
  refine Ap (aa (aA Z (aU (av (av (aC (aa (ah (ah ?_)))))))))
  refine aj (Am Z (Am Z (Al (sT S (cj Z Z)) (Ap (aa (az Z (ah (aj (An Z ?_)))))))))
  refine Ap (aa (aG (aB (iC () Tryz.results67 (.tmp Z W) ?_))))
  exact .drop (SubM.refl _)
theorem qs (b r c:Nat) (A:VT) [hA:Flat A (.agg 3)] (sM sU sV:S3) (M U V:Nat→Nat→Int) (row col:Nat) (d:VT) [hd:Flat d .one] (hr:r≤1048576) (hc:c≤1048576) (hM:ok3 r sM) (hU:ok3 r sU) (hV:ok3 r sV) (hrow:row<r) (hcol:col<c) (hmM : ∀ i j,cx (M i j)) (i:Nat) (hir:i<r) (hne:i≠row) (h0:c9 (fun i=>M i col) row (r - row)=i) :
  OkI Tryz.prog 67 [one (.pointer (some ⟨b,0,none⟩))] (ei b r c A sM sU sV M U V row col d)
   (fun _:Unit=>one (.bool true)) (fun _=>ei b r c A (fT i row sM.1,sM.2) (fT i row sU.1,sU.2) sV (swp i row M) (swp i row U) (gP i row V) row col d):=by
 obtain ⟨bs,bo,cap,rfl,hbl⟩:=hM.some S
 obtain ⟨bsU,boU,capU,rfl,hblU⟩:=hU.some S
 obtain ⟨bsV,boV,capV,rfl,hblV⟩:=hV.some S
 have hni : ¬ (i:Int)=(row:Int):=by omega
 unfold ei bF
 dsimp only at hbl hblU hblV ⊢
 refine OkI.enter Tryz.func67 Z Tryz.ntmps67 Z (fun w O => ?_)
 refine ah (aj (An Z (Ap (aa (ah (aj (Am Z (Al (ao Z) (Al (ab Z) ?_)))))))))
 refine Al (ak 0 Z Z Z) (An Z (Ap (aa (ah (aj (An Z (Ap (aa (ah ?_)))))))))
 refine aj ?_
 refine aT (T:=55) Z (ltN Z) (fun b5 => ?_)
 refine Ap (aa (ah (ah (aj (Am Z (An Z (Ap (aa (ar ?_)))))))))
 refine bV (Γ' := [(0,_),(2,_),(3,_),(4,_),(5,_),(6,_)]) Ag (SubM.refl _) ?_
 refine bv (σ:=Nat) (Γk := [(0,_),(2,_),(3,_),(5,_)]) Ag (fun j => [(6,one (.int .i64 ((row+j:Nat):Int))),(4,one (.int .i64 (c9 (fun i=>M i col) row j)))]) (fun j M0=>(M0.set 0 (aX b5 55 2 [(0, .agg 2,bm (kw (fun i=>M i col) row j))]))) (fun j=>j≤r - row) (fun j=>r - row - j) (0) (Nat.zero_le _) Ah (.keep (mL) (.keep Ak (.keep Ak (.keep Ak (.keep Ak (.keep Ak (.keep Ak (.keep Ak (.nil))))))))) (fun j hj => ?_)
 refine bK (Γ' := [(6,_),(4,_),(0,_),(2,_),(3,_),(5,_)]) (M' := [_,_,_,_,_,_,_,_]) Z Z ?_
 by_cases hj:j<r - row
 ·have hjr:row+j<r:=by omega
  have hab:=r7 (M (row+j) col) (bA (hmM _ _))
  by_cases hx:M (row+j) col=0
  ·have hs1:de ((M (row+j) col).natAbs:Int)=0:=(cI _).2 S
   have hk:=kz (x:=fun i=>M i col) (r:=row) (j:=j) (fun h=>h.1 hx)
   refine ah (ah (aj (Am Z (Am Z (Al (ao Z) (Al (ab Z) (Al (ab Z) (Al (aw 1 3 0 Z Z Z Z Z) (Al (sT S (aS Z Z)) ?_)))))))))
   refine Ap (aa (az Z (au (aa (ah (ar (ah ?_)))))))
   refine dq aV X X ?_
   refine ux (fun B=>ae Z) Z Z ?_
   refine ux (fun B=>ao Z) Z Z ?_
   refine ux (fun B=>ab Z) Z Z ?_
   refine ux (fun B=>ab Z) Z Z ?_
   refine ux (fun B=>aw 1 3 2 Z Z Z Z Z) Z Z ?_
   refine ux (fun B=>ae Z) Z Z ?_
   refine ux (fun B=>an Z Z S) Z Z ?_
   refine ux (fun B=>aI 2 Z Z S) Z Z ?_
   refine ux (fun B=>ae Z) Z Z ?_
   refine ux (fun B=>ao Z) Z Z ?_
   refine ux (fun B=>ab Z) Z Z ?_
   refine ux (fun B=>ak 1 Z Z Z) Z Z ?_
   refine ux (fun B=>an Z Z S) Z Z ?_
   refine ux (fun B=>bd 3 Z Z (bC S) S) Z Z ?_
   refine uxk (hab) Z ⟨W,Aq⟩ Z ?_
   refine ua Z (us Z ?_)
   refine RunU.nil (fun γ => ?_)
   refine cG (M' := [_,_,_,_,_,_,_,_,_]) Z (aa (ah (aj (Al (ak 0 Z Z Z) ?_))))
   refine Al (am (cw _) Z ⟨W,Aq⟩) ?_
   refine Al (sF S (dy Z Z)) (Am Z (sn0 Z Z Z Z Z (sn0 Z Z Z Z Z (sn0 Z Z Z Z Z (snU Z Z Z Z (snU Z Z Z Z (snU Z Z Z Z (snU Z Z Z Z (sn0 Z Z Z Z Z ?_)))))))))
   refine Al (ay Z Z) (Ap (aa (aA Z (au (aD (aa (aj (Am Z (Al (bn _ 1 Z Z S) ?_)))))))))
   refine An Z (Ap ?_)
   refine aJ (j+1) (hj) S Ah (.drop (.keep (gA (jo hk)) (.keep Ak (.keep Ak (.keep Ak (.keep Ak (.keep Ak (.keep Ak (.keep Ak (.nil))))))))))
  ·have hs1 : ¬ de ((M (row+j) col).natAbs:Int)=0:=fun e=>hx (by have:=(cI _).1 e;omega)
   by_cases hL:c9 (fun i=>M i col) row j<0
   ·have hk:=ky (x:=fun i=>M i col) (r:=row) (j:=j) ⟨hx, .inl hL⟩
    refine ah (ah (aj (Am Z (Am Z (Al (ao Z) (Al (ab Z) (Al (ab Z) (Al (aw 1 3 0 Z Z Z Z Z) (Al (sT S (aS Z Z)) ?_)))))))))
    refine Ap (aa (az Z (au (aa (ah (ar (ah ?_)))))))
    refine dq aV X X ?_
    refine ux (fun B=>ae Z) Z Z ?_
    refine ux (fun B=>ao Z) Z Z ?_
    refine ux (fun B=>ab Z) Z Z ?_
    refine ux (fun B=>ab Z) Z Z ?_
    refine ux (fun B=>aw 1 3 2 Z Z Z Z Z) Z Z ?_
    refine ux (fun B=>ae Z) Z Z ?_
    refine ux (fun B=>an Z Z S) Z Z ?_
    refine ux (fun B=>aI 2 Z Z S) Z Z ?_
    refine ux (fun B=>ae Z) Z Z ?_
    refine ux (fun B=>ao Z) Z Z ?_
    refine ux (fun B=>ab Z) Z Z ?_
    refine ux (fun B=>ak 1 Z Z Z) Z Z ?_
    refine ux (fun B=>an Z Z S) Z Z ?_
    refine ux (fun B=>bd 3 Z Z (bC S) S) Z Z ?_
    refine uxk (hab) Z ⟨W,Aq⟩ Z ?_
    refine ua Z (us Z ?_)
    refine RunU.nil (fun γ => ?_)
    refine cG (M' := [_,_,_,_,_,_,_,_,_]) Z (aa (ah (aj (Al (ak 0 Z Z Z) ?_))))
    refine Al (am (cw _) Z ⟨W,Aq⟩) ?_
    refine Al (sT (by assumption) (dy Z Z)) (Am Z (Ao (ae Z) (Ao (sT (by assumption) (aS Z Z)) (Ao (ae Z) (sn0 Z Z Z Z Z (sn0 Z Z Z Z Z (sn0 Z Z Z Z Z (sn0 Z Z Z Z Z (Ao (aE Z Z) ?_)))))))))
    refine Al (aE Z Z) (Ap (aa (az Z (aZ 3 aV X Y (Am Z (Al (ak 0 Z Z Z) (An Z (Ap (aF 1 Z Z Z Z Z (leN Z) Z ?_)))))))))
    refine Ap (aD (aa (aj (Am Z (Al (bn _ 1 Z Z S) (An Z (Ap ?_)))))))
    refine aJ (j+1) (hj) S Ah (.drop (.keep (gA (jn (x:=fun i=>M i col) hk)) (.keep Ak (.keep Ak (.keep Ak (.keep Ak (.keep Ak (.keep Ak (.keep Ak (.nil))))))))))
   ·by_cases hl:(M (row+j) col).natAbs<(M (c9 (fun i=>M i col) row j).toNat col).natAbs
    ·have hk:=ky (x:=fun i=>M i col) (r:=row) (j:=j) ⟨hx, .inr hl⟩
     have hcm:ev ((M (row+j) col).natAbs:Int) (kw (fun i=>M i col) row j)<0:=(lN (x:=fun i=>M i col) hL).2 hl
     refine ah (ah (aj (Am Z (Am Z (Al (ao Z) (Al (ab Z) (Al (ab Z) (Al (aw 1 3 0 Z Z Z Z Z) (Al (sT S (aS Z Z)) ?_)))))))))
     refine Ap (aa (az Z (au (aa (ah (ar (ah ?_)))))))
     refine dq aV X X ?_
     refine ux (fun B=>ae Z) Z Z ?_
     refine ux (fun B=>ao Z) Z Z ?_
     refine ux (fun B=>ab Z) Z Z ?_
     refine ux (fun B=>ab Z) Z Z ?_
     refine ux (fun B=>aw 1 3 2 Z Z Z Z Z) Z Z ?_
     refine ux (fun B=>ae Z) Z Z ?_
     refine ux (fun B=>an Z Z S) Z Z ?_
     refine ux (fun B=>aI 2 Z Z S) Z Z ?_
     refine ux (fun B=>ae Z) Z Z ?_
     refine ux (fun B=>ao Z) Z Z ?_
     refine ux (fun B=>ab Z) Z Z ?_
     refine ux (fun B=>ak 1 Z Z Z) Z Z ?_
     refine ux (fun B=>an Z Z S) Z Z ?_
     refine ux (fun B=>bd 3 Z Z (bC S) S) Z Z ?_
     refine uxk (hab) Z ⟨W,Aq⟩ Z ?_
     refine ua Z (us Z ?_)
     refine RunU.nil (fun γ => ?_)
     refine cG (M' := [_,_,_,_,_,_,_,_,_]) Z (aa (ah (aj (Al (ak 0 Z Z Z) ?_))))
     refine Al (am (cw _) Z ⟨W,Aq⟩) ?_
     refine Al (sT (by assumption) (dy Z Z)) (Am Z (Ao (ae Z) (Ao (sF (by assumption) (aS Z Z)) (Ao (ae Z) (Ao (ak 0 Z Z Z) (Ao (ak 1 Z Z Z) ?_))))))
     refine Ao (am (iq _ _) Z ⟨W,W,Aq⟩) ?_
     refine Ao (sT (by assumption) (aS Z Z)) (Ao (ay Z Z) (Al (aE Z Z) (Ap (aa (az Z (aZ 3 aV X Y (Am Z (Al (ak 0 Z Z Z) (An Z ?_)))))))))
     refine Ap (aF 1 Z Z Z Z Z (leN Z) Z (Ap (aD (aa (aj (Am Z (Al (bn _ 1 Z Z S) (An Z (Ap ?_)))))))))
     refine aJ (j+1) (hj) S Ah (.drop (.keep (gA (jn (x:=fun i=>M i col) hk)) (.keep Ak (.keep Ak (.keep Ak (.keep Ak (.keep Ak (.keep Ak (.keep Ak (.nil))))))))))
    ·have hk:=kz (x:=fun i=>M i col) (r:=row) (j:=j) (fun h=>h.2.elim hL hl)
     have hcm : ¬ ev ((M (row+j) col).natAbs:Int) (kw (fun i=>M i col) row j)<0:=fun h=>hl ((lN (x:=fun i=>M i col) hL).1 h)
     refine ah (ah (aj (Am Z (Am Z (Al (ao Z) (Al (ab Z) (Al (ab Z) (Al (aw 1 3 0 Z Z Z Z Z) (Al (sT S (aS Z Z)) ?_)))))))))
     refine Ap (aa (az Z (au (aa (ah (ar (ah ?_)))))))
     refine dq aV X X ?_
     refine ux (fun B=>ae Z) Z Z ?_
     refine ux (fun B=>ao Z) Z Z ?_
     refine ux (fun B=>ab Z) Z Z ?_
     refine ux (fun B=>ab Z) Z Z ?_
     refine ux (fun B=>aw 1 3 2 Z Z Z Z Z) Z Z ?_
     refine ux (fun B=>ae Z) Z Z ?_
     refine ux (fun B=>an Z Z S) Z Z ?_
     refine ux (fun B=>aI 2 Z Z S) Z Z ?_
     refine ux (fun B=>ae Z) Z Z ?_
     refine ux (fun B=>ao Z) Z Z ?_
     refine ux (fun B=>ab Z) Z Z ?_
     refine ux (fun B=>ak 1 Z Z Z) Z Z ?_
     refine ux (fun B=>an Z Z S) Z Z ?_
     refine ux (fun B=>bd 3 Z Z (bC S) S) Z Z ?_
     refine uxk (hab) Z ⟨W,Aq⟩ Z ?_
     refine ua Z (us Z ?_)
     refine RunU.nil (fun γ => ?_)
     refine cG (M' := [_,_,_,_,_,_,_,_,_]) Z (aa (ah (aj (Al (ak 0 Z Z Z) ?_))))
     refine Al (am (cw _) Z ⟨W,Aq⟩) ?_
     refine Al (sT (by assumption) (dy Z Z)) (Am Z (Ao (ae Z) (Ao (sF (by assumption) (aS Z Z)) (Ao (ae Z) (Ao (ak 0 Z Z Z) (Ao (ak 1 Z Z Z) ?_))))))
     refine Ao (am (iq _ _) Z ⟨W,W,Aq⟩) ?_
     refine Ao (sF (by assumption) (aS Z Z)) (Ao (ay Z Z) (Al (aE Z Z) (Ap (aa (aA Z (au (aD (aa (aj ?_)))))))))
     refine Am Z (Al (bn _ 1 Z Z S) (An Z (Ap ?_)))
     refine aJ (j+1) (hj) S Ah (.drop (.keep (gA (jo hk)) (.keep Ak (.keep Ak (.keep Ak (.keep Ak (.keep Ak (.keep Ak (.keep Ak (.nil))))))))))
 ·have hje:j=r - row:=by omega
  subst hje
  rw [h0]
  refine ah (ah (aj (Am Z (Am Z (Al (ao Z) (Al (ab Z) (Al (ab Z) (Al (aw 1 3 0 Z Z Z Z Z) (Al (sF S (aS Z Z)) ?_)))))))))
  refine Ap (aa (aA Z (aU (av (av (aC (aa (ah (ah ?_)))))))))
  refine aj (Am Z (Am Z (Al (sF (by assumption) (cj Z Z)) (Ap (aa (aA Z (au (aa (ah ?_)))))))))
  apply qX (Γ1 := [(0,_),(3,_),(4,_)]) (M1 := [_,_,_,_,_,_,_,_]) 28 5 [11] [] aV X Y
  ·refine Am Z (Al (ao Z) (Al (ab Z) (Al (ab Z) (Al (aw 1 3 2 Z Z Z Z Z) (Am Z (Am Z (Al (ao Z) (Al (ab Z) (Al (ab Z) ?_)))))))))
   refine Al (aw 1 3 2 Z Z Z Z Z) (Am Z (Am Z (Al (ao Z) (Al (ab Z) (Al (ab Z) (Al (aw 1 3 2 Z Z Z Z Z) (Am Z (Al (an Z Z S) (Al (aI 2 Z Z S) ?_)))))))))
   refine Am Z (Al (ao Z) (Al (ab Z) (Al (ab Z) (Al (aw 1 3 2 Z Z Z Z Z) (Am Z (Al (an Z Z S) (Al (aI 2 Z Z S) (Ap ?_))))))))
   refine uk (Γe := [(0,_),(3,_),(4,_),(61,_),(62,_),(76,_),(67,_),(84,_)]) (Γe' := [(0,_),(3,_),(4,_),(61,_),(62,_),(76,_),(67,_),(84,_),(68,_)]) (rem := [28,29,30,31]) Z Aj Z Aj Z ?_ ?_
   ·refine dB (rem' := [28,29,30,31]) (rem'' := [11,29,30,31]) (i:=11) (j:=28) X Z Z Z Z ?_ ?_ iO.nil
    refine Am Z (Ap ?_)
    refine ⟨rfl,?_⟩
    refine aM (rem' := [29,30,31]) (i:=28) X Z Z ?_ iO.nil
    refine Al (an Z Z S) (Ap ?_)
    refine ⟨rfl,?_⟩
    refine aM (rem' := [30,31]) (i:=29) X Z Z ?_ iO.nil
    (refine bD 2 Z Z Z ?_ Z ?_;omega)
    refine Ap ?_
    refine ⟨rfl,?_⟩
    refine aM (rem' := [31]) (i:=30) X Z Z ?_ iO.nil
    refine Al (an Z Z S) (Ap ?_)
    refine ⟨rfl,?_⟩
    refine aM (rem' := []) (i:=31) X Z Z ?_ iO.nil
    (refine bD 2 Z Z Z ?_ Z ?_;omega)
    refine Ap ?_
    refine ⟨rfl,?_⟩
    refine cB Aj (SubM.refl _) iO.nil
    refine Al (an Z Z S) (Ap ?_)
    refine ⟨rfl,?_⟩
    refine dB (rem' := [29,30,31]) (rem'' := [11,30,31]) (i:=11) (j:=29) X Z Z Z Z ?_ ?_ iO.nil
    refine Am Z (Ap ?_)
    refine ⟨rfl,?_⟩
    refine aM (rem' := [30,31]) (i:=29) X Z Z ?_ iO.nil
    (refine bD 2 Z Z Z ?_ Z ?_;omega)
    refine Ap ?_
    refine ⟨rfl,?_⟩
    refine aM (rem' := [31]) (i:=30) X Z Z ?_ iO.nil
    refine Al (an Z Z S) (Ap ?_)
    refine ⟨rfl,?_⟩
    refine aM (rem' := []) (i:=31) X Z Z ?_ iO.nil
    (refine bD 2 Z Z Z ?_ Z ?_;omega)
    refine Ap ?_
    refine ⟨rfl,?_⟩
    refine cB Aj (SubM.refl _) iO.nil
    (refine bD 2 Z Z Z ?_ Z ?_;omega)
    refine Ap ?_
    refine ⟨rfl,?_⟩
    refine aM (rem' := [30,31]) (i:=11) X Z Z ?_ iO.nil
    refine Am Z (Ap ?_)
    refine ⟨rfl,?_⟩
    refine aM (rem' := [31]) (i:=30) X Z Z ?_ iO.nil
    refine Al (an Z Z S) (Ap ?_)
    refine ⟨rfl,?_⟩
    refine aM (rem' := []) (i:=31) X Z Z ?_ iO.nil
    (refine bD 2 Z Z Z ?_ Z ?_;omega)
    refine Ap ?_
    refine ⟨rfl,?_⟩
    refine cB Aj (SubM.refl _) iO.nil
   ·refine aM (rem' := [29,30,31]) (i:=28) X Z Z ?_ iO.nil
    refine Al (an Z Z S) (Ap ?_)
    refine ⟨rfl,?_⟩
    refine aM (rem' := [30,31]) (i:=29) X Z Z ?_ iO.nil
    (refine bD 2 Z Z Z ?_ Z ?_;omega)
    refine Ap ?_
    refine ⟨rfl,?_⟩
    refine aM (rem' := [31]) (i:=30) X Z Z ?_ iO.nil
    refine Al (an Z Z S) (Ap ?_)
    refine ⟨rfl,?_⟩
    refine aM (rem' := []) (i:=31) X Z Z ?_ iO.nil
    (refine bD 2 Z Z Z ?_ Z ?_;omega)
    refine Ap ?_
    refine ⟨rfl,?_⟩
    refine cB Aj (SubM.refl _) iO.nil
  refine gv (ConvM.cons (ConvM.cons (ConvM.le (kv S S hne)))) (gv (ConvM.cons (ConvM.cons (ConvM.cons (jm S S hne)))) (aa (ah ?_)))
  apply qX (Γ1 := [(0,_),(3,_),(4,_)]) (M1 := [_,_,_,_,_,_,_,_]) 28 5 [11] [] aV X Y
  ·refine Am Z (Al (ao Z) (Al (ab Z) (Al (ab Z) (Al (aw 1 6 2 Z Z Z Z Z) (Am Z (Am Z (Al (ao Z) (Al (ab Z) (Al (ab Z) ?_)))))))))
   refine Al (aw 1 6 2 Z Z Z Z Z) (Am Z (Am Z (Al (ao Z) (Al (ab Z) (Al (ab Z) (Al (aw 1 6 2 Z Z Z Z Z) (Am Z (Al (an Z Z S) (Al (aI 4 Z Z S) ?_)))))))))
   refine Am Z (Al (ao Z) (Al (ab Z) (Al (ab Z) (Al (aw 1 6 2 Z Z Z Z Z) (Am Z (Al (an Z Z S) (Al (aI 4 Z Z S) (Ap ?_))))))))
   refine uk (Γe := [(0,_),(3,_),(4,_),(91,_),(92,_),(106,_),(97,_),(114,_)]) (Γe' := [(0,_),(3,_),(4,_),(91,_),(92,_),(106,_),(97,_),(114,_),(98,_)]) (rem := [28,29,30,31]) Z Aj Z Aj Z ?_ ?_
   ·refine dB (rem' := [28,29,30,31]) (rem'' := [11,29,30,31]) (i:=11) (j:=28) X Z Z Z Z ?_ ?_ iO.nil
    refine Am Z (Ap ?_)
    refine ⟨rfl,?_⟩
    refine aM (rem' := [29,30,31]) (i:=28) X Z Z ?_ iO.nil
    refine Al (an Z Z S) (Ap ?_)
    refine ⟨rfl,?_⟩
    refine aM (rem' := [30,31]) (i:=29) X Z Z ?_ iO.nil
    (refine bD 4 Z Z Z ?_ Z ?_;omega)
    refine Ap ?_
    refine ⟨rfl,?_⟩
    refine aM (rem' := [31]) (i:=30) X Z Z ?_ iO.nil
    refine Al (an Z Z S) (Ap ?_)
    refine ⟨rfl,?_⟩
    refine aM (rem' := []) (i:=31) X Z Z ?_ iO.nil
    (refine bD 4 Z Z Z ?_ Z ?_;omega)
    refine Ap ?_
    refine ⟨rfl,?_⟩
    refine cB Aj (SubM.refl _) iO.nil
    refine Al (an Z Z S) (Ap ?_)
    refine ⟨rfl,?_⟩
    refine dB (rem' := [29,30,31]) (rem'' := [11,30,31]) (i:=11) (j:=29) X Z Z Z Z ?_ ?_ iO.nil
    refine Am Z (Ap ?_)
    refine ⟨rfl,?_⟩
    refine aM (rem' := [30,31]) (i:=29) X Z Z ?_ iO.nil
    (refine bD 4 Z Z Z ?_ Z ?_;omega)
    refine Ap ?_
    refine ⟨rfl,?_⟩
    refine aM (rem' := [31]) (i:=30) X Z Z ?_ iO.nil
    refine Al (an Z Z S) (Ap ?_)
    refine ⟨rfl,?_⟩
    refine aM (rem' := []) (i:=31) X Z Z ?_ iO.nil
    (refine bD 4 Z Z Z ?_ Z ?_;omega)
    refine Ap ?_
    refine ⟨rfl,?_⟩
    refine cB Aj (SubM.refl _) iO.nil
    (refine bD 4 Z Z Z ?_ Z ?_;omega)
    refine Ap ?_
    refine ⟨rfl,?_⟩
    refine aM (rem' := [30,31]) (i:=11) X Z Z ?_ iO.nil
    refine Am Z (Ap ?_)
    refine ⟨rfl,?_⟩
    refine aM (rem' := [31]) (i:=30) X Z Z ?_ iO.nil
    refine Al (an Z Z S) (Ap ?_)
    refine ⟨rfl,?_⟩
    refine aM (rem' := []) (i:=31) X Z Z ?_ iO.nil
    (refine bD 4 Z Z Z ?_ Z ?_;omega)
    refine Ap ?_
    refine ⟨rfl,?_⟩
    refine cB Aj (SubM.refl _) iO.nil
   ·refine aM (rem' := [29,30,31]) (i:=28) X Z Z ?_ iO.nil
    refine Al (an Z Z S) (Ap ?_)
    refine ⟨rfl,?_⟩
    refine aM (rem' := [30,31]) (i:=29) X Z Z ?_ iO.nil
    (refine bD 4 Z Z Z ?_ Z ?_;omega)
    refine Ap ?_
    refine ⟨rfl,?_⟩
    refine aM (rem' := [31]) (i:=30) X Z Z ?_ iO.nil
    refine Al (an Z Z S) (Ap ?_)
    refine ⟨rfl,?_⟩
    refine aM (rem' := []) (i:=31) X Z Z ?_ iO.nil
    (refine bD 4 Z Z Z ?_ Z ?_;omega)
    refine Ap ?_
    refine ⟨rfl,?_⟩
    refine cB Aj (SubM.refl _) iO.nil
  refine gv (ConvM.cons (ConvM.cons (ConvM.cons (ConvM.cons (ConvM.le (kv S S hne)))))) (gv (ConvM.cons (ConvM.cons (ConvM.cons (ConvM.cons (ConvM.cons (jm S S hne)))))) (aa (ah (ah (aj (Am Z (Al (ao Z) (Al (ab Z) (Al (ab Z) ?_)))))))))
  refine Al (aw 1 9 2 Z Z Z Z Z) (Al (jx Z) (Am Z (Ap (aa (ar (bV (Γ' := [(3,_),(4,_),(121,_),(122,_),(123,_)]) Ag (SubM.refl _) ?_))))))
  refine bv (σ:=Nat) (Γk := [(3,_),(4,_),(121,_),(122,_)]) Ag (fun a => [(123,one (.int .i64 (a:Nat)))]) (fun a M0=>(M0.set 7 (bg r bsV (k9 i row a V)))) (fun a=>a≤r) (fun a=>r - a) (0) (Nat.zero_le _) Ah (.keep Ak (.keep Ak (.keep Ak (.keep Ak (.keep Ak (.keep Ak (.keep Ak (.keep Ak (.nil))))))))) (fun a ha => ?_)
  refine bK (Γ' := [(123,_),(3,_),(4,_),(121,_),(122,_)]) (M' := [_,_,_,_,_,_,_,_]) Z Z ?_
  by_cases ha:a<r
  ·refine ah (aj (Al (sT S (aS Z Z)) (Ap (aa (ah (az Z (au (aa (ah ?_)))))))))
   refine ar (ah (aj (Al (an Z Z S) (Al (aI 6 Z Z S) (An Z (Ap (aa ?_)))))))
   apply qX (Γ1 := [(3,_),(4,_),(121,_),(122,_),(123,_)]) (M1 := [_,_,_,_,_,_,_,_]) 12 7 [2,3] [] aV X Y
   ·refine Am Z (Am Z (Am Z (Am Z (Am Z (Am Z (Al (an Z Z S) (Al (bd 7 Z Z (bC S) S) (Am Z (Am Z ?_)))))))))
    refine Al (an Z Z S) (Al (bd 7 Z Z (bC S) S) (Ap ?_))
    refine xk (Γa := [(3,_),(4,_),(121,_),(122,_),(123,_),(9,_),(127,_),(128,_),(134,_),(138,_)]) (Γb := [(3,_),(4,_),(121,_),(122,_),(123,_),(9,_),(127,_),(128,_),(134,_),(138,_),(130,_)]) (Γc := [(3,_),(4,_),(121,_),(122,_),(123,_),(9,_),(127,_),(128,_),(134,_),(138,_),(129,_)]) (Γd := [(3,_),(4,_),(121,_),(122,_),(123,_),(9,_),(127,_),(128,_),(134,_),(138,_),(129,_),(130,_)]) (rem := [12,13,14,15]) Z Aj Z Aj Z Aj Z Aj Z ?_ ?_ ?_ ?_
    ·refine me (r1 := [3,12,13,14,15]) (r2 := [2,12,13,14,15]) (r3 := [2,3,13,14,15]) (i:=2) (j:=3) (k:=12) X Z Z Z Z Z Z ?_ ?_ ?_ iO.nil
     refine Am Z (Ap ?_)
     refine ⟨rfl,?_⟩
     refine dB (rem' := [12,13,14,15]) (rem'' := [3,13,14,15]) (i:=3) (j:=12) X Z Z Z Z ?_ ?_ iO.nil
     refine Am Z (Ap ?_)
     refine ⟨rfl,?_⟩
     refine aM (rem' := [13,14,15]) (i:=12) X Z Z ?_ iO.nil
     refine Al (an Z Z S) (Ap ?_)
     refine ⟨rfl,?_⟩
     refine aM (rem' := [14,15]) (i:=13) X Z Z ?_ iO.nil
     (refine a9 7 Z Z Z (bC ?_) ?_ Z ?_;omega;omega)
     refine Ap ?_
     refine ⟨rfl,?_⟩
     refine aM (rem' := [15]) (i:=14) X Z Z ?_ iO.nil
     refine Al (an Z Z S) (Ap ?_)
     refine ⟨rfl,?_⟩
     refine aM (rem' := []) (i:=15) X Z Z ?_ iO.nil
     (refine a9 7 Z Z Z (bC ?_) ?_ Z ?_;omega;omega)
     refine Ap ?_
     refine ⟨rfl,?_⟩
     refine cB Aj (SubM.refl _) iO.nil
     refine Al (an Z Z S) (Ap ?_)
     refine ⟨rfl,?_⟩
     refine dB (rem' := [13,14,15]) (rem'' := [3,14,15]) (i:=3) (j:=13) X Z Z Z Z ?_ ?_ iO.nil
     refine Am Z (Ap ?_)
     refine ⟨rfl,?_⟩
     refine aM (rem' := [14,15]) (i:=13) X Z Z ?_ iO.nil
     (refine a9 7 Z Z Z (bC ?_) ?_ Z ?_;omega;omega)
     refine Ap ?_
     refine ⟨rfl,?_⟩
     refine aM (rem' := [15]) (i:=14) X Z Z ?_ iO.nil
     refine Al (an Z Z S) (Ap ?_)
     refine ⟨rfl,?_⟩
     refine aM (rem' := []) (i:=15) X Z Z ?_ iO.nil
     (refine a9 7 Z Z Z (bC ?_) ?_ Z ?_;omega;omega)
     refine Ap ?_
     refine ⟨rfl,?_⟩
     refine cB Aj (SubM.refl _) iO.nil
     (refine a9 7 Z Z Z (bC ?_) ?_ Z ?_;omega;omega)
     refine Ap ?_
     refine ⟨rfl,?_⟩
     refine aM (rem' := [14,15]) (i:=3) X Z Z ?_ iO.nil
     refine Am Z (Ap ?_)
     refine ⟨rfl,?_⟩
     refine aM (rem' := [15]) (i:=14) X Z Z ?_ iO.nil
     refine Al (an Z Z S) (Ap ?_)
     refine ⟨rfl,?_⟩
     refine aM (rem' := []) (i:=15) X Z Z ?_ iO.nil
     (refine a9 7 Z Z Z (bC ?_) ?_ Z ?_;omega;omega)
     refine Ap ?_
     refine ⟨rfl,?_⟩
     refine cB Aj (SubM.refl _) iO.nil
     refine Am Z (Ap ?_)
     refine ⟨rfl,?_⟩
     refine dB (rem' := [12,13,14,15]) (rem'' := [2,13,14,15]) (i:=2) (j:=12) X Z Z Z Z ?_ ?_ iO.nil
     refine Am Z (Ap ?_)
     refine ⟨rfl,?_⟩
     refine aM (rem' := [13,14,15]) (i:=12) X Z Z ?_ iO.nil
     refine Al (an Z Z S) (Ap ?_)
     refine ⟨rfl,?_⟩
     refine aM (rem' := [14,15]) (i:=13) X Z Z ?_ iO.nil
     (refine a9 7 Z Z Z (bC ?_) ?_ Z ?_;omega;omega)
     refine Ap ?_
     refine ⟨rfl,?_⟩
     refine aM (rem' := [15]) (i:=14) X Z Z ?_ iO.nil
     refine Al (an Z Z S) (Ap ?_)
     refine ⟨rfl,?_⟩
     refine aM (rem' := []) (i:=15) X Z Z ?_ iO.nil
     (refine a9 7 Z Z Z (bC ?_) ?_ Z ?_;omega;omega)
     refine Ap ?_
     refine ⟨rfl,?_⟩
     refine cB Aj (SubM.refl _) iO.nil
     refine Al (an Z Z S) (Ap ?_)
     refine ⟨rfl,?_⟩
     refine dB (rem' := [13,14,15]) (rem'' := [2,14,15]) (i:=2) (j:=13) X Z Z Z Z ?_ ?_ iO.nil
     refine Am Z (Ap ?_)
     refine ⟨rfl,?_⟩
     refine aM (rem' := [14,15]) (i:=13) X Z Z ?_ iO.nil
     (refine a9 7 Z Z Z (bC ?_) ?_ Z ?_;omega;omega)
     refine Ap ?_
     refine ⟨rfl,?_⟩
     refine aM (rem' := [15]) (i:=14) X Z Z ?_ iO.nil
     refine Al (an Z Z S) (Ap ?_)
     refine ⟨rfl,?_⟩
     refine aM (rem' := []) (i:=15) X Z Z ?_ iO.nil
     (refine a9 7 Z Z Z (bC ?_) ?_ Z ?_;omega;omega)
     refine Ap ?_
     refine ⟨rfl,?_⟩
     refine cB Aj (SubM.refl _) iO.nil
     (refine a9 7 Z Z Z (bC ?_) ?_ Z ?_;omega;omega)
     refine Ap ?_
     refine ⟨rfl,?_⟩
     refine aM (rem' := [14,15]) (i:=2) X Z Z ?_ iO.nil
     refine Am Z (Ap ?_)
     refine ⟨rfl,?_⟩
     refine aM (rem' := [15]) (i:=14) X Z Z ?_ iO.nil
     refine Al (an Z Z S) (Ap ?_)
     refine ⟨rfl,?_⟩
     refine aM (rem' := []) (i:=15) X Z Z ?_ iO.nil
     (refine a9 7 Z Z Z (bC ?_) ?_ Z ?_;omega;omega)
     refine Ap ?_
     refine ⟨rfl,?_⟩
     refine cB Aj (SubM.refl _) iO.nil
     refine Al (an Z Z S) (Ap ?_)
     refine ⟨rfl,?_⟩
     refine me (r1 := [3,13,14,15]) (r2 := [2,13,14,15]) (r3 := [2,3,14,15]) (i:=2) (j:=3) (k:=13) X Z Z Z Z Z Z ?_ ?_ ?_ iO.nil
     refine Am Z (Ap ?_)
     refine ⟨rfl,?_⟩
     refine dB (rem' := [13,14,15]) (rem'' := [3,14,15]) (i:=3) (j:=13) X Z Z Z Z ?_ ?_ iO.nil
     refine Am Z (Ap ?_)
     refine ⟨rfl,?_⟩
     refine aM (rem' := [14,15]) (i:=13) X Z Z ?_ iO.nil
     (refine a9 7 Z Z Z (bC ?_) ?_ Z ?_;omega;omega)
     refine Ap ?_
     refine ⟨rfl,?_⟩
     refine aM (rem' := [15]) (i:=14) X Z Z ?_ iO.nil
     refine Al (an Z Z S) (Ap ?_)
     refine ⟨rfl,?_⟩
     refine aM (rem' := []) (i:=15) X Z Z ?_ iO.nil
     (refine a9 7 Z Z Z (bC ?_) ?_ Z ?_;omega;omega)
     refine Ap ?_
     refine ⟨rfl,?_⟩
     refine cB Aj (SubM.refl _) iO.nil
     (refine a9 7 Z Z Z (bC ?_) ?_ Z ?_;omega;omega)
     refine Ap ?_
     refine ⟨rfl,?_⟩
     refine aM (rem' := [14,15]) (i:=3) X Z Z ?_ iO.nil
     refine Am Z (Ap ?_)
     refine ⟨rfl,?_⟩
     refine aM (rem' := [15]) (i:=14) X Z Z ?_ iO.nil
     refine Al (an Z Z S) (Ap ?_)
     refine ⟨rfl,?_⟩
     refine aM (rem' := []) (i:=15) X Z Z ?_ iO.nil
     (refine a9 7 Z Z Z (bC ?_) ?_ Z ?_;omega;omega)
     refine Ap ?_
     refine ⟨rfl,?_⟩
     refine cB Aj (SubM.refl _) iO.nil
     refine Am Z (Ap ?_)
     refine ⟨rfl,?_⟩
     refine dB (rem' := [13,14,15]) (rem'' := [2,14,15]) (i:=2) (j:=13) X Z Z Z Z ?_ ?_ iO.nil
     refine Am Z (Ap ?_)
     refine ⟨rfl,?_⟩
     refine aM (rem' := [14,15]) (i:=13) X Z Z ?_ iO.nil
     (refine a9 7 Z Z Z (bC ?_) ?_ Z ?_;omega;omega)
     refine Ap ?_
     refine ⟨rfl,?_⟩
     refine aM (rem' := [15]) (i:=14) X Z Z ?_ iO.nil
     refine Al (an Z Z S) (Ap ?_)
     refine ⟨rfl,?_⟩
     refine aM (rem' := []) (i:=15) X Z Z ?_ iO.nil
     (refine a9 7 Z Z Z (bC ?_) ?_ Z ?_;omega;omega)
     refine Ap ?_
     refine ⟨rfl,?_⟩
     refine cB Aj (SubM.refl _) iO.nil
     (refine a9 7 Z Z Z (bC ?_) ?_ Z ?_;omega;omega)
     refine Ap ?_
     refine ⟨rfl,?_⟩
     refine aM (rem' := [14,15]) (i:=2) X Z Z ?_ iO.nil
     refine Am Z (Ap ?_)
     refine ⟨rfl,?_⟩
     refine aM (rem' := [15]) (i:=14) X Z Z ?_ iO.nil
     refine Al (an Z Z S) (Ap ?_)
     refine ⟨rfl,?_⟩
     refine aM (rem' := []) (i:=15) X Z Z ?_ iO.nil
     (refine a9 7 Z Z Z (bC ?_) ?_ Z ?_;omega;omega)
     refine Ap ?_
     refine ⟨rfl,?_⟩
     refine cB Aj (SubM.refl _) iO.nil
     (refine a9 7 Z Z Z (bC ?_) ?_ Z ?_;omega;omega)
     refine Ap ?_
     refine ⟨rfl,?_⟩
     refine dB (rem' := [3,14,15]) (rem'' := [2,14,15]) (i:=2) (j:=3) X Z Z Z Z ?_ ?_ iO.nil
     refine Am Z (Ap ?_)
     refine ⟨rfl,?_⟩
     refine aM (rem' := [14,15]) (i:=3) X Z Z ?_ iO.nil
     refine Am Z (Ap ?_)
     refine ⟨rfl,?_⟩
     refine aM (rem' := [15]) (i:=14) X Z Z ?_ iO.nil
     refine Al (an Z Z S) (Ap ?_)
     refine ⟨rfl,?_⟩
     refine aM (rem' := []) (i:=15) X Z Z ?_ iO.nil
     (refine a9 7 Z Z Z (bC ?_) ?_ Z ?_;omega;omega)
     refine Ap ?_
     refine ⟨rfl,?_⟩
     refine cB Aj (SubM.refl _) iO.nil
     refine Am Z (Ap ?_)
     refine ⟨rfl,?_⟩
     refine aM (rem' := [14,15]) (i:=2) X Z Z ?_ iO.nil
     refine Am Z (Ap ?_)
     refine ⟨rfl,?_⟩
     refine aM (rem' := [15]) (i:=14) X Z Z ?_ iO.nil
     refine Al (an Z Z S) (Ap ?_)
     refine ⟨rfl,?_⟩
     refine aM (rem' := []) (i:=15) X Z Z ?_ iO.nil
     (refine a9 7 Z Z Z (bC ?_) ?_ Z ?_;omega;omega)
     refine Ap ?_
     refine ⟨rfl,?_⟩
     refine cB Aj (SubM.refl _) iO.nil
    ·refine dB (rem' := [12,13,14,15]) (rem'' := [2,13,14,15]) (i:=2) (j:=12) X Z Z Z Z ?_ ?_ iO.nil
     refine Am Z (Ap ?_)
     refine ⟨rfl,?_⟩
     refine aM (rem' := [13,14,15]) (i:=12) X Z Z ?_ iO.nil
     refine Al (an Z Z S) (Ap ?_)
     refine ⟨rfl,?_⟩
     refine aM (rem' := [14,15]) (i:=13) X Z Z ?_ iO.nil
     (refine a9 7 Z Z Z (bC ?_) ?_ Z ?_;omega;omega)
     refine Ap ?_
     refine ⟨rfl,?_⟩
     refine aM (rem' := [15]) (i:=14) X Z Z ?_ iO.nil
     refine Al (an Z Z S) (Ap ?_)
     refine ⟨rfl,?_⟩
     refine aM (rem' := []) (i:=15) X Z Z ?_ iO.nil
     (refine a9 7 Z Z Z (bC ?_) ?_ Z ?_;omega;omega)
     refine Ap ?_
     refine ⟨rfl,?_⟩
     refine cB Aj (SubM.refl _) iO.nil
     refine Al (an Z Z S) (Ap ?_)
     refine ⟨rfl,?_⟩
     refine dB (rem' := [13,14,15]) (rem'' := [2,14,15]) (i:=2) (j:=13) X Z Z Z Z ?_ ?_ iO.nil
     refine Am Z (Ap ?_)
     refine ⟨rfl,?_⟩
     refine aM (rem' := [14,15]) (i:=13) X Z Z ?_ iO.nil
     (refine a9 7 Z Z Z (bC ?_) ?_ Z ?_;omega;omega)
     refine Ap ?_
     refine ⟨rfl,?_⟩
     refine aM (rem' := [15]) (i:=14) X Z Z ?_ iO.nil
     refine Al (an Z Z S) (Ap ?_)
     refine ⟨rfl,?_⟩
     refine aM (rem' := []) (i:=15) X Z Z ?_ iO.nil
     (refine a9 7 Z Z Z (bC ?_) ?_ Z ?_;omega;omega)
     refine Ap ?_
     refine ⟨rfl,?_⟩
     refine cB Aj (SubM.refl _) iO.nil
     (refine a9 7 Z Z Z (bC ?_) ?_ Z ?_;omega;omega)
     refine Ap ?_
     refine ⟨rfl,?_⟩
     refine aM (rem' := [14,15]) (i:=2) X Z Z ?_ iO.nil
     refine Am Z (Ap ?_)
     refine ⟨rfl,?_⟩
     refine aM (rem' := [15]) (i:=14) X Z Z ?_ iO.nil
     refine Al (an Z Z S) (Ap ?_)
     refine ⟨rfl,?_⟩
     refine aM (rem' := []) (i:=15) X Z Z ?_ iO.nil
     (refine a9 7 Z Z Z (bC ?_) ?_ Z ?_;omega;omega)
     refine Ap ?_
     refine ⟨rfl,?_⟩
     refine cB Aj (SubM.refl _) iO.nil
    ·refine dB (rem' := [12,13,14,15]) (rem'' := [3,13,14,15]) (i:=3) (j:=12) X Z Z Z Z ?_ ?_ iO.nil
     refine Am Z (Ap ?_)
     refine ⟨rfl,?_⟩
     refine aM (rem' := [13,14,15]) (i:=12) X Z Z ?_ iO.nil
     refine Al (an Z Z S) (Ap ?_)
     refine ⟨rfl,?_⟩
     refine aM (rem' := [14,15]) (i:=13) X Z Z ?_ iO.nil
     (refine a9 7 Z Z Z (bC ?_) ?_ Z ?_;omega;omega)
     refine Ap ?_
     refine ⟨rfl,?_⟩
     refine aM (rem' := [15]) (i:=14) X Z Z ?_ iO.nil
     refine Al (an Z Z S) (Ap ?_)
     refine ⟨rfl,?_⟩
     refine aM (rem' := []) (i:=15) X Z Z ?_ iO.nil
     (refine a9 7 Z Z Z (bC ?_) ?_ Z ?_;omega;omega)
     refine Ap ?_
     refine ⟨rfl,?_⟩
     refine cB Aj (SubM.refl _) iO.nil
     refine Al (an Z Z S) (Ap ?_)
     refine ⟨rfl,?_⟩
     refine dB (rem' := [13,14,15]) (rem'' := [3,14,15]) (i:=3) (j:=13) X Z Z Z Z ?_ ?_ iO.nil
     refine Am Z (Ap ?_)
     refine ⟨rfl,?_⟩
     refine aM (rem' := [14,15]) (i:=13) X Z Z ?_ iO.nil
     (refine a9 7 Z Z Z (bC ?_) ?_ Z ?_;omega;omega)
     refine Ap ?_
     refine ⟨rfl,?_⟩
     refine aM (rem' := [15]) (i:=14) X Z Z ?_ iO.nil
     refine Al (an Z Z S) (Ap ?_)
     refine ⟨rfl,?_⟩
     refine aM (rem' := []) (i:=15) X Z Z ?_ iO.nil
     (refine a9 7 Z Z Z (bC ?_) ?_ Z ?_;omega;omega)
     refine Ap ?_
     refine ⟨rfl,?_⟩
     refine cB Aj (SubM.refl _) iO.nil
     (refine a9 7 Z Z Z (bC ?_) ?_ Z ?_;omega;omega)
     refine Ap ?_
     refine ⟨rfl,?_⟩
     refine aM (rem' := [14,15]) (i:=3) X Z Z ?_ iO.nil
     refine Am Z (Ap ?_)
     refine ⟨rfl,?_⟩
     refine aM (rem' := [15]) (i:=14) X Z Z ?_ iO.nil
     refine Al (an Z Z S) (Ap ?_)
     refine ⟨rfl,?_⟩
     refine aM (rem' := []) (i:=15) X Z Z ?_ iO.nil
     (refine a9 7 Z Z Z (bC ?_) ?_ Z ?_;omega;omega)
     refine Ap ?_
     refine ⟨rfl,?_⟩
     refine cB Aj (SubM.refl _) iO.nil
    ·refine aM (rem' := [13,14,15]) (i:=12) X Z Z ?_ iO.nil
     refine Al (an Z Z S) (Ap ?_)
     refine ⟨rfl,?_⟩
     refine aM (rem' := [14,15]) (i:=13) X Z Z ?_ iO.nil
     (refine a9 7 Z Z Z (bC ?_) ?_ Z ?_;omega;omega)
     refine Ap ?_
     refine ⟨rfl,?_⟩
     refine aM (rem' := [15]) (i:=14) X Z Z ?_ iO.nil
     refine Al (an Z Z S) (Ap ?_)
     refine ⟨rfl,?_⟩
     refine aM (rem' := []) (i:=15) X Z Z ?_ iO.nil
     (refine a9 7 Z Z Z (bC ?_) ?_ Z ?_;omega;omega)
     refine Ap ?_
     refine ⟨rfl,?_⟩
     refine cB Aj (SubM.refl _) iO.nil
   refine aD (aa (aj (Al (bn _ 1 Z Z S) (Am Z (Ap ?_)))))
   refine aJ (a+1) (ha) S Ah (.keep Ak (.keep Ak (.keep Ak (.keep Ak (.keep Ak (.keep Ak (.keep Ak (.keep (vg hne) (.nil)))))))))
  ·have hae:a=r:=by omega
   subst hae
   refine ah (aj (Al (sF S (aS Z Z)) (Ap (aa (ah (aA Z (aU (av (av ?_)))))))))
   refine aC (aa (ah (aj (An Z (Ap (aa (aG (iC () Tryz.results67 (.tmp Z W) ?_))))))))
   exact .drop (.keep Ak (.keep Ak (.keep Ak (.keep Ak (.keep Ak (.keep Ak (.keep (vf hblV) .nil)))))))
end Tor
end
section
set_option linter.unusedSectionVars false
namespace Tor
open Go Go.RowKit
section
variable {P:Program} {E:Env} {D:List Deferred} {Γ:Ctx} {M:Mem}
variable {ops:Array Oper} {i:Nat} {ty:TypeId} {pos:String} {af:Array Edge} {os:List Oper} {K:List Deferred→Ctx→Mem→Prop}
theorem fU {σ:Type} {f:FuncId} [hF:Fn P f] {t:Operand} {xs:Array Operand} {ats:Array TypeId} {φs φs':List VT} {Min Kp:Mem} {ψ:σ→VT} {Ms:σ→Mem} {d:Nat} (h:OkI P f φs' Min ψ Ms) (ht:aO Γ t=some (one (.func (.func f) #[] #[]))) (hx:f8 Γ xs.toList=some φs) (hle:gK φs φs') (hpm:M.Perm (Min ++ Kp))
  (hi:ops[i]? = some ⟨some d, .call ⟨.value t,xs,ats⟩,ty,pos,af,none⟩) (hd:Nat.ble (d+1) E.N=true)
  (hr : ∀ s,Run P E ops false (i+1) D ((d, ψ s) :: Γ) (Ms s ++ Kp) os K):Run P E ops false i D Γ M (⟨some d, .call ⟨.value t,xs,ats⟩,ty,pos,af,none⟩ :: os) K:=by
 refine .act (K':=fun D' Γ' M' => ∃ s,D'=D∧Γ'=(d, ψ s) :: Γ∧M'=Ms s ++ Kp) (fun a w hS0 next Q hn => ?_) (fun D' Γ' M' ⟨s,h1,h2,h3⟩=>by subst h1 h2 h3;exact hr s)
 have h0:a.eval t = .func (.func f) #[] #[]:=cS hS0 ht
 have hS:=ib hpm hS0
 have hp:=fN (a:=a) (h:=hv E (Min ++ Kp) w) hx (fun x φ hx' he=>cS hS he)
 have hndA:=hS.base.nd
 rw [bt,List.nodup_append] at hndA
 have ehv : ∀ w:World,hid ((E.O ++ bf Kp) ++ bf Min) (cC w)=hv E (Min ++ Kp) w:=fun w=>fV (fun b=>by
  simp only [bt,List.mem_append]
  constructor
  ·rintro ((h | h) | h)
   ·exact .inl h
   ·exact .inr (.inr h)
   ·exact .inr (.inl h)
  ·rintro (h | h | h)
   ·exact .inl (.inl h)
   ·exact .inr h
   ·exact .inl (.inr h)) _
 have hc:=h w (E.O ++ bf Kp) _ (fun b hb=>hS.base.ex b (by
   rw [bt]
   rcases List.mem_append.1 hb with h | h
   ·exact List.mem_append.2 (.inl h)
   ·exact List.mem_append.2 (.inr (List.mem_append.2 (.inr h)))))
  (fun b hb=>⟨hS.base.ex b (by rw [bt]; exact List.mem_append.2 (.inr (List.mem_append.2 (.inl hb)))),fun hO=>by
   rcases List.mem_append.1 hO with h | h
   ·exact hS.base.dis b (by rw [bt]; exact List.mem_append.2 (.inl hb)) h
   ·exact hndA.2.2 b hb b h Z⟩) hndA.1 (fun o ho=>by rw [ehv]; exact hS.base.mem o (List.mem_append.2 (.inl ho))) (by rw [ehv]; exact fO hle hp)
 simp only [wpOp,hi,c7 (o:=⟨some d, .call ⟨.value t,xs,ats⟩,ty,pos,af,none⟩) Z,if_true]
 refine .inl ?_
 unfold Oper.wp
 have hr:(execOp a.eval ⟨some d, .call ⟨.value t,xs,ats⟩,ty,pos,af,none⟩).run P w = .ok (.enter f (xs.toList.map a.eval).toArray) w:=by
  have h9:(xs.map a.eval)=(xs.toList.map a.eval).toArray:=by simp [← Array.toList_map]
  simp [execOp,resolve,Deferred.ofValue,invoke,h0,hF.run,h9]
 rw [hr]
 refine Calls.mono hc ?_
 rintro e w' ⟨s,v,rfl,hv',hf,hmem,hnd,hb⟩
 exact hn D ((d, ψ s) :: Γ) (Ms s ++ Kp) _ w' ⟨s,rfl,rfl,rfl⟩ (hS.lent hf hmem hnd hb (ltN hd) hv').1
end
end Tor
end
section
namespace Tor
open Go Go.RowKit Go.Proofs
def qt (r:Nat) (s:SS):Int:=c9 (fun i=>s.M i s.col) s.row (r - s.row)
def iE (r:Nat) (s:SS) (l:S3):S3:=if qt r s<0 then l else if qt r s≠(s.row:Int) then (fT (qt r s).toNat s.row l.1,l.2) else l
theorem lO {r:Nat} {s:SS} {l:S3} (h:ok3 r l):ok3 r (iE r s l):=by
 unfold iE
 split
 ·exact h
 ·split
  ·exact ⟨vb.trans h.1,h.2⟩
  ·exact h
theorem gX {r c row col:Nat} : decide ((row:Int)=(r:Int)∨(col:Int)=(c:Int))=decide (row=r∨col=c):=decide_eq_decide.2 S
theorem rk {r c:Nat} {s:SS} : cR r c s=decide ((s.row:Int)=(r:Int)∨(s.col:Int)=(c:Int)):=gX.symm
attribute [local irreducible] J PJ aQ one slT cA bG bZ exT cE eP aX a8 slV VT.le Ret bS
attribute [local irreducible] bX
theorem mN (b r c:Nat) (Ac:VT) [hX:Flat Ac .one] (sM sU sV:S3) (M U V:Nat→Nat→Int) (row col:Nat) (d:VT) [hd:Flat d .one] (hr:r≤1048576) (hc:c≤1048576) (hM:ok3 r sM) (hU:ok3 r sU) (hV:ok3 r sV) (hrow:row<r) (hcol:col<c) (hmM : ∀ i j,cx (M i j)) (hmU : ∀ i j,cx (U i j)) (hmV : ∀ i j,cx (V i j)) :
  OkI Tryz.prog 35 [one (.pointer (some ⟨b,0,none⟩))] (ei b r c (gn r c Ac) sM sU sV M U V row col d)
   (fun _:Unit=>bZ []) (fun _=>ei b r c (gn r c Ac) (iE r ⟨M,U,V,row,col⟩ sM) (iE r ⟨M,U,V,row,col⟩ sU) sV (c8 r ⟨M,U,V,row,col⟩).M (c8 r ⟨M,U,V,row,col⟩).U (c8 r ⟨M,U,V,row,col⟩).V (c8 r ⟨M,U,V,row,col⟩).row (c8 r ⟨M,U,V,row,col⟩).col (one (.bool (cR r c (c8 r ⟨M,U,V,row,col⟩))))):=by
 have hskip:=wt b r c (gn r c Ac) sM sU sV M U V row col d hr hc hM hrow hcol
 unfold ei bF at hskip
 have hfin:=fun (m u v:VT) (x y:Int)=>dP r c Ac m u v x y d
 unfold ei bF
 refine OkI.enter Tryz.func35 Z Tryz.ntmps35 Z (fun w O => ?_)
 refine ah (aj (stB Z Z Z (BuildK.cons Z Z Z (BuildK.cons Z Z Z (BuildK.cons Z Z Z (BuildK.cons Z Z Z (BuildK.cons Z Z Z (BuildK.nil ?_))))))))
 refine a7 (T:=95) Z Z Z (fun b2 => ?_)
 refine aW 0 Z Z Z Z (Ap (aa (ah (ah (aj (Al (aL 0 Z Z) (Am Z (Ap (aa ?_)))))))))
 refine ar ?_
 refine bV (Γ' := [(7,_),(6,_),(0,_)]) (M' := [_,_,_,_,_,_,_]) Aj (.drop (SubM.refl _)) ?_
 refine bV (Γ' := [(0,_),(6,_),(7,_)]) Ag (SubM.refl _) ?_
 refine bv (σ:=Nat) (Γk := [(0,_),(6,_)]) Ag (fun i => [(7,one (.int .i64 (i:Nat)))]) (fun i M0=>M0) (fun i=>i≤4∧(0<i → ¬ c9 (fun i=>M i col) row (r - row)<0)∧(1<i→c9 (fun i=>M i col) row (r - row)=(row:Int))∧(2<i → ¬ M row col<0)∧(3<i → ¬ cQ (ct (fun i=>M i col) (M row col) row) r<r)) (fun i=>5 - i) (0) (⟨Nat.zero_le _,fun h=>absurd h S,fun h=>absurd h S,fun h=>absurd h S,fun h=>absurd h S⟩) Ah (.keep Ak (.keep Ak (.keep Ak (.keep Ak (.keep Ak (.keep Ak (.keep Ak (.nil)))))))) (fun i hi => ?_)
 refine bK (Γ' := [(7,_),(0,_),(6,_)]) (M' := [_,_,_,_,_,_,_]) Z Z ?_
 obtain ⟨hi4,h1,h2,h3,h4⟩:=hi
 rcases (show i=0∨i=1∨i=2∨i=3∨i=4 by omega) with rfl | rfl | rfl | rfl | rfl
 ·by_cases c1:c9 (fun i=>M i col) row (r - row)<0
  ·rw [decide_eq_true c1,if_pos c1] at hskip
   have e1:c8 r ⟨M,U,V,row,col⟩=⟨M,U,V,row,col+1⟩:=by unfold c8;rw [if_pos c1]
   have e2 : ∀ l,iE r ⟨M,U,V,row,col⟩ l=l:=fun l=>by unfold iE qt;rw [if_pos c1]
   rw [e1,e2,e2,rk]
   refine ah (aj (Al (sT S (aS Z Z)) (Ap (aa (ah (az Z (au (aa (ah ?_)))))))))
   refine ar (ah (aj (Al (eY Z Z S Z) (An Z (Ap (aa (ah (aj (Am Z ?_)))))))))
   refine Am Z ?_
   refine fU (Kp := []) hskip Z Z ⟨W,Aq⟩ (List.Perm.refl _) Z Z (fun _ => ?_)
   refine Ap (aa (az Z (aU (dg Z (av (av (aC (aa (aj ?_)))))))))
   refine Am Z (Am Z (Al (ao Z) (Al (aL 0 Z Z) ?_)))
   refine Al (am (hfin _ _ _ _ _) Z ⟨W,Aq⟩) ?_
   refine Al (ao Z) (Al (ab Z) (aF 0 Z Z Z Z Z (leN Z) Z (Ap (gx ?_))))
   exact lm (σ:=Unit) (ψ:=fun _=>bZ []) () Tryz.results35 W (.keep Ak (.keep Ak (.keep Ak (.keep Ak (.keep Ak (.keep Ak (.keep Ak .nil)))))))
  ·rw [decide_eq_false c1,if_neg c1] at hskip
   refine ah (aj (Al (sT S (aS Z Z)) (Ap (aa (ah (az Z (au (aa (ah ?_)))))))))
   refine ar (ah (aj (Al (eY Z Z S Z) (An Z (Ap (aa (ah (aj (Am Z ?_)))))))))
   refine Am Z ?_
   refine fU (Kp := []) hskip Z Z ⟨W,Aq⟩ (List.Perm.refl _) Z Z (fun _ => ?_)
   refine Ap (aa (aA Z (au (aD (aa (aj (Al (bn _ 1 Z Z S) (Am Z (Ap ?_)))))))))
   refine aJ (1) (⟨by omega,fun _=>c1,fun h=>absurd h S,fun h=>absurd h S,fun h=>absurd h S⟩) S Ah (.keep Ak (.keep Ak (.keep Ak (.keep Ak (.keep Ak (.keep Ak (.keep Ak (.nil))))))))
 ·have c1:=h1 S
  by_cases c2:c9 (fun i=>M i col) row (r - row)=(row:Int)
  ·have hex:=oY b r c (gn r c Ac) sM sU sV M U V row col d hr hc hM hrow hcol hmM c2
   unfold ei bF at hex
   refine ah (aj (Al (sT S (aS Z Z)) (Ap (aa (ah (az Z (au (aa (ah ?_)))))))))
   refine ar (ah (aj (Al (eY Z Z S Z) (An Z (Ap (aa (ah (aj (Am Z ?_)))))))))
   refine Am Z ?_
   refine fU (Kp := []) hex Z Z ⟨W,Aq⟩ (List.Perm.refl _) Z Z (fun _ => ?_)
   refine Ap (aa (aA Z (au (aD (aa (aj (Al (bn _ 1 Z Z S) (Am Z (Ap ?_)))))))))
   refine aJ (2) (⟨by omega,fun _=>c1,fun _=>c2,fun h=>absurd h S,fun h=>absurd h S⟩) S Ah (.keep Ak (.keep Ak (.keep Ak (.keep Ak (.keep Ak (.keep Ak (.keep Ak (.nil))))))))
  ·obtain ⟨k,hk,hk2⟩ : ∃ k:Nat,c9 (fun i=>M i col) row (r - row)=(k:Int)∧k<r:=by
    rcases dW (fun i=>M i col) row (r - row) with ⟨e,_⟩ | ⟨k,e,_,hk,_⟩
    ·exact absurd (by rw [e]; decide) c1
    ·exact ⟨k,e,by omega⟩
   have hkn:k≠row:=fun e=>c2 (by rw [hk,e])
   have hex:=qs b r c (gn r c Ac) sM sU sV M U V row col d hr hc hM hU hV hrow hcol hmM k hk2 hkn hk
   unfold ei bF at hex
   have e1:c8 r ⟨M,U,V,row,col⟩=⟨swp k row M,swp k row U,gP k row V,row,col⟩:=by unfold c8;rw [if_neg c1,if_pos c2]; dsimp only;rw [hk]; rfl
   have e2 : ∀ l,iE r ⟨M,U,V,row,col⟩ l=(fT k row l.1,l.2):=fun l=>by unfold iE qt;rw [if_neg c1,if_pos c2]; dsimp only;rw [hk]; rfl
   rw [e1,e2,e2,show cR r c ⟨swp k row M,swp k row U,gP k row V,row,col⟩=false from decide_eq_false (show ¬ (row=r∨col=c) by omega)]
   refine ah (aj (Al (sT S (aS Z Z)) (Ap (aa (ah (az Z (au (aa (ah ?_)))))))))
   refine ar (ah (aj (Al (eY Z Z S Z) (An Z (Ap (aa (ah (aj (Am Z ?_)))))))))
   refine Am Z ?_
   refine fU (Kp := []) hex Z Z ⟨W,Aq⟩ (List.Perm.refl _) Z Z (fun _ => ?_)
   refine Ap (aa (az Z (aU (dg Z (av (av (aC (aa (aj ?_)))))))))
   refine Am Z (Am Z (Al (ao Z) (Al (aL 0 Z Z) ?_)))
   refine Al (sF S (am (hfin _ _ _ _ _) Z ⟨W,Aq⟩)) ?_
   refine Al (ao Z) (Al (ab Z) (aF 0 Z Z Z Z Z (leN Z) Z (Ap (gx ?_))))
   exact lm (σ:=Unit) (ψ:=fun _=>bZ []) () Tryz.results35 W (.keep Ak (.keep Ak (.keep Ak (.keep Ak (.keep Ak (.keep Ak (.keep Ak .nil)))))))
 ·have c1:=h1 S
  have c2:=h2 S
  by_cases c3:M row col<0
  ·have hex:=tH b r c (gn r c Ac) sM sU sV M U V row col d hr hc hM hU hV hrow hcol hmM hmU hmV c3
   unfold ei bF at hex
   have e1:c8 r ⟨M,U,V,row,col⟩=⟨cN row M,cN row U,gG row V,row,col⟩:=by unfold c8;rw [if_neg c1,if_neg (fun h=>h c2),if_pos c3]
   have e2 : ∀ l,iE r ⟨M,U,V,row,col⟩ l=l:=fun l=>by unfold iE qt;rw [if_neg c1,if_neg (fun h=>h c2)]
   rw [e1,e2,e2,show cR r c ⟨cN row M,cN row U,gG row V,row,col⟩=false from decide_eq_false (show ¬ (row=r∨col=c) by omega)]
   refine ah (aj (Al (sT S (aS Z Z)) (Ap (aa (ah (az Z (au (aa (ah ?_)))))))))
   refine ar (ah (aj (Al (eY Z Z S Z) (An Z (Ap (aa (ah (aj (Am Z ?_)))))))))
   refine Am Z ?_
   refine fU (Kp := []) hex Z Z ⟨W,Aq⟩ (List.Perm.refl _) Z Z (fun _ => ?_)
   refine Ap (aa (az Z (aU (dg Z (av (av (aC (aa (aj ?_)))))))))
   refine Am Z (Am Z (Al (ao Z) (Al (aL 0 Z Z) ?_)))
   refine Al (sF S (am (hfin _ _ _ _ _) Z ⟨W,Aq⟩)) ?_
   refine Al (ao Z) (Al (ab Z) (aF 0 Z Z Z Z Z (leN Z) Z (Ap (gx ?_))))
   exact lm (σ:=Unit) (ψ:=fun _=>bZ []) () Tryz.results35 W (.keep Ak (.keep Ak (.keep Ak (.keep Ak (.keep Ak (.keep Ak (.keep Ak .nil)))))))
  ·have hex:=rj b r c (gn r c Ac) sM sU sV M U V row col d hr hc hM hrow hcol (Int.not_lt.1 c3)
   unfold ei bF at hex
   refine ah (aj (Al (sT S (aS Z Z)) (Ap (aa (ah (az Z (au (aa (ah ?_)))))))))
   refine ar (ah (aj (Al (eY Z Z S Z) (An Z (Ap (aa (ah (aj (Am Z ?_)))))))))
   refine Am Z ?_
   refine fU (Kp := []) hex Z Z ⟨W,Aq⟩ (List.Perm.refl _) Z Z (fun _ => ?_)
   refine Ap (aa (aA Z (au (aD (aa (aj (Al (bn _ 1 Z Z S) (Am Z (Ap ?_)))))))))
   refine aJ (3) (⟨by omega,fun _=>c1,fun _=>c2,fun _=>c3,fun h=>absurd h S⟩) S Ah (.keep Ak (.keep Ak (.keep Ak (.keep Ak (.keep Ak (.keep Ak (.keep Ak (.nil))))))))
 ·have c1:=h1 S
  have c2:=h2 S
  have c3:=h3 S
  have hp:M row col≠0:=by
   rcases dW (fun i=>M i col) row (r - row) with ⟨e,_⟩ | ⟨k,e,_,_,hk,_⟩
   ·exact absurd (by rw [e]; decide) c1
   ·have:k=row:=by omega
    rw [this] at hk;exact hk
  by_cases c4:cQ (ct (fun i=>M i col) (M row col) row) r<r
  ·have hex:=qq b r c (gn r c Ac) sM sU sV M U V row col d hr hc hM hU hV hrow hcol hmM hmU hmV hp _ c4 (ij _ _) (e6 _ _ c4)
   unfold ei bF at hex
   have e1:c8 r ⟨M,U,V,row,col⟩=⟨bW (cQ (ct (fun i=>M i col) (M row col) row) r) row (M (cQ (ct (fun i=>M i col) (M row col) row) r) col / M row col) M,bW (cQ (ct (fun i=>M i col) (M row col) row) r) row (M (cQ (ct (fun i=>M i col) (M row col) row) r) col / M row col) U,eQ row (cQ (ct (fun i=>M i col) (M row col) row) r) (M (cQ (ct (fun i=>M i col) (M row col) row) r) col / M row col) V,row,col⟩:=by unfold c8;rw [if_neg c1,if_neg (fun h=>h c2),if_neg c3,if_pos c4]
   have e2 : ∀ l,iE r ⟨M,U,V,row,col⟩ l=l:=fun l=>by unfold iE qt;rw [if_neg c1,if_neg (fun h=>h c2)]
   rw [e1,e2,e2,show cR r c ⟨bW (cQ (ct (fun i=>M i col) (M row col) row) r) row (M (cQ (ct (fun i=>M i col) (M row col) row) r) col / M row col) M,bW (cQ (ct (fun i=>M i col) (M row col) row) r) row (M (cQ (ct (fun i=>M i col) (M row col) row) r) col / M row col) U,eQ row (cQ (ct (fun i=>M i col) (M row col) row) r) (M (cQ (ct (fun i=>M i col) (M row col) row) r) col / M row col) V,row,col⟩=false from decide_eq_false (show ¬ (row=r∨col=c) by omega)]
   refine ah (aj (Al (sT S (aS Z Z)) (Ap (aa (ah (az Z (au (aa (ah ?_)))))))))
   refine ar (ah (aj (Al (eY Z Z S Z) (An Z (Ap (aa (ah (aj (Am Z ?_)))))))))
   refine Am Z ?_
   refine fU (Kp := []) hex Z Z ⟨W,Aq⟩ (List.Perm.refl _) Z Z (fun _ => ?_)
   refine Ap (aa (az Z (aU (dg Z (av (av (aC (aa (aj ?_)))))))))
   refine Am Z (Am Z (Al (ao Z) (Al (aL 0 Z Z) ?_)))
   refine Al (sF S (am (hfin _ _ _ _ _) Z ⟨W,Aq⟩)) ?_
   refine Al (ao Z) (Al (ab Z) (aF 0 Z Z Z Z Z (leN Z) Z (Ap (gx ?_))))
   exact lm (σ:=Unit) (ψ:=fun _=>bZ []) () Tryz.results35 W (.keep Ak (.keep Ak (.keep Ak (.keep Ak (.keep Ak (.keep Ak (.keep Ak .nil)))))))
  ·have hex:=oX b r c (gn r c Ac) sM sU sV M U V row col d hr hc hM hrow hcol hmM hp (fun k hk=>ij _ r k S)
   unfold ei bF at hex
   refine ah (aj (Al (sT S (aS Z Z)) (Ap (aa (ah (az Z (au (aa (ah ?_)))))))))
   refine ar (ah (aj (Al (eY Z Z S Z) (An Z (Ap (aa (ah (aj (Am Z ?_)))))))))
   refine Am Z ?_
   refine fU (Kp := []) hex Z Z ⟨W,Aq⟩ (List.Perm.refl _) Z Z (fun _ => ?_)
   refine Ap (aa (aA Z (au (aD (aa (aj (Al (bn _ 1 Z Z S) (Am Z (Ap ?_)))))))))
   refine aJ (4) (⟨by omega,fun _=>c1,fun _=>c2,fun _=>c3,fun _=>c4⟩) S Ah (.keep Ak (.keep Ak (.keep Ak (.keep Ak (.keep Ak (.keep Ak (.keep Ak (.nil))))))))
 ·have c1:=h1 S
  have c2:=h2 S
  have c3:=h3 S
  have c4:=h4 S
  have hex:=tG b r c (gn r c Ac) sM sU sV M U V row col d S S
  unfold ei bF at hex
  have e1:c8 r ⟨M,U,V,row,col⟩=⟨M,U,V,row+1,col+1⟩:=by unfold c8;rw [if_neg c1,if_neg (fun h=>h c2),if_neg c3,if_neg c4]
  have e2 : ∀ l,iE r ⟨M,U,V,row,col⟩ l=l:=fun l=>by unfold iE qt;rw [if_neg c1,if_neg (fun h=>h c2)]
  rw [e1,e2,e2,rk]
  refine ah (aj (Al (sT S (aS Z Z)) (Ap (aa (ah (az Z (au (aa (ah ?_)))))))))
  refine ar (ah (aj (Al (eY Z Z S Z) (An Z (Ap (aa (ah (aj (Am Z ?_)))))))))
  refine Am Z ?_
  refine fU (Kp := []) hex Z Z ⟨W,Aq⟩ (List.Perm.refl _) Z Z (fun _ => ?_)
  refine Ap (aa (az Z (aU (dg Z (av (av (aC (aa (aj ?_)))))))))
  refine Am Z (Am Z (Al (ao Z) (Al (aL 0 Z Z) ?_)))
  refine Al (am (hfin _ _ _ _ _) Z ⟨W,Aq⟩) ?_
  refine Al (ao Z) (Al (ab Z) (aF 0 Z Z Z Z Z (leN Z) Z (Ap (gx ?_))))
  exact lm (σ:=Unit) (ψ:=fun _=>bZ []) () Tryz.results35 W (.keep Ak (.keep Ak (.keep Ak (.keep Ak (.keep Ak (.keep Ak (.keep Ak .nil)))))))
end Tor
end
section
namespace Tor
open Go Go.RowKit Go.Proofs
structure StL (r c:Nat) (s:SS):Prop where
 row:s.row≤r
 col:s.col≤c
 m : ∀ i j,cx (s.M i j)
 u : ∀ i j,cx (s.U i j)
 v : ∀ i j,cx (s.V i j)
attribute [local irreducible] J PJ aQ one slT cA bG bZ exT cE eP aX a8 slV VT.le Ret bS
attribute [local irreducible] bX
theorem oZ (r c:Nat) (F:Nat→Nat→Int) (hr:r≤1048576) (hc:c≤1048576) (T:Nat) (hT:T≤1048576) (hfin:cR r c (bN r c T (bT F))=true) (hno : ∀ j,j<T→cR r c (bN r c j (bT F))=false) (hS : ∀ t,StL r c (bN r c t (bT F))) :
  Ok Tryz.prog 15 [bp r c F] (one (.int .i64 (T:Nat))):=by
 have hst:=qo r c F hr hc
 refine Ok.enter Tryz.func15 Z Tryz.ntmps15 Z (fun w O => ?_)
 refine ah (aj ?_)
 refine aY Z Z (ltN Z) (fun b1 => ?_)
 refine An Z (Ap (aa (ah (aj (Al (aL 0 Z Z) ?_)))))
 refine eu (hst) Z ⟨W,Aq⟩ Z Z (fun s6 => ?_)
 refine a7 (T:=32) Z Z Z (fun b3 => ?_)
 refine aW 0 Z Z Z Z (Ap (aa (ah (aj (An Z (Ap (aa (ah (ar ?_)))))))))
 obtain ⟨sM,sU,sV⟩:=s6
 dsimp only
 refine eU (i:=1) (F:=ok3 r sM) Z (fun g h hp=>hp) (fun hM0 => ?_)
 refine eU (i:=4) (F:=ok3 r sU) Z (fun g h hp=>hp) (fun hU0 => ?_)
 refine eU (i:=7) (F:=ok3 r sV) Z (fun g h hp=>hp) (fun hV0 => ?_)
 refine bV (Γ' := [(4,one (.int .i64 ((0:Nat):Int))),(3,one (.pointer (some ⟨b3,0,none⟩)))]) (M' := [aX b3 32 15 (kX (bp r c F) (bF r c sM) (bF r r sU) (bF r r sV) 0 0 (one (.bool (cR r c (bT F))))),bO sM.2.1 sM.2.2 r c sM.1,bg c sM.1 F,bO sU.2.1 sU.2.2 r r sU.1,bg r sU.1 idF,bO sV.2.1 sV.2.2 r r sV.1,bg r sV.1 idF]) Aj ?_ ?_
 ·rw [rk]
  exact .keep Ak (.drop (.keep Ak (.keep Ak (.drop (.keep Ak (.keep Ak (.drop (.keep Ak (.keep Ak (.drop .nil))))))))))
 refine bV (Γ' := [(3,_),(4,_)]) Ag (SubM.refl _) ?_
 refine bv (σ:=Nat × S3 × S3 × S3) (Γk := [(3,_)]) Ag (fun x => [(4,one (.int .i64 (x.1:Nat)))]) (fun x M0=>(((((((M0.set 0 (aX b3 32 15 (kX (bp r c F) (bF r c x.2.1) (bF r r x.2.2.1) (bF r r x.2.2.2) (bN r c x.1 (bT F)).row (bN r c x.1 (bT F)).col (one (.bool (cR r c (bN r c x.1 (bT F)))))))).set 1 (bO x.2.1.2.1 x.2.1.2.2 r c x.2.1.1)).set 2 (bg c x.2.1.1 (bN r c x.1 (bT F)).M)).set 3 (bO x.2.2.1.2.1 x.2.2.1.2.2 r r x.2.2.1.1)).set 4 (bg r x.2.2.1.1 (bN r c x.1 (bT F)).U)).set 5 (bO x.2.2.2.2.1 x.2.2.2.2.2 r r x.2.2.2.1)).set 6 (bg r x.2.2.2.1 (bN r c x.1 (bT F)).V))) (fun x=>x.1≤T∧ok3 r x.2.1∧ok3 r x.2.2.1∧ok3 r x.2.2.2) (fun x=>T - x.1) ((0,sM,sU,sV)) (⟨Nat.zero_le _,hM0,hU0,hV0⟩) Ah (.keep Ak (.keep Ak (.keep Ak (.keep Ak (.keep Ak (.keep Ak (.keep Ak (.nil)))))))) (fun x hx => ?_)
 refine bK (Γ' := [(4,_),(3,_)]) (M' := [_,_,_,_,_,_,_]) Z Z ?_
 obtain ⟨t,lM,lU,lV⟩:=x
 obtain ⟨ht,hM,hU,hV⟩:=hx
 dsimp only at ht hM hU hV ⊢
 have hs:=hS t
 by_cases htT:t<T
 ·have hf:=hno t htT
  have e:=nF hf
  rw [hf]
  have hf2 : ¬ ((bN r c t (bT F)).row=r∨(bN r c t (bT F)).col=c):=of_decide_eq_false hf
  generalize bN r c t (bT F)=sx at *
  have hrow:sx.row<r:=by have:=hs.row;omega
  have hcol:sx.col<c:=by have:=hs.col;omega
  have hadv:=mN b3 r c (slT .one r fun i=>cX c (F i)) lM lU lV sx.M sx.U sx.V sx.row sx.col (one (.bool false)) hr hc hM hU hV hrow hcol hs.m hs.u hs.v
  unfold ei at hadv
  refine ah (ah (aj (Al (ab Z) (Al (ak 0 Z Z Z) (Al (bx Z) (Ap (aa (az Z (au ?_)))))))))
  refine aa (ar (ah (aj ?_)))
  refine fR (Kp := []) hadv Z ⟨W,Aq⟩ (List.Perm.refl _) Z Z (fun _ => ?_)
  refine Ap (aa (aj (Am Z (Al (bn _ 1 Z Z S) (An Z (Ap (aD ?_)))))))
  refine aJ ((t+1,iE r sx lM,iE r sx lU,lV)) (⟨htT,lO hM,lO hU,hV⟩) S Ah (.keep (by (dsimp only;rw [e]; exact Own.le_refl _)) (.keep Ak (.keep (by (dsimp only;rw [e]; exact Own.le_refl _)) (.keep Ak (.keep (by (dsimp only;rw [e]; exact Own.le_refl _)) (.keep Ak (.keep (by (dsimp only;rw [e]; exact Own.le_refl _)) (.nil))))))))
 ·have hte:t=T:=by omega
  subst hte
  rw [hfin]
  refine ah (ah (aj (Al (ab Z) (Al (ak 0 Z Z Z) (Al (bx Z) (Ap (aa (aA Z (aU ?_)))))))))
  refine av (av (aC (aa (ah (aj (Am Z (An Z (Ap (aa ?_)))))))))
  refine aG ?_
  refine aP Tryz.results15 (.tmp Z W)
end Tor
end
section
namespace Tor
open Go Go.RowKit Go.Proofs
abbrev stC (r c:Nat) (A:Nat→Nat→Int) (s:SS) (d:VT):cf:=kX (bp r c A) (bp r c s.M) (bp r r s.U) (bp r r s.V) s.row s.col d
abbrev stT (r c:Nat) (A:Nat→Nat→Int) (s:SS) (d:VT):VT:=bG 15 (stC r c A s d)
def t4W:Nat→S3→VT→VT→VT
 | 2, s, φ, ψ => φ
 | 5, s, φ, ψ => φ
 | _, s, φ, ψ => ψ
def t4N:Nat→S3→Mem→Mem→Mem→Mem→Mem
 | 2, s, φ, ψ, χ, ω => φ
 | 5, s, φ, ψ, χ, ω => ψ
 | 8, s, φ, ψ, χ, ω => χ
 | _, s, φ, ψ, χ, ω => ω
theorem vh {E:Env} {D:List Deferred} {Γ:Ctx} {e:Exit} {Q:Exit→Act→World→Prop} {T:TypeId} {b2 b4 r c:Nat} {sA sM sU sV:S3} {A:Nat→Nat→Int} {s:SS} {d:VT} (hA:ok3 r sA) (hM:ok3 r sM) (hU:ok3 r sU) (hV:ok3 r sV)
  (h:PJ E D Γ [aX b2 T 15 (stC r c A s d),aX b4 T 15 (stC r c A s d)] e Q) :
  PJ E D Γ [aX b2 T 15 (kX (gn r c (one (slV sA.2.1 r sA.2.2))) (bF r c sM) (bF r r sU) (bF r r sV) s.row s.col d),bO sM.2.1 sM.2.2 r c sM.1,bg c sM.1 s.M,bO sU.2.1 sU.2.2 r r sU.1,bg r sU.1 s.U,bO sV.2.1 sV.2.2 r r sV.1,bg r sV.1 s.V,bO sA.2.1 sA.2.2 r c sA.1,bg c sA.1 A,aX b4 T 15 (kX (gn r c (one (slV sA.2.1 r sA.2.2))) (bF r c sM) (bF r r sU) (bF r r sV) s.row s.col d)] e Q:=by
 have hE:=fun (b:Nat)=>(vF.box (b:=b) (T:=T) (m:=15) (mJ (Ms := [bO sM.2.1 sM.2.2 r c sM.1,bg c sM.1 s.M,bO sU.2.1 sU.2.2 r r sU.1,bg r sU.1 s.U,bO sV.2.1 sV.2.2 r r sV.1,bg r sV.1 s.V,bO sA.2.1 sA.2.2 r c sA.1,bg c sA.1 A]) (row:=s.row) (col:=s.col) (d:=d) (da hA.1 (bE 6 Z) (bE 7 Z)) (da hM.1 (bE 0 Z) (bE 1 Z)) (da hU.1 (bE 2 Z) (bE 3 Z)) (da hV.1 (bE 4 Z) (bE 5 Z))))
 refine fQ [bO sM.2.1 sM.2.2 r c sM.1,bg c sM.1 s.M,bO sU.2.1 sU.2.2 r r sU.1,bg r sU.1 s.U,bO sV.2.1 sV.2.2 r r sV.1,bg r sV.1 s.V,bO sA.2.1 sA.2.2 r c sA.1,bg c sA.1 A] (ji 10 [1,2,3,4,5,6,7,8,0,9] H Z Z) (.keep (hE b2) (.keep (hE b4) (EntM.refl _))) (qN.refl _) h
attribute [local irreducible] J PJ aQ one slT cA bG bZ exT cE eP aX a8 slV VT.le Ret bS
attribute [local irreducible] bX
set_option maxRecDepth 100000 in
theorem kA (r c:Nat) (A:Nat→Nat→Int) (s0:SS) (n:Int) (hn1:n≤1048576) (hr:r≤1048576) (hc:c≤1048576) (hS : ∀ t,StL r c (bN r c t s0)) :
  Ok Tryz.prog 13 [stT r c A s0 (one (.bool (cR r c s0))),one (.int .i64 n)] (stT r c A (bN r c n.toNat s0) (one (.bool (cR r c (bN r c n.toNat s0))))):=by
 have h0:=hS 0
 have hrow:=h0.row
 have hcol:=h0.col
 rw [show bN r c 0 s0=s0 from rfl] at hrow hcol
 have hf1:=jI r c r c r r r r A s0.M s0.U s0.V s0.row s0.col (one (.bool (cR r c s0))) 
 have hfit:jr r c r c r r r r s0.row s0.col=true:=decide_eq_true S
 rw [hfit] at hf1
 have hf2:=dP r c (slT .one r fun i=>cX c (A i)) (bp r c s0.M) (bp r r s0.U) (bp r r s0.V) s0.row s0.col (one (.bool (cR r c s0)))
 rw [gX] at hf2
 refine Ok.enter Tryz.func13 Z Tryz.ntmps13 Z (fun w O => ?_)
 by_cases hn:n≤0
 ·rw [show n.toNat=0 by omega,show bN r c 0 s0=s0 from rfl]
  refine ah (aj ?_)
  refine aY Z Z (ltN Z) (fun b2 => ?_)
  refine a7 (T:=32) Z Z Z (fun b4 => ?_)
  refine Ap (aa (ah (ah (aj (Am Z (Al (sT (by assumption) (eR Z Z)) (Am Z (sn0 Z Z Z Z Z (sn0 Z Z Z Z Z ?_)))))))))
  refine sn0 Z Z Z Z Z (Al (aE Z Z) (Am Z (sn0 Z Z Z Z Z (sn0 Z Z Z Z Z (Al (aE Z Z) (Ap (aa (az Z (ah ?_)))))))))
  refine aj (Al (aL 1 Z Z) (aW 0 Z Z Z Z (Ap (aa (aG (aB ?_))))))
  refine aP Tryz.results13 (.cellW 0 Z Z W)
 ·by_cases hf:cR r c s0=true
  ·rw [mf hf]
   rw [show decide (s0.row=r∨s0.col=c)=cR r c s0 from rfl,hf] at hf2
   rw [hf] at hf1 ⊢
   refine ah (aj ?_)
   refine aY Z Z (ltN Z) (fun b2 => ?_)
   refine a7 (T:=32) Z Z Z (fun b4 => ?_)
   refine Ap (aa (ah (ah (aj (Am Z (Al (sF (by assumption) (eR Z Z)) (Am Z (Ao (aL 1 Z Z) ?_))))))))
   refine Ao (am (hf1) Z ⟨W,Aq⟩) ?_
   refine Ao (bx Z) (Al (ay Z Z) (Am Z (Ao (aL 1 Z Z) ?_)))
   refine Ao (am (hf2) Z ⟨W,Aq⟩) ?_
   refine Al (ay Z Z) (Ap (aa (az Z (ah (aj (Al (aL 1 Z Z) (aW 0 Z Z Z Z (Ap (aa ?_)))))))))
   refine aG (aB ?_)
   refine aP Tryz.results13 (.cellW 0 Z Z W)
  ·have hf:cR r c s0=false:=by simpa using hf
   rw [show decide (s0.row=r∨s0.col=c)=cR r c s0 from rfl,hf] at hf2
   rw [hf] at hf1 ⊢
   have hco:=fa (eM r c A hr hc)
   have hcm:=fa (eM r c s0.M hr hc)
   have hcu:=fa (eM r r s0.U hr hr)
   have hcv:=fa (eM r r s0.V hr hr)
   refine ah (aj ?_)
   refine aY Z Z (ltN Z) (fun b2 => ?_)
   refine a7 (T:=32) Z Z Z (fun b4 => ?_)
   refine Ap (aa (ah (ah (aj (Am Z (Al (sF (by assumption) (eR Z Z)) (Am Z (Ao (aL 1 Z Z) ?_))))))))
   refine Ao (am (hf1) Z ⟨W,Aq⟩) ?_
   refine Ao (bx Z) (Al (ay Z Z) (Am Z (Ao (aL 1 Z Z) ?_)))
   refine Ao (am (hf2) Z ⟨W,Aq⟩) ?_
   refine Al (ay Z Z) (Ap (aa (aA Z (au (aa (ah ?_))))))
   refine bV (Γ' := [(4,_),(2,_),(1,_)]) (M' := [_,_]) Aj (SubM.refl _) ?_
   refine oU 2 12 [2,5,8,11] ([],none,0) (fun j s=>t4W j s (bF r c s) (bF r r s)) (fun j s=>t4N j s (iW r c s A) (iW r c s s0.M) (iW r r s s0.U) (iW r r s s0.V)) aV X Y Z Y ?_
   refine kx Z (fun s B=>ab Z) Z ?_
   refine kx Z (fun s B=>ak 1 Z Z Z) Z ?_
   refine kc Z (fun s B=>ek hco Z ⟨W,Aq⟩) Z ?_
   refine kx Z (fun s B=>ab Z) Z ?_
   refine kx Z (fun s B=>ak 1 Z Z Z) Z ?_
   refine kc Z (fun s B=>ek hcm Z ⟨W,Aq⟩) Z ?_
   refine kx Z (fun s B=>ab Z) Z ?_
   refine kx Z (fun s B=>ak 1 Z Z Z) Z ?_
   refine kc Z (fun s B=>ek hcu Z ⟨W,Aq⟩) Z ?_
   refine kx Z (fun s B=>ab Z) Z ?_
   refine kx Z (fun s B=>ak 1 Z Z Z) Z ?_
   refine kc Z (fun s B=>ek hcv Z ⟨W,Aq⟩) Z ?_
   refine .nil fun s => ?_
   refine lH (Γ' := [(28,bF r r (s 11)),(25,bF r r (s 8)),(22,bF r c (s 5)),(19,bF r c (s 2)),(4,_),(2,_),(1,_)]) (M' := [ef (ok3 r (s 2)),bO (s 2).2.1 (s 2).2.2 r c (s 2).1,bg c (s 2).1 A,ef (ok3 r (s 5)),bO (s 5).2.1 (s 5).2.2 r c (s 5).1,bg c (s 5).1 s0.M,ef (ok3 r (s 8)),bO (s 8).2.1 (s 8).2.2 r r (s 8).1,bg r (s 8).1 s0.U,ef (ok3 r (s 11)),bO (s 11).2.1 (s 11).2.2 r r (s 11).1,bg r (s 11).1 s0.V,_,_]) Aj (SubM.refl _) ?_
   generalize s 2=sA
   generalize s 5=sM
   generalize s 8=sU
   generalize s 11=sV
   refine Al (ab Z) (aF 13 Z Z Z Z Z (leN Z) Z (Al (ab Z) (aF 13 Z Z Z Z Z (leN Z) Z (Al (ab Z) (aF 13 Z Z Z Z Z (leN Z) Z (Al (ab Z) (aF 13 Z Z Z Z Z (leN Z) Z (Ap (aa ?_)))))))))
   refine ah (ar ?_)
   refine eU (i:=0) (F:=ok3 r sA) Z (fun g h hp=>hp) (fun hA0 => ?_)
   refine eU (i:=3) (F:=ok3 r sM) Z (fun g h hp=>hp) (fun hM0 => ?_)
   refine eU (i:=6) (F:=ok3 r sU) Z (fun g h hp=>hp) (fun hU0 => ?_)
   refine eU (i:=9) (F:=ok3 r sV) Z (fun g h hp=>hp) (fun hV0 => ?_)
   refine w7 (ji 14 [13,4,5,7,8,10,11,1,2,12,0,3,6,9] H Z Z) ?_
   refine bV (Γ' := [(4,one (.pointer (some ⟨b4,0,none⟩))),(2,one (.pointer (some ⟨b2,0,none⟩))),(1,one (.int .i64 (n - (0:Nat))))]) (M' := [aX b2 32 15 (kX (gn r c (one (slV sA.2.1 r sA.2.2))) (bF r c sM) (bF r r sU) (bF r r sV) s0.row s0.col (one (.bool (cR r c s0)))),bO sM.2.1 sM.2.2 r c sM.1,bg c sM.1 s0.M,bO sU.2.1 sU.2.2 r r sU.1,bg r sU.1 s0.U,bO sV.2.1 sV.2.2 r r sV.1,bg r sV.1 s0.V,bO sA.2.1 sA.2.2 r c sA.1,bg c sA.1 A,aX b4 32 15 (dw #[Value.int IntKind.i64 0,Value.int IntKind.i64 0,Value.slice none 0 0,Value.int IntKind.i64 0,Value.int IntKind.i64 0,Value.slice none 0 0,Value.int IntKind.i64 0,Value.int IntKind.i64 0,Value.slice none 0 0,Value.int IntKind.i64 0,Value.int IntKind.i64 0,Value.slice none 0 0,Value.int IntKind.i64 0,Value.int IntKind.i64 0,Value.bool false] [(0, .agg 3),(3, .agg 3),(6, .agg 3),(9, .agg 3),(12, .one),(13, .one),(14, .one)])]) (eS.cons Z W (eS.cons Z W (eS.cons Z (aq (by rw [Int.natCast_zero,Int.sub_zero])) eS.nil))) ?_ ?_
   ·rw [hf]
    exact .keep Ak (.keep Ak (.keep Ak (.keep Ak (.keep Ak (.keep Ak (.keep Ak (.keep Ak (.keep Ak (.keep Ak (.drop (.drop (.drop (.drop .nil)))))))))))))
   refine bV (Γ' := [(1,_),(2,_),(4,_)]) Ag (SubM.refl _) ?_
   refine bv (σ:=Nat × S3 × S3 × S3) (Γk := [(2,_),(4,_)]) Ag (fun x => [(1,one (.int .i64 (n - (x.1:Nat))))]) (fun x M0=>(((((((M0.set 0 (aX b2 32 15 (kX (gn r c (one (slV sA.2.1 r sA.2.2))) (bF r c x.2.1) (bF r r x.2.2.1) (bF r r x.2.2.2) (bN r c x.1 s0).row (bN r c x.1 s0).col (one (.bool (cR r c (bN r c x.1 s0))))))).set 1 (bO x.2.1.2.1 x.2.1.2.2 r c x.2.1.1)).set 2 (bg c x.2.1.1 (bN r c x.1 s0).M)).set 3 (bO x.2.2.1.2.1 x.2.2.1.2.2 r r x.2.2.1.1)).set 4 (bg r x.2.2.1.1 (bN r c x.1 s0).U)).set 5 (bO x.2.2.2.2.1 x.2.2.2.2.2 r r x.2.2.2.1)).set 6 (bg r x.2.2.2.1 (bN r c x.1 s0).V))) (fun x=>(x.1:Int)≤n∧ok3 r x.2.1∧ok3 r x.2.2.1∧ok3 r x.2.2.2) (fun x=>n.toNat - x.1) ((0,sM,sU,sV)) (⟨by show ((0:Nat):Int)≤n;omega,hM0,hU0,hV0⟩) Ah (.keep Ak (.keep Ak (.keep Ak (.keep Ak (.keep Ak (.keep Ak (.keep Ak (.keep Ak (.keep Ak (.keep Ak (.nil))))))))))) (fun x hx => ?_)
   refine bK (Γ' := [(1,_),(2,_),(4,_)]) (M' := [_,_,_,_,_,_,_,_,_,_]) Z Z ?_
   obtain ⟨t,lM,lU,lV⟩:=x
   obtain ⟨ht,hM,hU,hV⟩:=hx
   dsimp only at ht hM hU hV ⊢
   have hs:=hS t
   by_cases htn:(t:Int)=n
   ·have hnt:n.toNat=t:=by omega
    rw [hnt]
    refine ah (ah (aj (Am Z (Al (sF S (dS Z Z)) (Am Z (sn0 Z Z Z Z Z (sn0 Z Z Z Z Z (sn0 Z Z Z Z Z (Al (ay Z Z) ?_)))))))))
    refine Ap (aa (aA Z (aU (av (av (aC (aa (ah (aj ?_)))))))))
    refine Al (aL 0 Z Z) (aW 9 Z Z Z Z (Ap (aa (aG (vh hA0 hM hU hV ?_)))))
    refine aP Tryz.results13 (.cellW 1 Z Z W)
   ·have hs:=hS t
    by_cases hft:cR r c (bN r c t s0)=true
    ·have e:bN r c n.toNat s0=bN r c t s0:=tk hft S
     rw [e]
     have hf3:=fun (m u v:VT)=>dP r c (one (slV sA.2.1 r sA.2.2)) m u v (bN r c t s0).row (bN r c t s0).col (one (.bool (cR r c (bN r c t s0))))
     rw [gX,show decide ((bN r c t s0).row=r∨(bN r c t s0).col=c)=cR r c (bN r c t s0) from rfl,hft] at hf3
     rw [hft]
     refine ah (ah (aj (Am Z (Al (sT S (dS Z Z)) (Am Z (Ao (aL 0 Z Z) ?_))))))
     refine Ao (am (hf3 _ _ _) Z ⟨W,Aq⟩) ?_
     refine Ao (bx Z) (Al (aE Z Z) (Ap (aa (aA Z (aU (av (av (aC (aa ?_)))))))))
     refine ah (aj (Al (aL 0 Z Z) (aW 9 Z Z Z Z (Ap (aa (aG (vh hA0 hM hU hV ?_)))))))
     refine aP Tryz.results13 (.cellW 1 Z Z W)
    ·have hft:cR r c (bN r c t s0)=false:=by simpa using hft
     have hf3:=fun (m u v:VT)=>dP r c (one (slV sA.2.1 r sA.2.2)) m u v (bN r c t s0).row (bN r c t s0).col (one (.bool (cR r c (bN r c t s0))))
     rw [gX,show decide ((bN r c t s0).row=r∨(bN r c t s0).col=c)=cR r c (bN r c t s0) from rfl,hft] at hf3
     have e:=nF hft
     rw [hft]
     have hf2 : ¬ ((bN r c t s0).row=r∨(bN r c t s0).col=c):=of_decide_eq_false hft
     generalize bN r c t s0=sx at *
     have hrow:sx.row<r:=by have:=hs.row;omega
     have hcol:sx.col<c:=by have:=hs.col;omega
     have hadv:=mN b2 r c (one (slV sA.2.1 r sA.2.2)) lM lU lV sx.M sx.U sx.V sx.row sx.col (one (.bool false)) hr hc hM hU hV hrow hcol hs.m hs.u hs.v
     unfold ei at hadv
     refine ah (ah (aj (Am Z (Al (sT S (dS Z Z)) (Am Z (Ao (aL 0 Z Z) ?_))))))
     refine Ao (am (hf3 _ _ _) Z ⟨W,Aq⟩) ?_
     refine Ao (bx Z) (Al (aE Z Z) (Ap (aa (az Z (au (aa (ah (ar (aj ?_)))))))))
     refine fR (Kp := [_,_,_]) hadv Z ⟨W,Aq⟩ (List.Perm.refl _) Z Z (fun _ => ?_)
     refine Ap (aD (aa (aj (Am Z (Al (ey Z Z (aR S S)) (An Z (Ap ?_)))))))
     refine aJ ((t+1,iE r sx lM,iE r sx lU,lV)) (⟨by show ((t+1:Nat):Int)≤n;omega,lO hM,lO hU,hV⟩) S Ah (.keep (by (dsimp only;rw [e]; exact Own.le_refl _)) (.keep Ak (.keep (by (dsimp only;rw [e]; exact Own.le_refl _)) (.keep Ak (.keep (by (dsimp only;rw [e]; exact Own.le_refl _)) (.keep Ak (.keep (by (dsimp only;rw [e]; exact Own.le_refl _)) (.keep Ak (.keep Ak (.keep Ak (.nil)))))))))))
end Tor
end
