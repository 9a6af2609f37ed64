/-
  Theorems that the proofs of laws of this seat rest on.
  No condition.
-/
import Derived.Test.YtamglpeiacmooaaGreatZA7
set_option maxHeartbeats 20000000
set_option linter.unusedVariables false
set_option linter.unusedSimpArgs false
section
namespace Tor
open Go Go.RowKit Go.Proofs
theorem m5 {x:Int} (h:bV x) (q:Int):bV (x / q):=Nat.le_trans (cx (Int.natAbs_ediv_le_natAbs x q)) h
def fG (k r:Nat) (q:Int) (j:Nat) (F:Nat→Nat→Int):Nat→Nat→Int:=fun a b=>if a=k∧b<j then F a b - q*F r b else F a b
def iS (r k:Nat) (q:Int) (i:Nat) (F:Nat→Nat→Int):Nat→Nat→Int:=fun a b=>if a<i∧b=r then F a b+q*F a k else F a b
theorem vo {k r j:Nat} {q:Int} {F:Nat→Nat→Int} : fG k r q j F k j=F k j:=by unfold fG;rw [if_neg S]
theorem pj {k r j b:Nat} {q:Int} {F:Nat→Nat→Int} (h:k≠r):fG k r q j F r b=F r b:=by unfold fG;rw [if_neg (fun e=>h e.1.symm)]
theorem m6 {i r k b:Nat} {q:Int} {F:Nat→Nat→Int} : iS r k q i F i b=F i b:=by unfold iS;rw [if_neg S]
theorem jD {k r j:Nat} {q:Int} {F:Nat→Nat→Int} (h : ∀ i j,bV (F i j)):cg (fG k r q j F k j):=by rw [vo]; exact bv (h _ _)
theorem jE {k r j b:Nat} {q:Int} {F:Nat→Nat→Int} (hne:k≠r) (h : ∀ i j,bV (F i j)):cg (fG k r q j F r b):=by rw [pj hne]; exact bv (h _ _)
theorem l3 {k r j b:Nat} {q:Int} {F:Nat→Nat→Int} (hne:k≠r) (hq:bV q) (h : ∀ i j,bV (F i j)):cg (q*fG k r q j F r b):=by rw [pj hne]; exact gh hq (h _ _)
theorem jF {i r k b:Nat} {q:Int} {F:Nat→Nat→Int} (h : ∀ i j,bV (F i j)):cg (iS r k q i F i b):=by rw [m6]; exact bv (h _ _)
theorem sH {i r k b:Nat} {q:Int} {F:Nat→Nat→Int} (hq:bV q) (h : ∀ i j,bV (F i j)):cg (q*iS r k q i F i b):=by rw [m6]; exact gh hq (h _ _)
theorem n8 {c k r:Nat} {q:Int} {bs:List Nat} {F:Nat→Nat→Int} : Own.le (aZ c bs F) (aZ c bs (fG k r q 0 F)):=dM fun a b _ _=>by unfold fG;rw [if_neg S]
theorem n9 {c k r:Nat} {q:Int} {bs:List Nat} {F:Nat→Nat→Int} : Own.le (aZ c bs (fG k r q c F)) (aZ c bs (cW k r q F)):=dM fun a b _ hb=>by
 unfold fG cW
 by_cases h:a=k
 ·rw [if_pos ⟨h,hb⟩,if_pos h]
 ·rw [if_neg (fun e=>h e.1),if_neg h]
theorem qs {c k r j:Nat} {q:Int} {bs:List Nat} {F:Nat→Nat→Int} (hne:k≠r):Own.le (ce 55 (.agg 2) c bs (fd (fun a b=>bq (fG k r q j F a b)) k j (bq (fG k r q j F k j - q*fG k r q j F r j)))) (aZ c bs (fG k r q (j+1) F)):=dW fun a b _ _=>by
 unfold fd
 rw [vo,pj hne]
 unfold fG
 by_cases h:a=k
 ·subst h
  by_cases h2:b=j
  ·subst h2;simp
  ·have h3:b<j+1↔b<j:=by omega
   simp [h2,h3]
 ·simp [h]
theorem vp {c k r n:Nat} {q:Int} {bs:List Nat} {F:Nat→Nat→Int} (hb:bs.length=n):Own.le (aZ c bs (iS r k q n F)) (aZ c bs (gE r k q F)):=dM fun a b ha _=>by
 subst hb
 unfold iS gE
 by_cases h:b=r
 ·rw [if_pos ⟨ha,h⟩,if_pos h]
 ·rw [if_neg (fun e=>h e.2),if_neg h]
theorem vq {c k r i:Nat} {q:Int} {bs:List Nat} {F:Nat→Nat→Int} : Own.le (ce 55 (.agg 2) c bs (fd (fun a b=>bq (iS r k q i F a b)) i r (bq (iS r k q i F i r+q*iS r k q i F i k)))) (aZ c bs (iS r k q (i+1) F)):=dW fun a b _ _=>by
 unfold fd
 rw [m6,m6]
 unfold iS
 by_cases h:b=r
 ·subst h
  by_cases h2:a=i
  ·subst h2;simp
  ·have h3:a<i+1↔a<i:=by omega
   simp [h2,h3]
 ·simp [h]
attribute [local irreducible] J PJ aU one slT cC bJ ci exT cH eP aY bf slV VT.le Ret bW
attribute [local irreducible] ce
theorem pk (b r c:Nat) (A:VT) [hA:Flat A (.agg 3)] (sM sU sV:S3) (M U V:Nat→Nat→Int) (row col:Nat) (d:VT) [hd:Flat d .one] (hr:r≤1048576) (hc:c≤1048576) (hM:ok3 r sM) (hrow:row<r) (hcol:col<c) (hmM : ∀ i j,bV (M i j)) (hp:M row col≠0) (h0 : ∀ k,k<r→bQ (fun i=>M i col) (M row col) row k=false) :
  OkI Tryz.prog 69 [one (.pointer (some ⟨b,0,none⟩))] (et b r c A sM sU sV M U V row col d)
   (fun _:Unit=>one (.bool false)) (fun _=>et b r c A sM sU sV M U V row col d):=by
 obtain ⟨bs,bo,cap,rfl,hbl⟩:=hM.some S
 have hdm:=fun k=>nY (M k col) (M row col) hp (bv (hmM _ _)) (bv (hmM _ _))
 unfold et bh
 dsimp only at hbl ⊢
 refine OkI.enter Tryz.func69 Z Tryz.ntmps69 Z (fun w O => ?_)
 refine ah (aj (An Z (Ap (ab (ah (aN 9 aK X Y (Am Z (Al (aq Z) (Al (aa Z) ?_)))))))))
 refine Al (ak 0 Z Z Z) (Am Z (Al (aq Z) (Al (aa Z) (Al (ak 0 Z Z Z) (An Z (Ap (An Z (Ap (ab ?_)))))))))
 refine ah (ah (aj (Am Z (Al (aq Z) (Al (aa Z) (Al (aa Z) (Al (au 0 3 0 Z Z Z Z Z) (Am Z (Ap ?_)))))))))
 refine ab (ao (bL (Γ' := [(0,_),(2,_),(3,_),(4,_),(27,_),(28,_)]) Ag (SubM.refl _) ?_))
 refine bE (σ:=Nat) (Γk := [(0,_),(3,_),(4,_),(27,_)]) Ag (fun k => [(28,one (.int .i64 (k:Nat)))]) (fun k M0=>M0) (fun k=>k≤r) (fun k=>r - k) (0) (Nat.zero_le _) Ah (.keep Ak (.keep Ak (.keep Ak (.keep Ak (.keep Ak (.keep Ak (.keep Ak (.nil)))))))) (fun k hk => ?_)
 refine bN (Γ' := [(28,_),(0,_),(3,_),(4,_),(27,_)]) (M' := [_,_,_,_,_,_,_]) Z Z ?_
 by_cases hk:k<r
 ·have hn:=h0 k hk
  simp only [bQ,decide_eq_false_iff_not] at hn
  have hz:=cJ (M k col)
  have hzq:=cJ (M k col / M row col)
  by_cases h1:k=row
  ·refine ah (aj (Al (sT S (aO Z Z)) (Ap (ab (ah (aB Z (av (ab (ah ?_)))))))))
   refine ao (ah (aj (Am Z (An Z (Ap (ab (ah (aj (Am Z ?_)))))))))
   refine Al (aq Z) (Al (aa Z) (Al (aa Z) (Al (au 0 3 2 Z Z Z Z Z) (Am Z (Al (an Z Z S) (Al (aS 1 Z Z S) (Am Z (Al (an Z Z S) (Al (bF 2 Z Z (bM S) S) ?_)))))))))
   refine a5 (T:=55) Z (ltN Z) (fun b6 => ?_)
   refine aF 0 Z Z Z Z Z (leN Z) Z (Ap (ab (ah ?_)))
   refine cT aK X X ?_
   refine ux (fun B=>ak 0 Z Z Z) Z Z ?_
   refine ux (fun B=>ae Z) Z Z ?_
   refine ux (fun B=>aq Z) Z Z ?_
   refine ux (fun B=>aa Z) Z Z ?_
   refine ux (fun B=>aa Z) Z Z ?_
   refine ux (fun B=>au 1 3 2 Z Z Z Z Z) Z Z ?_
   refine ux (fun B=>ae Z) Z Z ?_
   refine ux (fun B=>an Z Z S) Z Z ?_
   refine ux (fun B=>aS 2 Z Z S) Z Z ?_
   refine ux (fun B=>ae Z) Z Z ?_
   refine ux (fun B=>an Z Z S) Z Z ?_
   refine ux (fun B=>bF 3 Z Z (bM S) S) Z Z ?_
   refine uxk (hdm _) Z ⟨W,W,Aq⟩ Z ?_
   refine ux (fun B=>ae Z) Z Z ?_
   refine ux (fun B=>a6 Z Z) Z Z ?_
   refine ux (fun B=>a6 Z Z) Z Z ?_
   refine ux (fun B=>a6 Z Z) Z Z ?_
   refine ua Z (ua Z (us Z (us Z ?_)))
   refine ux (fun B=>ai Z) Z Z ?_
   refine RunU.nil (fun γ => ?_)
   refine bY (M' := [_,_,_,_,_,_,_,_,_,_]) Z (ab (ah (ah (aj (Am Z (Am Z (Al (sT S (bI Z Z)) (Am Z (sn0 Z Z Z Z Z ?_)))))))))
   refine sn0 Z Z Z Z Z (sn0 Z Z Z Z Z (sn0 Z Z Z Z Z (snU Z Z Z Z (snU Z Z Z Z (snU Z Z Z Z (sn0 Z Z Z Z Z (Al (aA Z Z) (Am Z (sn0 Z Z Z Z Z ?_)))))))))
   refine sn0 Z Z Z Z Z (sn0 Z Z Z Z Z (sn0 Z Z Z Z Z (snU Z Z Z Z (snU Z Z Z Z (snU Z Z Z Z (sn0 Z Z Z Z Z (Al (aA Z Z) (Ap (ab ?_)))))))))
   refine aB Z (a4 (az (aI (ab (aj (Al (bj _ 1 Z Z S) (Am Z (Ap ?_))))))))
   refine aM (k+1) (hk) S Ah (.drop (.drop (.drop (.keep Ak (.keep Ak (.keep Ak (.keep Ak (.keep Ak (.keep Ak (.keep Ak (.nil)))))))))))
  ·by_cases h2:k<row
   ·have h3:dm (M k col / M row col)=0:=hzq.2 (Decidable.not_not.1 fun e=>hn ⟨h1, .inl ⟨h2,e⟩⟩)
    refine ah (aj (Al (sT S (aO Z Z)) (Ap (ab (ah (aB Z (av (ab (ah ?_)))))))))
    refine ao (ah (aj (Am Z (An Z (Ap (ab (ah (aj (Am Z ?_)))))))))
    refine Al (aq Z) (Al (aa Z) (Al (aa Z) (Al (au 0 3 2 Z Z Z Z Z) (Am Z (Al (an Z Z S) (Al (aS 1 Z Z S) (Am Z (Al (an Z Z S) (Al (bF 2 Z Z (bM S) S) ?_)))))))))
    refine a5 (T:=55) Z (ltN Z) (fun b6 => ?_)
    refine aF 0 Z Z Z Z Z (leN Z) Z (Ap (ab (ah ?_)))
    refine cT aK X X ?_
    refine ux (fun B=>ak 0 Z Z Z) Z Z ?_
    refine ux (fun B=>ae Z) Z Z ?_
    refine ux (fun B=>aq Z) Z Z ?_
    refine ux (fun B=>aa Z) Z Z ?_
    refine ux (fun B=>aa Z) Z Z ?_
    refine ux (fun B=>au 1 3 2 Z Z Z Z Z) Z Z ?_
    refine ux (fun B=>ae Z) Z Z ?_
    refine ux (fun B=>an Z Z S) Z Z ?_
    refine ux (fun B=>aS 2 Z Z S) Z Z ?_
    refine ux (fun B=>ae Z) Z Z ?_
    refine ux (fun B=>an Z Z S) Z Z ?_
    refine ux (fun B=>bF 3 Z Z (bM S) S) Z Z ?_
    refine uxk (hdm _) Z ⟨W,W,Aq⟩ Z ?_
    refine ux (fun B=>ae Z) Z Z ?_
    refine ux (fun B=>a6 Z Z) Z Z ?_
    refine ux (fun B=>a6 Z Z) Z Z ?_
    refine ux (fun B=>a6 Z Z) Z Z ?_
    refine ua Z (ua Z (us Z (us Z ?_)))
    refine ux (fun B=>ai Z) Z Z ?_
    refine RunU.nil (fun γ => ?_)
    refine bY (M' := [_,_,_,_,_,_,_,_,_,_]) Z (ab (ah (ah (aj (Am Z (Am Z (Al (sF S (bI Z Z)) (Am Z (Ao (ae Z) ?_)))))))))
    refine Ao (ae Z) (Ao (sT S (aO Z Z)) (Ao (ae Z) (Ao (ak 1 Z Z Z) ?_)))
    refine Ao (am (cB _) Z ⟨W,Aq⟩) ?_
    refine Ao (sT (by assumption) (bI Z Z)) (Ao (aA Z Z) (Al (aw Z Z) (Am Z (sn0 Z Z Z Z Z (sn0 Z Z Z Z Z (sn0 Z Z Z Z Z (sn0 Z Z Z Z Z (snU Z Z Z Z (snU Z Z Z Z ?_)))))))))
    refine snU Z Z Z Z (sn0 Z Z Z Z Z (Al (aA Z Z) (Ap (ab (aB Z (a4 (az (aI (ab ?_)))))))))
    refine aj (Al (bj _ 1 Z Z S) (Am Z (Ap ?_)))
    refine aM (k+1) (hk) S Ah (.drop (.drop (.drop (.keep Ak (.keep Ak (.keep Ak (.keep Ak (.keep Ak (.keep Ak (.keep Ak (.nil)))))))))))
   ·have h3:dm (M k col)=0:=hz.2 (Decidable.not_not.1 fun e=>hn ⟨h1, .inr ⟨by omega,e⟩⟩)
    refine ah (aj (Al (sT S (aO Z Z)) (Ap (ab (ah (aB Z (av (ab (ah ?_)))))))))
    refine ao (ah (aj (Am Z (An Z (Ap (ab (ah (aj (Am Z ?_)))))))))
    refine Al (aq Z) (Al (aa Z) (Al (aa Z) (Al (au 0 3 2 Z Z Z Z Z) (Am Z (Al (an Z Z S) (Al (aS 1 Z Z S) (Am Z (Al (an Z Z S) (Al (bF 2 Z Z (bM S) S) ?_)))))))))
    refine a5 (T:=55) Z (ltN Z) (fun b6 => ?_)
    refine aF 0 Z Z Z Z Z (leN Z) Z (Ap (ab (ah ?_)))
    refine cT aK X X ?_
    refine ux (fun B=>ak 0 Z Z Z) Z Z ?_
    refine ux (fun B=>ae Z) Z Z ?_
    refine ux (fun B=>aq Z) Z Z ?_
    refine ux (fun B=>aa Z) Z Z ?_
    refine ux (fun B=>aa Z) Z Z ?_
    refine ux (fun B=>au 1 3 2 Z Z Z Z Z) Z Z ?_
    refine ux (fun B=>ae Z) Z Z ?_
    refine ux (fun B=>an Z Z S) Z Z ?_
    refine ux (fun B=>aS 2 Z Z S) Z Z ?_
    refine ux (fun B=>ae Z) Z Z ?_
    refine ux (fun B=>an Z Z S) Z Z ?_
    refine ux (fun B=>bF 3 Z Z (bM S) S) Z Z ?_
    refine uxk (hdm _) Z ⟨W,W,Aq⟩ Z ?_
    refine ux (fun B=>ae Z) Z Z ?_
    refine ux (fun B=>a6 Z Z) Z Z ?_
    refine ux (fun B=>a6 Z Z) Z Z ?_
    refine ux (fun B=>a6 Z Z) Z Z ?_
    refine ua Z (ua Z (us Z (us Z ?_)))
    refine ux (fun B=>ai Z) Z Z ?_
    refine RunU.nil (fun γ => ?_)
    refine bY (M' := [_,_,_,_,_,_,_,_,_,_]) Z (ab (ah (ah (aj (Am Z (Am Z (Al (sF S (bI Z Z)) (Am Z (Ao (ae Z) ?_)))))))))
    refine Ao (ae Z) (Ao (sF S (aO Z Z)) (Ao (ae Z) (sn0 Z Z Z Z Z (sn0 Z Z Z Z Z (sn0 Z Z Z Z Z (Ao (aw Z Z) (Al (aw Z Z) (Am Z (Ao (ae Z) ?_)))))))))
    refine Ao (ae Z) (Ao (sT S (cK Z Z)) (Ao (ae Z) (Ao (ak 2 Z Z Z) ?_)))
    refine Ao (am (cB _) Z ⟨W,Aq⟩) ?_
    refine Ao (sT (by assumption) (bI Z Z)) (Ao (aA Z Z) (Al (aw Z Z) (Ap (ab (aB Z (a4 (az (aI (ab ?_)))))))))
    refine aj (Al (bj _ 1 Z Z S) (Am Z (Ap ?_)))
    refine aM (k+1) (hk) S Ah (.drop (.drop (.drop (.keep Ak (.keep Ak (.keep Ak (.keep Ak (.keep Ak (.keep Ak (.keep Ak (.nil)))))))))))
 ·refine ah (aj (Al (sF S (aO Z Z)) (Ap (ab (ah (ay Z (a4 (az (az ?_)))))))))
  refine aI (ab (ah (aj (An Z (Ap (ab (aH (i5 () Tryz.results69 (.tmp Z W) ?_))))))))
  exact SubM.refl _
theorem qt (b r c:Nat) (A:VT) [hA:Flat A (.agg 3)] (sM sU sV:S3) (M U V:Nat→Nat→Int) (row col:Nat) (d:VT) [hd:Flat d .one] (hr:r≤1048576) (hc:c≤1048576) (hM:ok3 r sM) (hU:ok3 r sU) (hV:ok3 r sV) (hrow:row<r) (hcol:col<c) (hmM : ∀ i j,bV (M i j)) (hmU : ∀ i j,bV (U i j)) (hmV : ∀ i j,bV (V i j)) (hp:M row col≠0) (k0:Nat) (hk0:k0<r) (hf : ∀ k,k<k0→bQ (fun i=>M i col) (M row col) row k=false) (h0:bQ (fun i=>M i col) (M row col) row k0=true) :
  OkI Tryz.prog 69 [one (.pointer (some ⟨b,0,none⟩))] (et b r c A sM sU sV M U V row col d)
   (fun _:Unit=>one (.bool true)) (fun _=>et b r c A sM sU sV (cW k0 row (M k0 col / M row col) M) (cW k0 row (M k0 col / M row col) U) (gE row k0 (M k0 col / M row col) V) row col d):=by
 obtain ⟨bs,bo,cap,rfl,hbl⟩:=hM.some S
 obtain ⟨bsU,boU,capU,rfl,hblU⟩:=hU.some S
 obtain ⟨bsV,boV,capV,rfl,hblV⟩:=hV.some S
 have hdm:=fun k=>nY (M k col) (M row col) hp (bv (hmM _ _)) (bv (hmM _ _))
 have hmq:=m5 (hmM k0 col) (M row col)
 unfold et bh
 dsimp only at hbl hblU hblV ⊢
 refine OkI.enter Tryz.func69 Z Tryz.ntmps69 Z (fun w O => ?_)
 refine ah (aj (An Z (Ap (ab (ah (aN 9 aK X Y (Am Z (Al (aq Z) (Al (aa Z) ?_)))))))))
 refine Al (ak 0 Z Z Z) (Am Z (Al (aq Z) (Al (aa Z) (Al (ak 0 Z Z Z) (An Z (Ap (An Z (Ap (ab ?_)))))))))
 refine ah (ah (aj (Am Z (Al (aq Z) (Al (aa Z) (Al (aa Z) (Al (au 0 3 0 Z Z Z Z Z) (Am Z (Ap ?_)))))))))
 refine ab (ao (bL (Γ' := [(0,_),(2,_),(3,_),(4,_),(27,_),(28,_)]) Ag (SubM.refl _) ?_))
 refine bE (σ:=Nat) (Γk := [(0,_),(3,_),(4,_),(27,_)]) Ag (fun k => [(28,one (.int .i64 (k:Nat)))]) (fun k M0=>M0) (fun k=>k≤k0) (fun k=>k0 - k) (0) (Nat.zero_le _) Ah (.keep Ak (.keep Ak (.keep Ak (.keep Ak (.keep Ak (.keep Ak (.keep Ak (.nil)))))))) (fun k hk => ?_)
 refine bN (Γ' := [(28,_),(0,_),(3,_),(4,_),(27,_)]) (M' := [_,_,_,_,_,_,_]) Z Z ?_
 by_cases hk:k<k0
 ·have hn:=hf k hk
  simp only [bQ,decide_eq_false_iff_not] at hn
  have hz:=cJ (M k col)
  have hzq:=cJ (M k col / M row col)
  by_cases h1:k=row
  ·refine ah (aj (Al (sT S (aO Z Z)) (Ap (ab (ah (aB Z (av (ab (ah ?_)))))))))
   refine ao (ah (aj (Am Z (An Z (Ap (ab (ah (aj (Am Z ?_)))))))))
   refine Al (aq Z) (Al (aa Z) (Al (aa Z) (Al (au 0 3 2 Z Z Z Z Z) (Am Z (Al (an Z Z S) (Al (aS 1 Z Z S) (Am Z (Al (an Z Z S) (Al (bF 2 Z Z (bM S) S) ?_)))))))))
   refine a5 (T:=55) Z (ltN Z) (fun b6 => ?_)
   refine aF 0 Z Z Z Z Z (leN Z) Z (Ap (ab (ah ?_)))
   refine cT aK X X ?_
   refine ux (fun B=>ak 0 Z Z Z) Z Z ?_
   refine ux (fun B=>ae Z) Z Z ?_
   refine ux (fun B=>aq Z) Z Z ?_
   refine ux (fun B=>aa Z) Z Z ?_
   refine ux (fun B=>aa Z) Z Z ?_
   refine ux (fun B=>au 1 3 2 Z Z Z Z Z) Z Z ?_
   refine ux (fun B=>ae Z) Z Z ?_
   refine ux (fun B=>an Z Z S) Z Z ?_
   refine ux (fun B=>aS 2 Z Z S) Z Z ?_
   refine ux (fun B=>ae Z) Z Z ?_
   refine ux (fun B=>an Z Z S) Z Z ?_
   refine ux (fun B=>bF 3 Z Z (bM S) S) Z Z ?_
   refine uxk (hdm _) Z ⟨W,W,Aq⟩ Z ?_
   refine ux (fun B=>ae Z) Z Z ?_
   refine ux (fun B=>a6 Z Z) Z Z ?_
   refine ux (fun B=>a6 Z Z) Z Z ?_
   refine ux (fun B=>a6 Z Z) Z Z ?_
   refine ua Z (ua Z (us Z (us Z ?_)))
   refine ux (fun B=>ai Z) Z Z ?_
   refine RunU.nil (fun γ => ?_)
   refine bY (M' := [_,_,_,_,_,_,_,_,_,_]) Z (ab (ah (ah (aj (Am Z (Am Z (Al (sT S (bI Z Z)) (Am Z (sn0 Z Z Z Z Z ?_)))))))))
   refine sn0 Z Z Z Z Z (sn0 Z Z Z Z Z (sn0 Z Z Z Z Z (snU Z Z Z Z (snU Z Z Z Z (snU Z Z Z Z (sn0 Z Z Z Z Z (Al (aA Z Z) (Am Z (sn0 Z Z Z Z Z ?_)))))))))
   refine sn0 Z Z Z Z Z (sn0 Z Z Z Z Z (sn0 Z Z Z Z Z (snU Z Z Z Z (snU Z Z Z Z (snU Z Z Z Z (sn0 Z Z Z Z Z (Al (aA Z Z) (Ap (ab ?_)))))))))
   refine aB Z (a4 (az (aI (ab (aj (Al (bj _ 1 Z Z S) (Am Z (Ap ?_))))))))
   refine aM (k+1) (hk) S Ah (.drop (.drop (.drop (.keep Ak (.keep Ak (.keep Ak (.keep Ak (.keep Ak (.keep Ak (.keep Ak (.nil)))))))))))
  ·by_cases h2:k<row
   ·have h3:dm (M k col / M row col)=0:=hzq.2 (Decidable.not_not.1 fun e=>hn ⟨h1, .inl ⟨h2,e⟩⟩)
    refine ah (aj (Al (sT S (aO Z Z)) (Ap (ab (ah (aB Z (av (ab (ah ?_)))))))))
    refine ao (ah (aj (Am Z (An Z (Ap (ab (ah (aj (Am Z ?_)))))))))
    refine Al (aq Z) (Al (aa Z) (Al (aa Z) (Al (au 0 3 2 Z Z Z Z Z) (Am Z (Al (an Z Z S) (Al (aS 1 Z Z S) (Am Z (Al (an Z Z S) (Al (bF 2 Z Z (bM S) S) ?_)))))))))
    refine a5 (T:=55) Z (ltN Z) (fun b6 => ?_)
    refine aF 0 Z Z Z Z Z (leN Z) Z (Ap (ab (ah ?_)))
    refine cT aK X X ?_
    refine ux (fun B=>ak 0 Z Z Z) Z Z ?_
    refine ux (fun B=>ae Z) Z Z ?_
    refine ux (fun B=>aq Z) Z Z ?_
    refine ux (fun B=>aa Z) Z Z ?_
    refine ux (fun B=>aa Z) Z Z ?_
    refine ux (fun B=>au 1 3 2 Z Z Z Z Z) Z Z ?_
    refine ux (fun B=>ae Z) Z Z ?_
    refine ux (fun B=>an Z Z S) Z Z ?_
    refine ux (fun B=>aS 2 Z Z S) Z Z ?_
    refine ux (fun B=>ae Z) Z Z ?_
    refine ux (fun B=>an Z Z S) Z Z ?_
    refine ux (fun B=>bF 3 Z Z (bM S) S) Z Z ?_
    refine uxk (hdm _) Z ⟨W,W,Aq⟩ Z ?_
    refine ux (fun B=>ae Z) Z Z ?_
    refine ux (fun B=>a6 Z Z) Z Z ?_
    refine ux (fun B=>a6 Z Z) Z Z ?_
    refine ux (fun B=>a6 Z Z) Z Z ?_
    refine ua Z (ua Z (us Z (us Z ?_)))
    refine ux (fun B=>ai Z) Z Z ?_
    refine RunU.nil (fun γ => ?_)
    refine bY (M' := [_,_,_,_,_,_,_,_,_,_]) Z (ab (ah (ah (aj (Am Z (Am Z (Al (sF S (bI Z Z)) (Am Z (Ao (ae Z) ?_)))))))))
    refine Ao (ae Z) (Ao (sT S (aO Z Z)) (Ao (ae Z) (Ao (ak 1 Z Z Z) ?_)))
    refine Ao (am (cB _) Z ⟨W,Aq⟩) ?_
    refine Ao (sT (by assumption) (bI Z Z)) (Ao (aA Z Z) (Al (aw Z Z) (Am Z (sn0 Z Z Z Z Z (sn0 Z Z Z Z Z (sn0 Z Z Z Z Z (sn0 Z Z Z Z Z (snU Z Z Z Z (snU Z Z Z Z ?_)))))))))
    refine snU Z Z Z Z (sn0 Z Z Z Z Z (Al (aA Z Z) (Ap (ab (aB Z (a4 (az (aI (ab ?_)))))))))
    refine aj (Al (bj _ 1 Z Z S) (Am Z (Ap ?_)))
    refine aM (k+1) (hk) S Ah (.drop (.drop (.drop (.keep Ak (.keep Ak (.keep Ak (.keep Ak (.keep Ak (.keep Ak (.keep Ak (.nil)))))))))))
   ·have h3:dm (M k col)=0:=hz.2 (Decidable.not_not.1 fun e=>hn ⟨h1, .inr ⟨by omega,e⟩⟩)
    refine ah (aj (Al (sT S (aO Z Z)) (Ap (ab (ah (aB Z (av (ab (ah ?_)))))))))
    refine ao (ah (aj (Am Z (An Z (Ap (ab (ah (aj (Am Z ?_)))))))))
    refine Al (aq Z) (Al (aa Z) (Al (aa Z) (Al (au 0 3 2 Z Z Z Z Z) (Am Z (Al (an Z Z S) (Al (aS 1 Z Z S) (Am Z (Al (an Z Z S) (Al (bF 2 Z Z (bM S) S) ?_)))))))))
    refine a5 (T:=55) Z (ltN Z) (fun b6 => ?_)
    refine aF 0 Z Z Z Z Z (leN Z) Z (Ap (ab (ah ?_)))
    refine cT aK X X ?_
    refine ux (fun B=>ak 0 Z Z Z) Z Z ?_
    refine ux (fun B=>ae Z) Z Z ?_
    refine ux (fun B=>aq Z) Z Z ?_
    refine ux (fun B=>aa Z) Z Z ?_
    refine ux (fun B=>aa Z) Z Z ?_
    refine ux (fun B=>au 1 3 2 Z Z Z Z Z) Z Z ?_
    refine ux (fun B=>ae Z) Z Z ?_
    refine ux (fun B=>an Z Z S) Z Z ?_
    refine ux (fun B=>aS 2 Z Z S) Z Z ?_
    refine ux (fun B=>ae Z) Z Z ?_
    refine ux (fun B=>an Z Z S) Z Z ?_
    refine ux (fun B=>bF 3 Z Z (bM S) S) Z Z ?_
    refine uxk (hdm _) Z ⟨W,W,Aq⟩ Z ?_
    refine ux (fun B=>ae Z) Z Z ?_
    refine ux (fun B=>a6 Z Z) Z Z ?_
    refine ux (fun B=>a6 Z Z) Z Z ?_
    refine ux (fun B=>a6 Z Z) Z Z ?_
    refine ua Z (ua Z (us Z (us Z ?_)))
    refine ux (fun B=>ai Z) Z Z ?_
    refine RunU.nil (fun γ => ?_)
    refine bY (M' := [_,_,_,_,_,_,_,_,_,_]) Z (ab (ah (ah (aj (Am Z (Am Z (Al (sF S (bI Z Z)) (Am Z (Ao (ae Z) ?_)))))))))
    refine Ao (ae Z) (Ao (sF S (aO Z Z)) (Ao (ae Z) (sn0 Z Z Z Z Z (sn0 Z Z Z Z Z (sn0 Z Z Z Z Z (Ao (aw Z Z) (Al (aw Z Z) (Am Z (Ao (ae Z) ?_)))))))))
    refine Ao (ae Z) (Ao (sT S (cK Z Z)) (Ao (ae Z) (Ao (ak 2 Z Z Z) ?_)))
    refine Ao (am (cB _) Z ⟨W,Aq⟩) ?_
    refine Ao (sT (by assumption) (bI Z Z)) (Ao (aA Z Z) (Al (aw Z Z) (Ap (ab (aB Z (a4 (az (aI (ab ?_)))))))))
    refine aj (Al (bj _ 1 Z Z S) (Am Z (Ap ?_)))
    refine aM (k+1) (hk) S Ah (.drop (.drop (.drop (.keep Ak (.keep Ak (.keep Ak (.keep Ak (.keep Ak (.keep Ak (.keep Ak (.nil)))))))))))
 ·have hkk:k=k0:=by omega
  subst hkk
  simp only [bQ,decide_eq_true_eq] at h0
  obtain ⟨hne,h0⟩:=h0
  have hz:=cJ (M k col)
  have hzq:=cJ (M k col / M row col)
  rcases h0 with ⟨h2,h4⟩ | ⟨h2,h4⟩
  ·have h3 : ¬ dm (M k col / M row col)=0:=fun e=>h4 (hzq.1 e)
   refine ah (aj (Al (sT S (aO Z Z)) (Ap (ab (ah (aB Z (av (ab (ah ?_)))))))))
   refine ao (ah (aj (Am Z (An Z (Ap (ab (ah (aj (Am Z ?_)))))))))
   refine Al (aq Z) (Al (aa Z) (Al (aa Z) (Al (au 0 3 2 Z Z Z Z Z) (Am Z (Al (an Z Z S) (Al (aS 1 Z Z S) (Am Z (Al (an Z Z S) (Al (bF 2 Z Z (bM S) S) ?_)))))))))
   refine a5 (T:=55) Z (ltN Z) (fun b6 => ?_)
   refine aF 0 Z Z Z Z Z (leN Z) Z (Ap (ab (ah ?_)))
   refine cT aK X X ?_
   refine ux (fun B=>ak 0 Z Z Z) Z Z ?_
   refine ux (fun B=>ae Z) Z Z ?_
   refine ux (fun B=>aq Z) Z Z ?_
   refine ux (fun B=>aa Z) Z Z ?_
   refine ux (fun B=>aa Z) Z Z ?_
   refine ux (fun B=>au 1 3 2 Z Z Z Z Z) Z Z ?_
   refine ux (fun B=>ae Z) Z Z ?_
   refine ux (fun B=>an Z Z S) Z Z ?_
   refine ux (fun B=>aS 2 Z Z S) Z Z ?_
   refine ux (fun B=>ae Z) Z Z ?_
   refine ux (fun B=>an Z Z S) Z Z ?_
   refine ux (fun B=>bF 3 Z Z (bM S) S) Z Z ?_
   refine uxk (hdm _) Z ⟨W,W,Aq⟩ Z ?_
   refine ux (fun B=>ae Z) Z Z ?_
   refine ux (fun B=>a6 Z Z) Z Z ?_
   refine ux (fun B=>a6 Z Z) Z Z ?_
   refine ux (fun B=>a6 Z Z) Z Z ?_
   refine ua Z (ua Z (us Z (us Z ?_)))
   refine ux (fun B=>ai Z) Z Z ?_
   refine RunU.nil (fun γ => ?_)
   refine bY (M' := [_,_,_,_,_,_,_,_,_,_]) Z (ab (ah (ah (aj (Am Z (Am Z (Al (sF S (bI Z Z)) (Am Z (Ao (ae Z) ?_)))))))))
   refine Ao (ae Z) (Ao (sT S (aO Z Z)) (Ao (ae Z) (Ao (ak 1 Z Z Z) ?_)))
   refine Ao (am (cB _) Z ⟨W,Aq⟩) ?_
   refine Ao (sF (by assumption) (bI Z Z)) (Ao (aA Z Z) (Al (aw Z Z) (Am Z (Ao (ae Z) (Ao (ae Z) (Ao (sF S (cK Z Z)) (Ao (ae Z) (sn0 Z Z Z Z Z (sn0 Z Z Z Z Z ?_)))))))))
   refine sn0 Z Z Z Z Z (Ao (aw Z Z) (Al (aw Z Z) (Ap (ab (ay Z (av (ab (ah (ah ?_)))))))))
   refine aN 11 aK X Y (Am Z (Al (aq Z) (Al (aa Z) (Al (ak 3 Z Z Z) (Am Z (Al (aq Z) (Al (aa Z) (Al (ak 3 Z Z Z) (stS Z Z Z Z ?_)))))))))
   refine PartsK.cons Z (PartsK.cons Z (PartsK.nil (Al (bk Z) (Am Z (Ap (Ap (ab (ao ?_))))))))
   refine j9 (t:=90) (ψ:=slT (.agg 3) 2 (fun q=>match q with | 0=>bJ 3 [(0, .one,one (.int .i64 (r:Nat))),(1, .one,one (.int .i64 (c:Nat))),(2, .one,one (slV (some bo) r cap))] | _=>bJ 3 [(0, .one,one (.int .i64 (r:Nat))),(1, .one,one (.int .i64 (r:Nat))),(2, .one,one (slV (some boU) r capU))])) Z (cR Z fun q hq=>match q,hq with | 0,_=>rfl | 1,_=>rfl) ?_
   refine bL (Γ' := [(0,_),(3,_),(4,_),(5,_),(7,_),(27,_),(28,_),(90,_),(91,_),(92,_)]) Ag (SubM.refl _) ?_
   refine bE (σ:=Nat) (Γk := [(0,_),(3,_),(4,_),(5,_),(7,_),(27,_),(28,_),(90,_),(91,_)]) Ag (fun i => [(92,one (.int .i64 (i:Nat)))]) (fun i M0=>((M0.set 5 (aZ c bs (if 0<i then cW k row (M k col / M row col) M else M))).set 7 (aZ r bsU (if 1<i then cW k row (M k col / M row col) U else U)))) (fun i=>i≤2) (fun i=>2 - i) (0) (Nat.zero_le _) Ah (.keep Ak (.keep Ak (.keep Ak (.keep Ak (.keep Ak (.keep Ak (.keep Ak (.keep Ak (.keep Ak (.keep Ak (.nil))))))))))) (fun i hi => ?_)
   refine bN (Γ' := [(92,_),(0,_),(3,_),(4,_),(5,_),(7,_),(27,_),(28,_),(90,_),(91,_)]) (M' := [_,_,_,_,_,_,_,_,_,_]) Z Z ?_
   by_cases hi0:i=0
   ·subst hi0
    rw [if_neg (show ¬ 0<0 by omega),if_neg (show ¬ 1<0 by omega)]
    refine ah (aj (Al (sT S (aO Z Z)) (Ap (ab (ah (aB Z (av (ab (ah ?_)))))))))
    refine ao (ah (aj (Al (ax Z Z S) (Al (aG Z) ?_))))
    refine aW (T:=29) Z Z Z (fun b11 => ?_)
    refine aL 0 Z Z Z Z (Ap (ab (ah (aj (Al (aa Z) (Al (ak 0 Z Z Z) (Am Z (Ap (ab ?_)))))))))
    refine ao (bL (Γ' := [(0,_),(3,_),(4,_),(5,_),(7,_),(11,_),(27,_),(28,_),(90,_),(91,_),(92,_),(97,_),(98,_)]) Ag (SubM.refl _) ?_)
    refine bE (σ:=Nat) (Γk := [(0,_),(3,_),(4,_),(5,_),(7,_),(11,_),(27,_),(28,_),(90,_),(91,_),(92,_),(97,_)]) Ag (fun j => [(98,one (.int .i64 (j:Nat)))]) (fun j M0=>(M0.set 6 (aZ c bs (fG k row (M k col / M row col) j M)))) (fun j=>j≤c) (fun j=>c - j) (0) (Nat.zero_le _) Ah (.keep Ak (.keep Ak (.keep Ak (.keep Ak (.keep Ak (.keep Ak (.keep (n8) (.keep Ak (.keep Ak (.keep Ak (.keep Ak (.nil)))))))))))) (fun j hj => ?_)
    refine bN (Γ' := [(98,_),(0,_),(3,_),(4,_),(5,_),(7,_),(11,_),(27,_),(28,_),(90,_),(91,_),(92,_),(97,_)]) (M' := [_,_,_,_,_,_,_,_,_,_,_]) Z Z ?_
    by_cases hj:j<c
    ·refine ah (aj (Al (sT S (aO Z Z)) (Ap (ab (ah (aB Z (av (ab (ah ?_)))))))))
     refine ao (ah (aj (Am Z (An Z (Ap (ab (aN 25 aK X Y (Al (aa Z) (Al (ak 0 Z Z Z) ?_)))))))))
     refine Am Z (Al (an Z Z S) (Al (aS 5 Z Z S) (Am Z (Al (aa Z) (Al (ak 0 Z Z Z) (Am Z (Al (an Z Z S) (Al (aS 5 Z Z S) (Am Z ?_)))))))))
     refine Al (an Z Z S) (Al (bF 6 Z Z (bM S) S) (Al (ak 2 Z Z Z) (Al (aa Z) (Al (ak 0 Z Z Z) (Am Z (Al (an Z Z S) (Al (aS 5 Z Z S) (Am Z (Al (an Z Z S) ?_)))))))))
     refine Al (bF 6 Z Z (bM S) S) ?_
     refine Al (am (iM _ _ (bv hmq) (jE hne hmM)) Z ⟨W,W,Aq⟩) ?_
     refine Al (am (l1 _ _ (jD hmM) (l3 hne hmq hmM)) Z ⟨W,W,Aq⟩) ?_
     refine Ap (Al (an Z Z S) ?_)
     (refine bg 6 Z Z Z (bM ?_) ?_ Z ?_;omega;omega)
     refine Ap (aD (ab (aj (Al (bj _ 1 Z Z S) (Am Z (Ap ?_))))))
     refine aM (j+1) (hj) S Ah (.keep Ak (.keep Ak (.keep Ak (.keep Ak (.keep Ak (.keep Ak (.keep (qs hne) (.keep Ak (.keep Ak (.keep Ak (.keep Ak (.nil))))))))))))
    ·have he:j=c:=by omega
     subst he
     refine ah (aj (Al (sF S (aO Z Z)) (Ap (ab (ah (ay Z (a4 (az (az ?_)))))))))
     refine aI (aD (ab (aj (Al (bj _ 1 Z Z S) (Am Z (Ap ?_))))))
     refine aM (1) S S Ah (.drop (.keep Ak (.keep Ak (.keep Ak (.keep Ak (.keep Ak (.keep (n9) (.keep Ak (.keep Ak (.keep Ak (.keep Ak (.nil))))))))))))
   ·by_cases hi1:i=1
    ·subst hi1
     rw [if_pos (show 0<1 by omega),if_neg (show ¬ 1<1 by omega)]
     refine ah (aj (Al (sT S (aO Z Z)) (Ap (ab (ah (aB Z (av (ab (ah ?_)))))))))
     refine ao (ah (aj (Al (ax Z Z S) (Al (aG Z) ?_))))
     refine aW (T:=29) Z Z Z (fun b11 => ?_)
     refine aL 0 Z Z Z Z (Ap (ab (ah (aj (Al (aa Z) (Al (ak 0 Z Z Z) (Am Z (Ap (ab ?_)))))))))
     refine ao (bL (Γ' := [(0,_),(3,_),(4,_),(5,_),(7,_),(11,_),(27,_),(28,_),(90,_),(91,_),(92,_),(97,_),(98,_)]) Ag (SubM.refl _) ?_)
     refine bE (σ:=Nat) (Γk := [(0,_),(3,_),(4,_),(5,_),(7,_),(11,_),(27,_),(28,_),(90,_),(91,_),(92,_),(97,_)]) Ag (fun j => [(98,one (.int .i64 (j:Nat)))]) (fun j M0=>(M0.set 8 (aZ r bsU (fG k row (M k col / M row col) j U)))) (fun j=>j≤r) (fun j=>r - j) (0) (Nat.zero_le _) Ah (.keep Ak (.keep Ak (.keep Ak (.keep Ak (.keep Ak (.keep Ak (.keep Ak (.keep Ak (.keep (n8) (.keep Ak (.keep Ak (.nil)))))))))))) (fun j hj => ?_)
     refine bN (Γ' := [(98,_),(0,_),(3,_),(4,_),(5,_),(7,_),(11,_),(27,_),(28,_),(90,_),(91,_),(92,_),(97,_)]) (M' := [_,_,_,_,_,_,_,_,_,_,_]) Z Z ?_
     by_cases hj:j<r
     ·refine ah (aj (Al (sT S (aO Z Z)) (Ap (ab (ah (aB Z (av (ab (ah ?_)))))))))
      refine ao (ah (aj (Am Z (An Z (Ap (ab (aN 25 aK X Y (Al (aa Z) (Al (ak 0 Z Z Z) ?_)))))))))
      refine Am Z (Al (an Z Z S) (Al (aS 7 Z Z S) (Am Z (Al (aa Z) (Al (ak 0 Z Z Z) (Am Z (Al (an Z Z S) (Al (aS 7 Z Z S) (Am Z ?_)))))))))
      refine Al (an Z Z S) (Al (bF 8 Z Z (bM S) S) (Al (ak 2 Z Z Z) (Al (aa Z) (Al (ak 0 Z Z Z) (Am Z (Al (an Z Z S) (Al (aS 7 Z Z S) (Am Z (Al (an Z Z S) ?_)))))))))
      refine Al (bF 8 Z Z (bM S) S) ?_
      refine Al (am (iM _ _ (bv hmq) (jE hne hmU)) Z ⟨W,W,Aq⟩) ?_
      refine Al (am (l1 _ _ (jD hmU) (l3 hne hmq hmU)) Z ⟨W,W,Aq⟩) ?_
      refine Ap (Al (an Z Z S) ?_)
      (refine bg 8 Z Z Z (bM ?_) ?_ Z ?_;omega;omega)
      refine Ap (aD (ab (aj (Al (bj _ 1 Z Z S) (Am Z (Ap ?_))))))
      refine aM (j+1) (hj) S Ah (.keep Ak (.keep Ak (.keep Ak (.keep Ak (.keep Ak (.keep Ak (.keep Ak (.keep Ak (.keep (qs hne) (.keep Ak (.keep Ak (.nil))))))))))))
     ·have he:j=r:=by omega
      subst he
      refine ah (aj (Al (sF S (aO Z Z)) (Ap (ab (ah (ay Z (a4 (az (az ?_)))))))))
      refine aI (aD (ab (aj (Al (bj _ 1 Z Z S) (Am Z (Ap ?_))))))
      refine aM (2) S S Ah (.drop (.keep Ak (.keep Ak (.keep Ak (.keep Ak (.keep Ak (.keep Ak (.keep Ak (.keep (n9) (.keep Ak (.keep Ak (.nil))))))))))))
    ·have hi2:i=2:=by omega
     subst hi2
     rw [if_pos (show 0<2 by omega),if_pos (show 1<2 by omega)]
     refine ah (aj (Al (sF S (aO Z Z)) (Ap (ab (ah (ay Z (a4 (az (az ?_)))))))))
     refine aI (ab (ah (ah (aj (Am Z (Al (aq Z) (Al (aa Z) (Al (aa Z) (Al (au 3 9 2 Z Z Z Z Z) ?_)))))))))
     refine Al (jS Z) (Am Z (Ap (ab (ao (bL (Γ' := [(0,_),(3,_),(4,_),(5,_),(7,_),(27,_),(28,_),(133,_),(134,_),(135,_)]) Ag (SubM.refl _) ?_)))))
     refine bE (σ:=Nat) (Γk := [(0,_),(3,_),(4,_),(5,_),(7,_),(27,_),(28,_),(133,_),(134,_)]) Ag (fun i => [(135,one (.int .i64 (i:Nat)))]) (fun i M0=>(M0.set 9 (aZ r bsV (iS row k (M k col / M row col) i V)))) (fun i=>i≤r) (fun i=>r - i) (0) (Nat.zero_le _) Ah (.keep Ak (.keep Ak (.keep Ak (.keep Ak (.keep Ak (.keep Ak (.keep Ak (.keep Ak (.keep Ak (.keep Ak (.nil))))))))))) (fun i hi => ?_)
     refine bN (Γ' := [(135,_),(0,_),(3,_),(4,_),(5,_),(7,_),(27,_),(28,_),(133,_),(134,_)]) (M' := [_,_,_,_,_,_,_,_,_,_]) Z Z ?_
     by_cases hi:i<r
     ·refine ah (aj (Al (sT S (aO Z Z)) (Ap (ab (ah (aB Z (av (ab (ah ?_)))))))))
      refine ao (ah (aj (Al (an Z Z S) (Al (aS 8 Z Z S) (An Z (Ap (ab (aN 13 aK X Y (Am Z ?_)))))))))
      refine Am Z (Am Z (Am Z (Al (an Z Z S) (Al (bF 9 Z Z (bM S) S) (Al (ak 1 Z Z Z) (Am Z (Am Z (Al (an Z Z S) (Al (bF 9 Z Z (bM S) S) ?_)))))))))
      refine Al (am (iM _ _ (bv hmq) (jF hmV)) Z ⟨W,W,Aq⟩) ?_
      refine Al (am (oM _ _ (jF hmV) (sH hmq hmV)) Z ⟨W,W,Aq⟩) ?_
      refine Ap (Al (an Z Z S) ?_)
      (refine bg 9 Z Z Z (bM ?_) ?_ Z ?_;omega;omega)
      refine Ap (aD (ab (aj (Al (bj _ 1 Z Z S) (Am Z (Ap ?_))))))
      refine aM (i+1) (hi) S Ah (.keep Ak (.keep Ak (.keep Ak (.keep Ak (.keep Ak (.keep Ak (.keep Ak (.keep Ak (.keep Ak (.keep (vq) (.nil)))))))))))
     ·have he:i=r:=by omega
      subst he
      refine ah (aj (Al (sF S (aO Z Z)) (Ap (ab (ah (ay Z (a4 (az (az ?_)))))))))
      refine aI (ab (ah (aj (An Z (Ap (ab (aH (a7 (aE ?_)))))))))
      refine aE (a7 (aE (i5 () Tryz.results69 (.tmp Z W) ?_)))
      exact .drop (.drop (.drop (.keep Ak (.keep Ak (.keep Ak (.keep Ak (.keep Ak (.keep Ak (.keep (vp hblV) .nil)))))))))
  ·have h3 : ¬ dm (M k col)=0:=fun e=>h4 (hz.1 e)
   have h5 : ¬ k<row:=by omega
   refine ah (aj (Al (sT S (aO Z Z)) (Ap (ab (ah (aB Z (av (ab (ah ?_)))))))))
   refine ao (ah (aj (Am Z (An Z (Ap (ab (ah (aj (Am Z ?_)))))))))
   refine Al (aq Z) (Al (aa Z) (Al (aa Z) (Al (au 0 3 2 Z Z Z Z Z) (Am Z (Al (an Z Z S) (Al (aS 1 Z Z S) (Am Z (Al (an Z Z S) (Al (bF 2 Z Z (bM S) S) ?_)))))))))
   refine a5 (T:=55) Z (ltN Z) (fun b6 => ?_)
   refine aF 0 Z Z Z Z Z (leN Z) Z (Ap (ab (ah ?_)))
   refine cT aK X X ?_
   refine ux (fun B=>ak 0 Z Z Z) Z Z ?_
   refine ux (fun B=>ae Z) Z Z ?_
   refine ux (fun B=>aq Z) Z Z ?_
   refine ux (fun B=>aa Z) Z Z ?_
   refine ux (fun B=>aa Z) Z Z ?_
   refine ux (fun B=>au 1 3 2 Z Z Z Z Z) Z Z ?_
   refine ux (fun B=>ae Z) Z Z ?_
   refine ux (fun B=>an Z Z S) Z Z ?_
   refine ux (fun B=>aS 2 Z Z S) Z Z ?_
   refine ux (fun B=>ae Z) Z Z ?_
   refine ux (fun B=>an Z Z S) Z Z ?_
   refine ux (fun B=>bF 3 Z Z (bM S) S) Z Z ?_
   refine uxk (hdm _) Z ⟨W,W,Aq⟩ Z ?_
   refine ux (fun B=>ae Z) Z Z ?_
   refine ux (fun B=>a6 Z Z) Z Z ?_
   refine ux (fun B=>a6 Z Z) Z Z ?_
   refine ux (fun B=>a6 Z Z) Z Z ?_
   refine ua Z (ua Z (us Z (us Z ?_)))
   refine ux (fun B=>ai Z) Z Z ?_
   refine RunU.nil (fun γ => ?_)
   refine bY (M' := [_,_,_,_,_,_,_,_,_,_]) Z (ab (ah (ah (aj (Am Z (Am Z (Al (sF S (bI Z Z)) (Am Z (Ao (ae Z) ?_)))))))))
   refine Ao (ae Z) (Ao (sF S (aO Z Z)) (Ao (ae Z) (sn0 Z Z Z Z Z (sn0 Z Z Z Z Z (sn0 Z Z Z Z Z (Ao (aw Z Z) (Al (aw Z Z) (Am Z (Ao (ae Z) ?_)))))))))
   refine Ao (ae Z) (Ao (sT S (cK Z Z)) (Ao (ae Z) (Ao (ak 2 Z Z Z) ?_)))
   refine Ao (am (cB _) Z ⟨W,Aq⟩) ?_
   refine Ao (sF (by assumption) (bI Z Z)) (Ao (aA Z Z) (Al (aw Z Z) (Ap (ab (ay Z (av (ab (ah (ah ?_)))))))))
   refine aN 11 aK X Y (Am Z (Al (aq Z) (Al (aa Z) (Al (ak 3 Z Z Z) (Am Z (Al (aq Z) (Al (aa Z) (Al (ak 3 Z Z Z) (stS Z Z Z Z ?_)))))))))
   refine PartsK.cons Z (PartsK.cons Z (PartsK.nil (Al (bk Z) (Am Z (Ap (Ap (ab (ao ?_))))))))
   refine j9 (t:=90) (ψ:=slT (.agg 3) 2 (fun q=>match q with | 0=>bJ 3 [(0, .one,one (.int .i64 (r:Nat))),(1, .one,one (.int .i64 (c:Nat))),(2, .one,one (slV (some bo) r cap))] | _=>bJ 3 [(0, .one,one (.int .i64 (r:Nat))),(1, .one,one (.int .i64 (r:Nat))),(2, .one,one (slV (some boU) r capU))])) Z (cR Z fun q hq=>match q,hq with | 0,_=>rfl | 1,_=>rfl) ?_
   refine bL (Γ' := [(0,_),(3,_),(4,_),(5,_),(7,_),(27,_),(28,_),(90,_),(91,_),(92,_)]) Ag (SubM.refl _) ?_
   refine bE (σ:=Nat) (Γk := [(0,_),(3,_),(4,_),(5,_),(7,_),(27,_),(28,_),(90,_),(91,_)]) Ag (fun i => [(92,one (.int .i64 (i:Nat)))]) (fun i M0=>((M0.set 5 (aZ c bs (if 0<i then cW k row (M k col / M row col) M else M))).set 7 (aZ r bsU (if 1<i then cW k row (M k col / M row col) U else U)))) (fun i=>i≤2) (fun i=>2 - i) (0) (Nat.zero_le _) Ah (.keep Ak (.keep Ak (.keep Ak (.keep Ak (.keep Ak (.keep Ak (.keep Ak (.keep Ak (.keep Ak (.keep Ak (.nil))))))))))) (fun i hi => ?_)
   refine bN (Γ' := [(92,_),(0,_),(3,_),(4,_),(5,_),(7,_),(27,_),(28,_),(90,_),(91,_)]) (M' := [_,_,_,_,_,_,_,_,_,_]) Z Z ?_
   by_cases hi0:i=0
   ·subst hi0
    rw [if_neg (show ¬ 0<0 by omega),if_neg (show ¬ 1<0 by omega)]
    refine ah (aj (Al (sT S (aO Z Z)) (Ap (ab (ah (aB Z (av (ab (ah ?_)))))))))
    refine ao (ah (aj (Al (ax Z Z S) (Al (aG Z) ?_))))
    refine aW (T:=29) Z Z Z (fun b11 => ?_)
    refine aL 0 Z Z Z Z (Ap (ab (ah (aj (Al (aa Z) (Al (ak 0 Z Z Z) (Am Z (Ap (ab ?_)))))))))
    refine ao (bL (Γ' := [(0,_),(3,_),(4,_),(5,_),(7,_),(11,_),(27,_),(28,_),(90,_),(91,_),(92,_),(97,_),(98,_)]) Ag (SubM.refl _) ?_)
    refine bE (σ:=Nat) (Γk := [(0,_),(3,_),(4,_),(5,_),(7,_),(11,_),(27,_),(28,_),(90,_),(91,_),(92,_),(97,_)]) Ag (fun j => [(98,one (.int .i64 (j:Nat)))]) (fun j M0=>(M0.set 6 (aZ c bs (fG k row (M k col / M row col) j M)))) (fun j=>j≤c) (fun j=>c - j) (0) (Nat.zero_le _) Ah (.keep Ak (.keep Ak (.keep Ak (.keep Ak (.keep Ak (.keep Ak (.keep (n8) (.keep Ak (.keep Ak (.keep Ak (.keep Ak (.nil)))))))))))) (fun j hj => ?_)
    refine bN (Γ' := [(98,_),(0,_),(3,_),(4,_),(5,_),(7,_),(11,_),(27,_),(28,_),(90,_),(91,_),(92,_),(97,_)]) (M' := [_,_,_,_,_,_,_,_,_,_,_]) Z Z ?_
    by_cases hj:j<c
    ·refine ah (aj (Al (sT S (aO Z Z)) (Ap (ab (ah (aB Z (av (ab (ah ?_)))))))))
     refine ao (ah (aj (Am Z (An Z (Ap (ab (aN 25 aK X Y (Al (aa Z) (Al (ak 0 Z Z Z) ?_)))))))))
     refine Am Z (Al (an Z Z S) (Al (aS 5 Z Z S) (Am Z (Al (aa Z) (Al (ak 0 Z Z Z) (Am Z (Al (an Z Z S) (Al (aS 5 Z Z S) (Am Z ?_)))))))))
     refine Al (an Z Z S) (Al (bF 6 Z Z (bM S) S) (Al (ak 2 Z Z Z) (Al (aa Z) (Al (ak 0 Z Z Z) (Am Z (Al (an Z Z S) (Al (aS 5 Z Z S) (Am Z (Al (an Z Z S) ?_)))))))))
     refine Al (bF 6 Z Z (bM S) S) ?_
     refine Al (am (iM _ _ (bv hmq) (jE hne hmM)) Z ⟨W,W,Aq⟩) ?_
     refine Al (am (l1 _ _ (jD hmM) (l3 hne hmq hmM)) Z ⟨W,W,Aq⟩) ?_
     refine Ap (Al (an Z Z S) ?_)
     (refine bg 6 Z Z Z (bM ?_) ?_ Z ?_;omega;omega)
     refine Ap (aD (ab (aj (Al (bj _ 1 Z Z S) (Am Z (Ap ?_))))))
     refine aM (j+1) (hj) S Ah (.keep Ak (.keep Ak (.keep Ak (.keep Ak (.keep Ak (.keep Ak (.keep (qs hne) (.keep Ak (.keep Ak (.keep Ak (.keep Ak (.nil))))))))))))
    ·have he:j=c:=by omega
     subst he
     refine ah (aj (Al (sF S (aO Z Z)) (Ap (ab (ah (ay Z (a4 (az (az ?_)))))))))
     refine aI (aD (ab (aj (Al (bj _ 1 Z Z S) (Am Z (Ap ?_))))))
     refine aM (1) S S Ah (.drop (.keep Ak (.keep Ak (.keep Ak (.keep Ak (.keep Ak (.keep (n9) (.keep Ak (.keep Ak (.keep Ak (.keep Ak (.nil))))))))))))
   ·by_cases hi1:i=1
    ·subst hi1
     rw [if_pos (show 0<1 by omega),if_neg (show ¬ 1<1 by omega)]
     refine ah (aj (Al (sT S (aO Z Z)) (Ap (ab (ah (aB Z (av (ab (ah ?_)))))))))
     refine ao (ah (aj (Al (ax Z Z S) (Al (aG Z) ?_))))
     refine aW (T:=29) Z Z Z (fun b11 => ?_)
     refine aL 0 Z Z Z Z (Ap (ab (ah (aj (Al (aa Z) (Al (ak 0 Z Z Z) (Am Z (Ap (ab ?_)))))))))
     refine ao (bL (Γ' := [(0,_),(3,_),(4,_),(5,_),(7,_),(11,_),(27,_),(28,_),(90,_),(91,_),(92,_),(97,_),(98,_)]) Ag (SubM.refl _) ?_)
     refine bE (σ:=Nat) (Γk := [(0,_),(3,_),(4,_),(5,_),(7,_),(11,_),(27,_),(28,_),(90,_),(91,_),(92,_),(97,_)]) Ag (fun j => [(98,one (.int .i64 (j:Nat)))]) (fun j M0=>(M0.set 8 (aZ r bsU (fG k row (M k col / M row col) j U)))) (fun j=>j≤r) (fun j=>r - j) (0) (Nat.zero_le _) Ah (.keep Ak (.keep Ak (.keep Ak (.keep Ak (.keep Ak (.keep Ak (.keep Ak (.keep Ak (.keep (n8) (.keep Ak (.keep Ak (.nil)))))))))))) (fun j hj => ?_)
     refine bN (Γ' := [(98,_),(0,_),(3,_),(4,_),(5,_),(7,_),(11,_),(27,_),(28,_),(90,_),(91,_),(92,_),(97,_)]) (M' := [_,_,_,_,_,_,_,_,_,_,_]) Z Z ?_
     by_cases hj:j<r
     ·refine ah (aj (Al (sT S (aO Z Z)) (Ap (ab (ah (aB Z (av (ab (ah ?_)))))))))
      refine ao (ah (aj (Am Z (An Z (Ap (ab (aN 25 aK X Y (Al (aa Z) (Al (ak 0 Z Z Z) ?_)))))))))
      refine Am Z (Al (an Z Z S) (Al (aS 7 Z Z S) (Am Z (Al (aa Z) (Al (ak 0 Z Z Z) (Am Z (Al (an Z Z S) (Al (aS 7 Z Z S) (Am Z ?_)))))))))
      refine Al (an Z Z S) (Al (bF 8 Z Z (bM S) S) (Al (ak 2 Z Z Z) (Al (aa Z) (Al (ak 0 Z Z Z) (Am Z (Al (an Z Z S) (Al (aS 7 Z Z S) (Am Z (Al (an Z Z S) ?_)))))))))
      refine Al (bF 8 Z Z (bM S) S) ?_
      refine Al (am (iM _ _ (bv hmq) (jE hne hmU)) Z ⟨W,W,Aq⟩) ?_
      refine Al (am (l1 _ _ (jD hmU) (l3 hne hmq hmU)) Z ⟨W,W,Aq⟩) ?_
      refine Ap (Al (an Z Z S) ?_)
      (refine bg 8 Z Z Z (bM ?_) ?_ Z ?_;omega;omega)
      refine Ap (aD (ab (aj (Al (bj _ 1 Z Z S) (Am Z (Ap ?_))))))
      refine aM (j+1) (hj) S Ah (.keep Ak (.keep Ak (.keep Ak (.keep Ak (.keep Ak (.keep Ak (.keep Ak (.keep Ak (.keep (qs hne) (.keep Ak (.keep Ak (.nil))))))))))))
     ·have he:j=r:=by omega
      subst he
      refine ah (aj (Al (sF S (aO Z Z)) (Ap (ab (ah (ay Z (a4 (az (az ?_)))))))))
      refine aI (aD (ab (aj (Al (bj _ 1 Z Z S) (Am Z (Ap ?_))))))
      refine aM (2) S S Ah (.drop (.keep Ak (.keep Ak (.keep Ak (.keep Ak (.keep Ak (.keep Ak (.keep Ak (.keep (n9) (.keep Ak (.keep Ak (.nil))))))))))))
    ·have hi2:i=2:=by omega
     subst hi2
     rw [if_pos (show 0<2 by omega),if_pos (show 1<2 by omega)]
     refine ah (aj (Al (sF S (aO Z Z)) (Ap (ab (ah (ay Z (a4 (az (az ?_)))))))))
     refine aI (ab (ah (ah (aj (Am Z (Al (aq Z) (Al (aa Z) (Al (aa Z) (Al (au 3 9 2 Z Z Z Z Z) ?_)))))))))
     refine Al (jS Z) (Am Z (Ap (ab (ao (bL (Γ' := [(0,_),(3,_),(4,_),(5,_),(7,_),(27,_),(28,_),(133,_),(134,_),(135,_)]) Ag (SubM.refl _) ?_)))))
     refine bE (σ:=Nat) (Γk := [(0,_),(3,_),(4,_),(5,_),(7,_),(27,_),(28,_),(133,_),(134,_)]) Ag (fun i => [(135,one (.int .i64 (i:Nat)))]) (fun i M0=>(M0.set 9 (aZ r bsV (iS row k (M k col / M row col) i V)))) (fun i=>i≤r) (fun i=>r - i) (0) (Nat.zero_le _) Ah (.keep Ak (.keep Ak (.keep Ak (.keep Ak (.keep Ak (.keep Ak (.keep Ak (.keep Ak (.keep Ak (.keep Ak (.nil))))))))))) (fun i hi => ?_)
     refine bN (Γ' := [(135,_),(0,_),(3,_),(4,_),(5,_),(7,_),(27,_),(28,_),(133,_),(134,_)]) (M' := [_,_,_,_,_,_,_,_,_,_]) Z Z ?_
     by_cases hi:i<r
     ·refine ah (aj (Al (sT S (aO Z Z)) (Ap (ab (ah (aB Z (av (ab (ah ?_)))))))))
      refine ao (ah (aj (Al (an Z Z S) (Al (aS 8 Z Z S) (An Z (Ap (ab (aN 13 aK X Y (Am Z ?_)))))))))
      refine Am Z (Am Z (Am Z (Al (an Z Z S) (Al (bF 9 Z Z (bM S) S) (Al (ak 1 Z Z Z) (Am Z (Am Z (Al (an Z Z S) (Al (bF 9 Z Z (bM S) S) ?_)))))))))
      refine Al (am (iM _ _ (bv hmq) (jF hmV)) Z ⟨W,W,Aq⟩) ?_
      refine Al (am (oM _ _ (jF hmV) (sH hmq hmV)) Z ⟨W,W,Aq⟩) ?_
      refine Ap (Al (an Z Z S) ?_)
      (refine bg 9 Z Z Z (bM ?_) ?_ Z ?_;omega;omega)
      refine Ap (aD (ab (aj (Al (bj _ 1 Z Z S) (Am Z (Ap ?_))))))
      refine aM (i+1) (hi) S Ah (.keep Ak (.keep Ak (.keep Ak (.keep Ak (.keep Ak (.keep Ak (.keep Ak (.keep Ak (.keep Ak (.keep (vq) (.nil)))))))))))
     ·have he:i=r:=by omega
      subst he
      refine ah (aj (Al (sF S (aO Z Z)) (Ap (ab (ah (ay Z (a4 (az (az ?_)))))))))
      refine aI (ab (ah (aj (An Z (Ap (ab (aH (a7 (aE ?_)))))))))
      refine aE (a7 (aE (i5 () Tryz.results69 (.tmp Z W) ?_)))
      exact .drop (.drop (.drop (.keep Ak (.keep Ak (.keep Ak (.keep Ak (.keep Ak (.keep Ak (.keep (vp hblV) .nil)))))))))
end Tor
end
section
namespace Tor
open Go Go.RowKit Go.Proofs
def iT (i k:Nat) (bs:List Nat):List Nat:=(bs.set i (bs.getD k 0)).set k (bs.getD i 0)
theorem vr {i k:Nat} {bs:List Nat} : (iT i k bs).length=bs.length:=by simp [iT]
theorem qu {i k q:Nat} {bs:List Nat} (hi:i<bs.length) (hk:k<bs.length) (hne:i≠k):(iT i k bs).getD q 0=swp i k (fun q=>bs.getD q 0) q:=by
 unfold iT swp
 rw [dG (by simpa using hk),dG hi]
 by_cases h1:q=k
 ·subst h1;rw [if_pos Z,if_neg (fun e=>hne e.symm),if_pos Z]
 ·rw [if_neg h1]
  by_cases h2:q=i
  ·rw [if_pos h2,if_pos h2]
  ·rw [if_neg h2,if_neg h2,if_neg h1]
theorem tP {i k:Nat} {bs:List Nat} (hi:i<bs.length) (hk:k<bs.length):(iT i k bs).Perm bs:=by
 have e1:bs.getD k 0=bs[k]:=by simp [List.getD,hk]
 have e2:bs.getD i 0=bs[i]:=by simp [List.getD,hi]
 unfold iT
 rw [e1,e2]
 exact List.set_set_perm hi hk
theorem vt {T:TypeId} {L:Lay} {c i k:Nat} {bs:List Nat} {φ:Nat→Nat→VT} {M:Mem} (hi:i<bs.length) (hk:k<bs.length) (hne:i≠k):ConvM (ce T L c bs φ :: M) (ce T L c (iT i k bs) (swp i k φ) :: M) :=
 ⟨(tP hi hk).symm.append_right _,fun g h Ae o ho=>by
  rcases List.mem_cons.1 ho with rfl | ho
  ·have H0:=Ae _ List.mem_cons_self
   intro q b hq
   have hql:q<(iT i k bs).length:=(List.getElem?_eq_some_iff.1 hq).1
   have hql2:q<bs.length:=by rwa [vr] at hql
   have e0:(iT i k bs).getD q 0=b:=by simp [List.getD,hq]
   rw [qu hi hk hne] at e0
   have get : ∀ j,j<bs.length→bs[j]? = some (bs.getD j 0):=fun j hj=>by simp [List.getD,hj]
   unfold swp at e0 ⊢
   by_cases h1:q=i
   ·rw [if_pos h1] at e0 ⊢; exact H0 k b ((get k hk).trans (congrArg some e0))
   ·rw [if_neg h1] at e0 ⊢
    by_cases h2:q=k
    ·rw [if_pos h2] at e0 ⊢; exact H0 i b ((get i hi).trans (congrArg some e0))
    ·rw [if_neg h2] at e0 ⊢; exact H0 q b ((get q hql2).trans (congrArg some e0))
  ·exact Ae o (List.mem_cons_of_mem _ ho)⟩
theorem jG {c i k:Nat} {bs:List Nat} {F:Nat→Nat→Int} {M:Mem} (hi:i<bs.length) (hk:k<bs.length) (hne:i≠k):ConvM (aZ c bs F :: M) (aZ c (iT i k bs) (swp i k F) :: M) :=
 (vt hi hk hne).trans (ConvM.le (dW fun q j _ _=>by unfold swp;split;rfl;split <;> rfl))
theorem kO {bo cap r c i k:Nat} {bs:List Nat} (hi:i<bs.length) (hk:k<bs.length) (hne:i≠k) :
  Own.le (bf (some bo) 57 .one cap r (upd (upd (fun q=>one (slV (some (bs.getD q 0)) c c)) i (one (slV (some (bs.getD k 0)) c c))) k (one (slV (some (bs.getD i 0)) c c)))) (bn (some bo) cap r c (iT i k bs)):=cD fun q _=>by
 rw [qu hi hk hne]
 unfold upd swp
 by_cases h1:q=k
 ·subst h1;rw [if_pos Z,if_neg (fun e=>hne e.symm),if_pos Z]
 ·rw [if_neg h1]
  by_cases h2:q=i
  ·rw [if_pos h2,if_pos h2]
  ·rw [if_neg h2,if_neg h2,if_neg h1]
def lz (i r j:Nat) (F:Nat→Nat→Int):Nat→Nat→Int:=fun a=>if a<j then swp i r (F a) else F a
theorem vv {c i r n:Nat} {bs:List Nat} {F:Nat→Nat→Int} (hb:bs.length=n):Own.le (aZ c bs (lz i r n F)) (aZ c bs (jO i r F)):=dM fun a b ha _=>by
 subst hb
 unfold lz jO;rw [if_pos ha]
theorem vy {c i r a:Nat} {bs:List Nat} {F:Nat→Nat→Int} (hne:i≠r):Own.le (ce 55 (.agg 2) c bs (fd (fd (fun q k=>bq (lz i r a F q k)) a i (bq (lz i r a F a r))) a r (bq (lz i r a F a i)))) (aZ c bs (lz i r (a+1) F)):=dW fun q k _ _=>by
 have e : ∀ b,lz i r a F a b=F a b:=fun b=>by unfold lz;rw [if_neg S]
 rw [e,e]
 unfold fd
 dsimp only
 by_cases h:q=a
 ·subst h
  have e2:lz i r (q+1) F q k=swp i r (F q) k:=by unfold lz;rw [if_pos S]
  rw [e2,e]
  unfold swp
  by_cases h1:k=r
  ·subst h1;rw [if_pos ⟨rfl,rfl⟩,if_neg (fun e=>hne e.symm),if_pos Z]
  ·rw [if_neg (fun e=>h1 e.2)]
   by_cases h2:k=i
   ·rw [if_pos ⟨rfl,h2⟩,if_pos h2]
   ·rw [if_neg (fun e=>h2 e.2),if_neg h2,if_neg h1]
 ·rw [if_neg (fun e=>h e.1),if_neg (fun e=>h e.1)]
  unfold lz
  have h3:q<a+1↔q<a:=by omega
  simp only [h3]
def kP (x:Nat→Int) (r j:Nat):Int:=if da x r j<0 then 0 else ((x (da x r j).toNat).natAbs:Int)
theorem iq {x:Nat→Int} {r j:Nat} (h:x (r+j)≠0∧(da x r j<0∨(x (r+j)).natAbs<(x (da x r j).toNat).natAbs)):da x r (j+1)=((r+j:Nat):Int):=by rw [da,if_pos h]
theorem ir {x:Nat→Int} {r j:Nat} (h : ¬ (x (r+j)≠0∧(da x r j<0∨(x (r+j)).natAbs<(x (da x r j).toNat).natAbs))):da x r (j+1)=da x r j:=by rw [da,if_neg h]
theorem m7 {b:Nat} {x:Nat→Int} {r:Nat} : Own.le (aY b 55 (Lay.agg 2).sz [(0,Lay.agg 2,one (Value.agg #[Value.bool false,Value.slice none 0 0]))]) (aY b 55 2 [(0, .agg 2,bq (kP x r 0))]):=rN fun q hq=>by
 cases List.mem_singleton.1 hq
 exact ⟨_,List.mem_singleton.2 Z,jn⟩
theorem gQ {b:Nat} {x y:Int} (h:x=y):Own.le (aY b 55 2 [(0, .agg 2,bq x)]) (aY b 55 2 [(0, .agg 2,bq y)]):=by rw [h]; exact Own.le_refl _
theorem jH {x:Nat→Int} {r j:Nat} (h:da x r (j+1)=((r+j:Nat):Int)):((x (r+j)).natAbs:Int)=kP x r (j+1):=by unfold kP;rw [h,if_neg S,Int.toNat_natCast]
theorem jI {x:Nat→Int} {r j:Nat} (h:da x r (j+1)=da x r j):kP x r j=kP x r (j+1):=by unfold kP;rw [h]
theorem l4 {x:Nat→Int} {r j n:Nat} (hL : ¬ da x r j<0):ek (n:Int) (kP x r j)<0↔n<(x (da x r j).toNat).natAbs:=by
 unfold ek kP
 rw [if_neg hL]
 constructor
 ·intro h
  by_cases h2:(n:Int)<((x (da x r j).toNat).natAbs:Int)
  ·omega
  ·rw [if_neg h2] at h
   split at h <;> cases h
 ·intro h
  rw [if_pos S]; decide
attribute [local irreducible] J PJ aU one slT cC bJ ci exT cH eP aY bf slV VT.le Ret bW
attribute [local irreducible] ce bq
theorem pn (b r c:Nat) (A:VT) [hA:Flat A (.agg 3)] (sM sU sV:S3) (M U V:Nat→Nat→Int) (row col:Nat) (d:VT) [hd:Flat d .one] (hr:r≤1048576) (hc:c≤1048576) (hM:ok3 r sM) (hrow:row<r) (hcol:col<c) (hmM : ∀ i j,bV (M i j)) (h0:da (fun i=>M i col) row (r - row)=row) :
  OkI Tryz.prog 67 [one (.pointer (some ⟨b,0,none⟩))] (et b r c A sM sU sV M U V row col d)
   (fun _:Unit=>one (.bool false)) (fun _=>et b r c A sM sU sV M U V row col d):=by
 obtain ⟨bs,bo,cap,rfl,hbl⟩:=hM.some S
 unfold et bh
 dsimp only at hbl ⊢
 refine OkI.enter Tryz.func67 Z Tryz.ntmps67 Z (fun w O => ?_)
 refine ah (aj (An Z (Ap (ab (ah (aj (Am Z (Al (aq Z) (Al (aa Z) ?_)))))))))
 refine Al (ak 0 Z Z Z) (An Z (Ap (ab (ah (aj (An Z (Ap (ab (ah ?_)))))))))
 refine aj ?_
 refine a5 (T:=55) Z (ltN Z) (fun b5 => ?_)
 refine Ap (ab (ah (ah (aj (Am Z (An Z (Ap (ab (ao ?_)))))))))
 refine bL (Γ' := [(0,_),(2,_),(3,_),(4,_),(5,_),(6,_)]) Ag (SubM.refl _) ?_
 refine bE (σ:=Nat) (Γk := [(0,_),(2,_),(3,_),(5,_)]) Ag (fun j => [(6,one (.int .i64 ((row+j:Nat):Int))),(4,one (.int .i64 (da (fun i=>M i col) row j)))]) (fun j M0=>(M0.set 0 (aY b5 55 2 [(0, .agg 2,bq (kP (fun i=>M i col) row j))]))) (fun j=>j≤r - row) (fun j=>r - row - j) (0) (Nat.zero_le _) Ah (.keep (m7) (.keep Ak (.keep Ak (.keep Ak (.keep Ak (.keep Ak (.keep Ak (.keep Ak (.nil))))))))) (fun j hj => ?_)
 refine bN (Γ' := [(6,_),(4,_),(0,_),(2,_),(3,_),(5,_)]) (M' := [_,_,_,_,_,_,_,_]) Z Z ?_
 by_cases hj:j<r - row
 ·have hjr:row+j<r:=by omega
  have hab:=se (M (row+j) col) (bv (hmM _ _))
  by_cases hx:M (row+j) col=0
  ·have hs1:dm ((M (row+j) col).natAbs:Int)=0:=(cJ _).2 S
   have hk:=ir (x:=fun i=>M i col) (r:=row) (j:=j) (fun h=>h.1 hx)
   refine ah (ah (aj (Am Z (Am Z (Al (aq Z) (Al (aa Z) (Al (aa Z) (Al (au 1 3 0 Z Z Z Z Z) (Al (sT S (aO Z Z)) ?_)))))))))
   refine Ap (ab (aB Z (av (ab (ah (ao (ah ?_)))))))
   refine cT aK X X ?_
   refine ux (fun B=>ae Z) Z Z ?_
   refine ux (fun B=>aq Z) Z Z ?_
   refine ux (fun B=>aa Z) Z Z ?_
   refine ux (fun B=>aa Z) Z Z ?_
   refine ux (fun B=>au 1 3 2 Z Z Z Z Z) Z Z ?_
   refine ux (fun B=>ae Z) Z Z ?_
   refine ux (fun B=>an Z Z S) Z Z ?_
   refine ux (fun B=>aS 2 Z Z S) Z Z ?_
   refine ux (fun B=>ae Z) Z Z ?_
   refine ux (fun B=>aq Z) Z Z ?_
   refine ux (fun B=>aa Z) Z Z ?_
   refine ux (fun B=>ak 1 Z Z Z) Z Z ?_
   refine ux (fun B=>an Z Z S) Z Z ?_
   refine ux (fun B=>bF 3 Z Z (bM S) S) Z Z ?_
   refine uxk (hab) Z ⟨W,Aq⟩ Z ?_
   refine ua Z (us Z ?_)
   refine RunU.nil (fun γ => ?_)
   refine bY (M' := [_,_,_,_,_,_,_,_,_]) Z (ab (ah (aj (Al (ak 0 Z Z Z) ?_))))
   refine Al (am (cB _) Z ⟨W,Aq⟩) ?_
   refine Al (sF S (dq Z Z)) (Am Z (sn0 Z Z Z Z Z (sn0 Z Z Z Z Z (sn0 Z Z Z Z Z (snU Z Z Z Z (snU Z Z Z Z (snU Z Z Z Z (snU Z Z Z Z (sn0 Z Z Z Z Z ?_)))))))))
   refine Al (aw Z Z) (Ap (ab (ay Z (av (aD (ab (aj (Am Z (Al (bj _ 1 Z Z S) ?_)))))))))
   refine An Z (Ap ?_)
   refine aM (j+1) (hj) S Ah (.drop (.keep (gQ (jI hk)) (.keep Ak (.keep Ak (.keep Ak (.keep Ak (.keep Ak (.keep Ak (.keep Ak (.nil))))))))))
  ·have hs1 : ¬ dm ((M (row+j) col).natAbs:Int)=0:=fun e=>hx (by have:=(cJ _).1 e;omega)
   by_cases hL:da (fun i=>M i col) row j<0
   ·have hk:=iq (x:=fun i=>M i col) (r:=row) (j:=j) ⟨hx, .inl hL⟩
    refine ah (ah (aj (Am Z (Am Z (Al (aq Z) (Al (aa Z) (Al (aa Z) (Al (au 1 3 0 Z Z Z Z Z) (Al (sT S (aO Z Z)) ?_)))))))))
    refine Ap (ab (aB Z (av (ab (ah (ao (ah ?_)))))))
    refine cT aK X X ?_
    refine ux (fun B=>ae Z) Z Z ?_
    refine ux (fun B=>aq Z) Z Z ?_
    refine ux (fun B=>aa Z) Z Z ?_
    refine ux (fun B=>aa Z) Z Z ?_
    refine ux (fun B=>au 1 3 2 Z Z Z Z Z) Z Z ?_
    refine ux (fun B=>ae Z) Z Z ?_
    refine ux (fun B=>an Z Z S) Z Z ?_
    refine ux (fun B=>aS 2 Z Z S) Z Z ?_
    refine ux (fun B=>ae Z) Z Z ?_
    refine ux (fun B=>aq Z) Z Z ?_
    refine ux (fun B=>aa Z) Z Z ?_
    refine ux (fun B=>ak 1 Z Z Z) Z Z ?_
    refine ux (fun B=>an Z Z S) Z Z ?_
    refine ux (fun B=>bF 3 Z Z (bM S) S) Z Z ?_
    refine uxk (hab) Z ⟨W,Aq⟩ Z ?_
    refine ua Z (us Z ?_)
    refine RunU.nil (fun γ => ?_)
    refine bY (M' := [_,_,_,_,_,_,_,_,_]) Z (ab (ah (aj (Al (ak 0 Z Z Z) ?_))))
    refine Al (am (cB _) Z ⟨W,Aq⟩) ?_
    refine Al (sT (by assumption) (dq Z Z)) (Am Z (Ao (ae Z) (Ao (sT (by assumption) (aO Z Z)) (Ao (ae Z) (sn0 Z Z Z Z Z (sn0 Z Z Z Z Z (sn0 Z Z Z Z Z (sn0 Z Z Z Z Z (Ao (aA Z Z) ?_)))))))))
    refine Al (aA Z Z) (Ap (ab (aB Z (aN 3 aK X Y (Am Z (Al (ak 0 Z Z Z) (An Z (Ap (aF 1 Z Z Z Z Z (leN Z) Z ?_)))))))))
    refine Ap (aD (ab (aj (Am Z (Al (bj _ 1 Z Z S) (An Z (Ap ?_)))))))
    refine aM (j+1) (hj) S Ah (.drop (.keep (gQ (jH (x:=fun i=>M i col) hk)) (.keep Ak (.keep Ak (.keep Ak (.keep Ak (.keep Ak (.keep Ak (.keep Ak (.nil))))))))))
   ·by_cases hl:(M (row+j) col).natAbs<(M (da (fun i=>M i col) row j).toNat col).natAbs
    ·have hk:=iq (x:=fun i=>M i col) (r:=row) (j:=j) ⟨hx, .inr hl⟩
     have hcm:ek ((M (row+j) col).natAbs:Int) (kP (fun i=>M i col) row j)<0:=(l4 (x:=fun i=>M i col) hL).2 hl
     refine ah (ah (aj (Am Z (Am Z (Al (aq Z) (Al (aa Z) (Al (aa Z) (Al (au 1 3 0 Z Z Z Z Z) (Al (sT S (aO Z Z)) ?_)))))))))
     refine Ap (ab (aB Z (av (ab (ah (ao (ah ?_)))))))
     refine cT aK X X ?_
     refine ux (fun B=>ae Z) Z Z ?_
     refine ux (fun B=>aq Z) Z Z ?_
     refine ux (fun B=>aa Z) Z Z ?_
     refine ux (fun B=>aa Z) Z Z ?_
     refine ux (fun B=>au 1 3 2 Z Z Z Z Z) Z Z ?_
     refine ux (fun B=>ae Z) Z Z ?_
     refine ux (fun B=>an Z Z S) Z Z ?_
     refine ux (fun B=>aS 2 Z Z S) Z Z ?_
     refine ux (fun B=>ae Z) Z Z ?_
     refine ux (fun B=>aq Z) Z Z ?_
     refine ux (fun B=>aa Z) Z Z ?_
     refine ux (fun B=>ak 1 Z Z Z) Z Z ?_
     refine ux (fun B=>an Z Z S) Z Z ?_
     refine ux (fun B=>bF 3 Z Z (bM S) S) Z Z ?_
     refine uxk (hab) Z ⟨W,Aq⟩ Z ?_
     refine ua Z (us Z ?_)
     refine RunU.nil (fun γ => ?_)
     refine bY (M' := [_,_,_,_,_,_,_,_,_]) Z (ab (ah (aj (Al (ak 0 Z Z Z) ?_))))
     refine Al (am (cB _) Z ⟨W,Aq⟩) ?_
     refine Al (sT (by assumption) (dq Z Z)) (Am Z (Ao (ae Z) (Ao (sF (by assumption) (aO Z Z)) (Ao (ae Z) (Ao (ak 0 Z Z Z) (Ao (ak 1 Z Z Z) ?_))))))
     refine Ao (am (iN _ _) Z ⟨W,W,Aq⟩) ?_
     refine Ao (sT (by assumption) (aO Z Z)) (Ao (aw Z Z) (Al (aA Z Z) (Ap (ab (aB Z (aN 3 aK X Y (Am Z (Al (ak 0 Z Z Z) (An Z ?_)))))))))
     refine Ap (aF 1 Z Z Z Z Z (leN Z) Z (Ap (aD (ab (aj (Am Z (Al (bj _ 1 Z Z S) (An Z (Ap ?_)))))))))
     refine aM (j+1) (hj) S Ah (.drop (.keep (gQ (jH (x:=fun i=>M i col) hk)) (.keep Ak (.keep Ak (.keep Ak (.keep Ak (.keep Ak (.keep Ak (.keep Ak (.nil))))))))))
    ·have hk:=ir (x:=fun i=>M i col) (r:=row) (j:=j) (fun h=>h.2.elim hL hl)
     have hcm : ¬ ek ((M (row+j) col).natAbs:Int) (kP (fun i=>M i col) row j)<0:=fun h=>hl ((l4 (x:=fun i=>M i col) hL).1 h)
     refine ah (ah (aj (Am Z (Am Z (Al (aq Z) (Al (aa Z) (Al (aa Z) (Al (au 1 3 0 Z Z Z Z Z) (Al (sT S (aO Z Z)) ?_)))))))))
     refine Ap (ab (aB Z (av (ab (ah (ao (ah ?_)))))))
     refine cT aK X X ?_
     refine ux (fun B=>ae Z) Z Z ?_
     refine ux (fun B=>aq Z) Z Z ?_
     refine ux (fun B=>aa Z) Z Z ?_
     refine ux (fun B=>aa Z) Z Z ?_
     refine ux (fun B=>au 1 3 2 Z Z Z Z Z) Z Z ?_
     refine ux (fun B=>ae Z) Z Z ?_
     refine ux (fun B=>an Z Z S) Z Z ?_
     refine ux (fun B=>aS 2 Z Z S) Z Z ?_
     refine ux (fun B=>ae Z) Z Z ?_
     refine ux (fun B=>aq Z) Z Z ?_
     refine ux (fun B=>aa Z) Z Z ?_
     refine ux (fun B=>ak 1 Z Z Z) Z Z ?_
     refine ux (fun B=>an Z Z S) Z Z ?_
     refine ux (fun B=>bF 3 Z Z (bM S) S) Z Z ?_
     refine uxk (hab) Z ⟨W,Aq⟩ Z ?_
     refine ua Z (us Z ?_)
     refine RunU.nil (fun γ => ?_)
     refine bY (M' := [_,_,_,_,_,_,_,_,_]) Z (ab (ah (aj (Al (ak 0 Z Z Z) ?_))))
     refine Al (am (cB _) Z ⟨W,Aq⟩) ?_
     refine Al (sT (by assumption) (dq Z Z)) (Am Z (Ao (ae Z) (Ao (sF (by assumption) (aO Z Z)) (Ao (ae Z) (Ao (ak 0 Z Z Z) (Ao (ak 1 Z Z Z) ?_))))))
     refine Ao (am (iN _ _) Z ⟨W,W,Aq⟩) ?_
     refine Ao (sF (by assumption) (aO Z Z)) (Ao (aw Z Z) (Al (aA Z Z) (Ap (ab (ay Z (av (aD (ab (aj ?_)))))))))
     refine Am Z (Al (bj _ 1 Z Z S) (An Z (Ap ?_)))
     refine aM (j+1) (hj) S Ah (.drop (.keep (gQ (jI hk)) (.keep Ak (.keep Ak (.keep Ak (.keep Ak (.keep Ak (.keep Ak (.keep Ak (.nil))))))))))
 ·have hje:j=r - row:=by omega
  subst hje
  rw [h0]
  refine ah (ah (aj (Am Z (Am Z (Al (aq Z) (Al (aa Z) (Al (aa Z) (Al (au 1 3 0 Z Z Z Z Z) (Al (sF S (aO Z Z)) ?_)))))))))
  refine Ap (ab (ay Z (a4 (az (az (aI (ab (ah (ah ?_)))))))))
  refine aj (Am Z (Am Z (Al (sT S (bI Z Z)) (Ap (ab (aB Z (ah (aj (An Z ?_)))))))))
  refine Ap (ab (aH (aE (i5 () Tryz.results67 (.tmp Z W) ?_))))
  exact .drop (SubM.refl _)
theorem qv (b r c:Nat) (A:VT) [hA:Flat A (.agg 3)] (sM sU sV:S3) (M U V:Nat→Nat→Int) (row col:Nat) (d:VT) [hd:Flat d .one] (hr:r≤1048576) (hc:c≤1048576) (hM:ok3 r sM) (hU:ok3 r sU) (hV:ok3 r sV) (hrow:row<r) (hcol:col<c) (hmM : ∀ i j,bV (M i j)) (i:Nat) (hir:i<r) (hne:i≠row) (h0:da (fun i=>M i col) row (r - row)=i) :
  OkI Tryz.prog 67 [one (.pointer (some ⟨b,0,none⟩))] (et b r c A sM sU sV M U V row col d)
   (fun _:Unit=>one (.bool true)) (fun _=>et b r c A (iT i row sM.1,sM.2) (iT i row sU.1,sU.2) sV (swp i row M) (swp i row U) (jO i row V) row col d):=by
 obtain ⟨bs,bo,cap,rfl,hbl⟩:=hM.some S
 obtain ⟨bsU,boU,capU,rfl,hblU⟩:=hU.some S
 obtain ⟨bsV,boV,capV,rfl,hblV⟩:=hV.some S
 have hni : ¬ (i:Int)=(row:Int):=by omega
 unfold et bh
 dsimp only at hbl hblU hblV ⊢
 refine OkI.enter Tryz.func67 Z Tryz.ntmps67 Z (fun w O => ?_)
 refine ah (aj (An Z (Ap (ab (ah (aj (Am Z (Al (aq Z) (Al (aa Z) ?_)))))))))
 refine Al (ak 0 Z Z Z) (An Z (Ap (ab (ah (aj (An Z (Ap (ab (ah ?_)))))))))
 refine aj ?_
 refine a5 (T:=55) Z (ltN Z) (fun b5 => ?_)
 refine Ap (ab (ah (ah (aj (Am Z (An Z (Ap (ab (ao ?_)))))))))
 refine bL (Γ' := [(0,_),(2,_),(3,_),(4,_),(5,_),(6,_)]) Ag (SubM.refl _) ?_
 refine bE (σ:=Nat) (Γk := [(0,_),(2,_),(3,_),(5,_)]) Ag (fun j => [(6,one (.int .i64 ((row+j:Nat):Int))),(4,one (.int .i64 (da (fun i=>M i col) row j)))]) (fun j M0=>(M0.set 0 (aY b5 55 2 [(0, .agg 2,bq (kP (fun i=>M i col) row j))]))) (fun j=>j≤r - row) (fun j=>r - row - j) (0) (Nat.zero_le _) Ah (.keep (m7) (.keep Ak (.keep Ak (.keep Ak (.keep Ak (.keep Ak (.keep Ak (.keep Ak (.nil))))))))) (fun j hj => ?_)
 refine bN (Γ' := [(6,_),(4,_),(0,_),(2,_),(3,_),(5,_)]) (M' := [_,_,_,_,_,_,_,_]) Z Z ?_
 by_cases hj:j<r - row
 ·have hjr:row+j<r:=by omega
  have hab:=se (M (row+j) col) (bv (hmM _ _))
  by_cases hx:M (row+j) col=0
  ·have hs1:dm ((M (row+j) col).natAbs:Int)=0:=(cJ _).2 S
   have hk:=ir (x:=fun i=>M i col) (r:=row) (j:=j) (fun h=>h.1 hx)
   refine ah (ah (aj (Am Z (Am Z (Al (aq Z) (Al (aa Z) (Al (aa Z) (Al (au 1 3 0 Z Z Z Z Z) (Al (sT S (aO Z Z)) ?_)))))))))
   refine Ap (ab (aB Z (av (ab (ah (ao (ah ?_)))))))
   refine cT aK X X ?_
   refine ux (fun B=>ae Z) Z Z ?_
   refine ux (fun B=>aq Z) Z Z ?_
   refine ux (fun B=>aa Z) Z Z ?_
   refine ux (fun B=>aa Z) Z Z ?_
   refine ux (fun B=>au 1 3 2 Z Z Z Z Z) Z Z ?_
   refine ux (fun B=>ae Z) Z Z ?_
   refine ux (fun B=>an Z Z S) Z Z ?_
   refine ux (fun B=>aS 2 Z Z S) Z Z ?_
   refine ux (fun B=>ae Z) Z Z ?_
   refine ux (fun B=>aq Z) Z Z ?_
   refine ux (fun B=>aa Z) Z Z ?_
   refine ux (fun B=>ak 1 Z Z Z) Z Z ?_
   refine ux (fun B=>an Z Z S) Z Z ?_
   refine ux (fun B=>bF 3 Z Z (bM S) S) Z Z ?_
   refine uxk (hab) Z ⟨W,Aq⟩ Z ?_
   refine ua Z (us Z ?_)
   refine RunU.nil (fun γ => ?_)
   refine bY (M' := [_,_,_,_,_,_,_,_,_]) Z (ab (ah (aj (Al (ak 0 Z Z Z) ?_))))
   refine Al (am (cB _) Z ⟨W,Aq⟩) ?_
   refine Al (sF S (dq Z Z)) (Am Z (sn0 Z Z Z Z Z (sn0 Z Z Z Z Z (sn0 Z Z Z Z Z (snU Z Z Z Z (snU Z Z Z Z (snU Z Z Z Z (snU Z Z Z Z (sn0 Z Z Z Z Z ?_)))))))))
   refine Al (aw Z Z) (Ap (ab (ay Z (av (aD (ab (aj (Am Z (Al (bj _ 1 Z Z S) ?_)))))))))
   refine An Z (Ap ?_)
   refine aM (j+1) (hj) S Ah (.drop (.keep (gQ (jI hk)) (.keep Ak (.keep Ak (.keep Ak (.keep Ak (.keep Ak (.keep Ak (.keep Ak (.nil))))))))))
  ·have hs1 : ¬ dm ((M (row+j) col).natAbs:Int)=0:=fun e=>hx (by have:=(cJ _).1 e;omega)
   by_cases hL:da (fun i=>M i col) row j<0
   ·have hk:=iq (x:=fun i=>M i col) (r:=row) (j:=j) ⟨hx, .inl hL⟩
    refine ah (ah (aj (Am Z (Am Z (Al (aq Z) (Al (aa Z) (Al (aa Z) (Al (au 1 3 0 Z Z Z Z Z) (Al (sT S (aO Z Z)) ?_)))))))))
    refine Ap (ab (aB Z (av (ab (ah (ao (ah ?_)))))))
    refine cT aK X X ?_
    refine ux (fun B=>ae Z) Z Z ?_
    refine ux (fun B=>aq Z) Z Z ?_
    refine ux (fun B=>aa Z) Z Z ?_
    refine ux (fun B=>aa Z) Z Z ?_
    refine ux (fun B=>au 1 3 2 Z Z Z Z Z) Z Z ?_
    refine ux (fun B=>ae Z) Z Z ?_
    refine ux (fun B=>an Z Z S) Z Z ?_
    refine ux (fun B=>aS 2 Z Z S) Z Z ?_
    refine ux (fun B=>ae Z) Z Z ?_
    refine ux (fun B=>aq Z) Z Z ?_
    refine ux (fun B=>aa Z) Z Z ?_
    refine ux (fun B=>ak 1 Z Z Z) Z Z ?_
    refine ux (fun B=>an Z Z S) Z Z ?_
    refine ux (fun B=>bF 3 Z Z (bM S) S) Z Z ?_
    refine uxk (hab) Z ⟨W,Aq⟩ Z ?_
    refine ua Z (us Z ?_)
    refine RunU.nil (fun γ => ?_)
    refine bY (M' := [_,_,_,_,_,_,_,_,_]) Z (ab (ah (aj (Al (ak 0 Z Z Z) ?_))))
    refine Al (am (cB _) Z ⟨W,Aq⟩) ?_
    refine Al (sT (by assumption) (dq Z Z)) (Am Z (Ao (ae Z) (Ao (sT (by assumption) (aO Z Z)) (Ao (ae Z) (sn0 Z Z Z Z Z (sn0 Z Z Z Z Z (sn0 Z Z Z Z Z (sn0 Z Z Z Z Z (Ao (aA Z Z) ?_)))))))))
    refine Al (aA Z Z) (Ap (ab (aB Z (aN 3 aK X Y (Am Z (Al (ak 0 Z Z Z) (An Z (Ap (aF 1 Z Z Z Z Z (leN Z) Z ?_)))))))))
    refine Ap (aD (ab (aj (Am Z (Al (bj _ 1 Z Z S) (An Z (Ap ?_)))))))
    refine aM (j+1) (hj) S Ah (.drop (.keep (gQ (jH (x:=fun i=>M i col) hk)) (.keep Ak (.keep Ak (.keep Ak (.keep Ak (.keep Ak (.keep Ak (.keep Ak (.nil))))))))))
   ·by_cases hl:(M (row+j) col).natAbs<(M (da (fun i=>M i col) row j).toNat col).natAbs
    ·have hk:=iq (x:=fun i=>M i col) (r:=row) (j:=j) ⟨hx, .inr hl⟩
     have hcm:ek ((M (row+j) col).natAbs:Int) (kP (fun i=>M i col) row j)<0:=(l4 (x:=fun i=>M i col) hL).2 hl
     refine ah (ah (aj (Am Z (Am Z (Al (aq Z) (Al (aa Z) (Al (aa Z) (Al (au 1 3 0 Z Z Z Z Z) (Al (sT S (aO Z Z)) ?_)))))))))
     refine Ap (ab (aB Z (av (ab (ah (ao (ah ?_)))))))
     refine cT aK X X ?_
     refine ux (fun B=>ae Z) Z Z ?_
     refine ux (fun B=>aq Z) Z Z ?_
     refine ux (fun B=>aa Z) Z Z ?_
     refine ux (fun B=>aa Z) Z Z ?_
     refine ux (fun B=>au 1 3 2 Z Z Z Z Z) Z Z ?_
     refine ux (fun B=>ae Z) Z Z ?_
     refine ux (fun B=>an Z Z S) Z Z ?_
     refine ux (fun B=>aS 2 Z Z S) Z Z ?_
     refine ux (fun B=>ae Z) Z Z ?_
     refine ux (fun B=>aq Z) Z Z ?_
     refine ux (fun B=>aa Z) Z Z ?_
     refine ux (fun B=>ak 1 Z Z Z) Z Z ?_
     refine ux (fun B=>an Z Z S) Z Z ?_
     refine ux (fun B=>bF 3 Z Z (bM S) S) Z Z ?_
     refine uxk (hab) Z ⟨W,Aq⟩ Z ?_
     refine ua Z (us Z ?_)
     refine RunU.nil (fun γ => ?_)
     refine bY (M' := [_,_,_,_,_,_,_,_,_]) Z (ab (ah (aj (Al (ak 0 Z Z Z) ?_))))
     refine Al (am (cB _) Z ⟨W,Aq⟩) ?_
     refine Al (sT (by assumption) (dq Z Z)) (Am Z (Ao (ae Z) (Ao (sF (by assumption) (aO Z Z)) (Ao (ae Z) (Ao (ak 0 Z Z Z) (Ao (ak 1 Z Z Z) ?_))))))
     refine Ao (am (iN _ _) Z ⟨W,W,Aq⟩) ?_
     refine Ao (sT (by assumption) (aO Z Z)) (Ao (aw Z Z) (Al (aA Z Z) (Ap (ab (aB Z (aN 3 aK X Y (Am Z (Al (ak 0 Z Z Z) (An Z ?_)))))))))
     refine Ap (aF 1 Z Z Z Z Z (leN Z) Z (Ap (aD (ab (aj (Am Z (Al (bj _ 1 Z Z S) (An Z (Ap ?_)))))))))
     refine aM (j+1) (hj) S Ah (.drop (.keep (gQ (jH (x:=fun i=>M i col) hk)) (.keep Ak (.keep Ak (.keep Ak (.keep Ak (.keep Ak (.keep Ak (.keep Ak (.nil))))))))))
    ·have hk:=ir (x:=fun i=>M i col) (r:=row) (j:=j) (fun h=>h.2.elim hL hl)
     have hcm : ¬ ek ((M (row+j) col).natAbs:Int) (kP (fun i=>M i col) row j)<0:=fun h=>hl ((l4 (x:=fun i=>M i col) hL).1 h)
     refine ah (ah (aj (Am Z (Am Z (Al (aq Z) (Al (aa Z) (Al (aa Z) (Al (au 1 3 0 Z Z Z Z Z) (Al (sT S (aO Z Z)) ?_)))))))))
     refine Ap (ab (aB Z (av (ab (ah (ao (ah ?_)))))))
     refine cT aK X X ?_
     refine ux (fun B=>ae Z) Z Z ?_
     refine ux (fun B=>aq Z) Z Z ?_
     refine ux (fun B=>aa Z) Z Z ?_
     refine ux (fun B=>aa Z) Z Z ?_
     refine ux (fun B=>au 1 3 2 Z Z Z Z Z) Z Z ?_
     refine ux (fun B=>ae Z) Z Z ?_
     refine ux (fun B=>an Z Z S) Z Z ?_
     refine ux (fun B=>aS 2 Z Z S) Z Z ?_
     refine ux (fun B=>ae Z) Z Z ?_
     refine ux (fun B=>aq Z) Z Z ?_
     refine ux (fun B=>aa Z) Z Z ?_
     refine ux (fun B=>ak 1 Z Z Z) Z Z ?_
     refine ux (fun B=>an Z Z S) Z Z ?_
     refine ux (fun B=>bF 3 Z Z (bM S) S) Z Z ?_
     refine uxk (hab) Z ⟨W,Aq⟩ Z ?_
     refine ua Z (us Z ?_)
     refine RunU.nil (fun γ => ?_)
     refine bY (M' := [_,_,_,_,_,_,_,_,_]) Z (ab (ah (aj (Al (ak 0 Z Z Z) ?_))))
     refine Al (am (cB _) Z ⟨W,Aq⟩) ?_
     refine Al (sT (by assumption) (dq Z Z)) (Am Z (Ao (ae Z) (Ao (sF (by assumption) (aO Z Z)) (Ao (ae Z) (Ao (ak 0 Z Z Z) (Ao (ak 1 Z Z Z) ?_))))))
     refine Ao (am (iN _ _) Z ⟨W,W,Aq⟩) ?_
     refine Ao (sF (by assumption) (aO Z Z)) (Ao (aw Z Z) (Al (aA Z Z) (Ap (ab (ay Z (av (aD (ab (aj ?_)))))))))
     refine Am Z (Al (bj _ 1 Z Z S) (An Z (Ap ?_)))
     refine aM (j+1) (hj) S Ah (.drop (.keep (gQ (jI hk)) (.keep Ak (.keep Ak (.keep Ak (.keep Ak (.keep Ak (.keep Ak (.keep Ak (.nil))))))))))
 ·have hje:j=r - row:=by omega
  subst hje
  rw [h0]
  refine ah (ah (aj (Am Z (Am Z (Al (aq Z) (Al (aa Z) (Al (aa Z) (Al (au 1 3 0 Z Z Z Z Z) (Al (sF S (aO Z Z)) ?_)))))))))
  refine Ap (ab (ay Z (a4 (az (az (aI (ab (ah (ah ?_)))))))))
  refine aj (Am Z (Am Z (Al (sF (by assumption) (bI Z Z)) (Ap (ab (ay Z (av (ab (ah ?_)))))))))
  apply q5 (Γ1 := [(0,_),(3,_),(4,_)]) (M1 := [_,_,_,_,_,_,_,_]) 28 5 [11] [] aK X Y
  ·refine Am Z (Al (aq Z) (Al (aa Z) (Al (aa Z) (Al (au 1 3 2 Z Z Z Z Z) (Am Z (Am Z (Al (aq Z) (Al (aa Z) (Al (aa Z) ?_)))))))))
   refine Al (au 1 3 2 Z Z Z Z Z) (Am Z (Am Z (Al (aq Z) (Al (aa Z) (Al (aa Z) (Al (au 1 3 2 Z Z Z Z Z) (Am Z (Al (an Z Z S) (Al (aS 2 Z Z S) ?_)))))))))
   refine Am Z (Al (aq Z) (Al (aa Z) (Al (aa Z) (Al (au 1 3 2 Z Z Z Z Z) (Am Z (Al (an Z Z S) (Al (aS 2 Z Z S) (Ap ?_))))))))
   refine uw (Γe := [(0,_),(3,_),(4,_),(61,_),(62,_),(76,_),(67,_),(84,_)]) (Γe' := [(0,_),(3,_),(4,_),(61,_),(62,_),(76,_),(67,_),(84,_),(68,_)]) (rem := [28,29,30,31]) Z Aj Z Aj Z ?_ ?_
   ·refine dI (rem' := [28,29,30,31]) (rem'' := [11,29,30,31]) (i:=11) (j:=28) X Z Z Z Z ?_ ?_ jj.nil
    refine Am Z (Ap ?_)
    refine ⟨rfl,?_⟩
    refine aQ (rem' := [29,30,31]) (i:=28) X Z Z ?_ jj.nil
    refine Al (an Z Z S) (Ap ?_)
    refine ⟨rfl,?_⟩
    refine aQ (rem' := [30,31]) (i:=29) X Z Z ?_ jj.nil
    (refine bK 2 Z Z Z ?_ Z ?_;omega)
    refine Ap ?_
    refine ⟨rfl,?_⟩
    refine aQ (rem' := [31]) (i:=30) X Z Z ?_ jj.nil
    refine Al (an Z Z S) (Ap ?_)
    refine ⟨rfl,?_⟩
    refine aQ (rem' := []) (i:=31) X Z Z ?_ jj.nil
    (refine bK 2 Z Z Z ?_ Z ?_;omega)
    refine Ap ?_
    refine ⟨rfl,?_⟩
    refine cF Aj (SubM.refl _) jj.nil
    refine Al (an Z Z S) (Ap ?_)
    refine ⟨rfl,?_⟩
    refine dI (rem' := [29,30,31]) (rem'' := [11,30,31]) (i:=11) (j:=29) X Z Z Z Z ?_ ?_ jj.nil
    refine Am Z (Ap ?_)
    refine ⟨rfl,?_⟩
    refine aQ (rem' := [30,31]) (i:=29) X Z Z ?_ jj.nil
    (refine bK 2 Z Z Z ?_ Z ?_;omega)
    refine Ap ?_
    refine ⟨rfl,?_⟩
    refine aQ (rem' := [31]) (i:=30) X Z Z ?_ jj.nil
    refine Al (an Z Z S) (Ap ?_)
    refine ⟨rfl,?_⟩
    refine aQ (rem' := []) (i:=31) X Z Z ?_ jj.nil
    (refine bK 2 Z Z Z ?_ Z ?_;omega)
    refine Ap ?_
    refine ⟨rfl,?_⟩
    refine cF Aj (SubM.refl _) jj.nil
    (refine bK 2 Z Z Z ?_ Z ?_;omega)
    refine Ap ?_
    refine ⟨rfl,?_⟩
    refine aQ (rem' := [30,31]) (i:=11) X Z Z ?_ jj.nil
    refine Am Z (Ap ?_)
    refine ⟨rfl,?_⟩
    refine aQ (rem' := [31]) (i:=30) X Z Z ?_ jj.nil
    refine Al (an Z Z S) (Ap ?_)
    refine ⟨rfl,?_⟩
    refine aQ (rem' := []) (i:=31) X Z Z ?_ jj.nil
    (refine bK 2 Z Z Z ?_ Z ?_;omega)
    refine Ap ?_
    refine ⟨rfl,?_⟩
    refine cF Aj (SubM.refl _) jj.nil
   ·refine aQ (rem' := [29,30,31]) (i:=28) X Z Z ?_ jj.nil
    refine Al (an Z Z S) (Ap ?_)
    refine ⟨rfl,?_⟩
    refine aQ (rem' := [30,31]) (i:=29) X Z Z ?_ jj.nil
    (refine bK 2 Z Z Z ?_ Z ?_;omega)
    refine Ap ?_
    refine ⟨rfl,?_⟩
    refine aQ (rem' := [31]) (i:=30) X Z Z ?_ jj.nil
    refine Al (an Z Z S) (Ap ?_)
    refine ⟨rfl,?_⟩
    refine aQ (rem' := []) (i:=31) X Z Z ?_ jj.nil
    (refine bK 2 Z Z Z ?_ Z ?_;omega)
    refine Ap ?_
    refine ⟨rfl,?_⟩
    refine cF Aj (SubM.refl _) jj.nil
  refine gK (ConvM.cons (ConvM.cons (ConvM.le (kO S S hne)))) (gK (ConvM.cons (ConvM.cons (ConvM.cons (jG S S hne)))) (ab (ah ?_)))
  apply q5 (Γ1 := [(0,_),(3,_),(4,_)]) (M1 := [_,_,_,_,_,_,_,_]) 28 5 [11] [] aK X Y
  ·refine Am Z (Al (aq Z) (Al (aa Z) (Al (aa Z) (Al (au 1 6 2 Z Z Z Z Z) (Am Z (Am Z (Al (aq Z) (Al (aa Z) (Al (aa Z) ?_)))))))))
   refine Al (au 1 6 2 Z Z Z Z Z) (Am Z (Am Z (Al (aq Z) (Al (aa Z) (Al (aa Z) (Al (au 1 6 2 Z Z Z Z Z) (Am Z (Al (an Z Z S) (Al (aS 4 Z Z S) ?_)))))))))
   refine Am Z (Al (aq Z) (Al (aa Z) (Al (aa Z) (Al (au 1 6 2 Z Z Z Z Z) (Am Z (Al (an Z Z S) (Al (aS 4 Z Z S) (Ap ?_))))))))
   refine uw (Γe := [(0,_),(3,_),(4,_),(91,_),(92,_),(106,_),(97,_),(114,_)]) (Γe' := [(0,_),(3,_),(4,_),(91,_),(92,_),(106,_),(97,_),(114,_),(98,_)]) (rem := [28,29,30,31]) Z Aj Z Aj Z ?_ ?_
   ·refine dI (rem' := [28,29,30,31]) (rem'' := [11,29,30,31]) (i:=11) (j:=28) X Z Z Z Z ?_ ?_ jj.nil
    refine Am Z (Ap ?_)
    refine ⟨rfl,?_⟩
    refine aQ (rem' := [29,30,31]) (i:=28) X Z Z ?_ jj.nil
    refine Al (an Z Z S) (Ap ?_)
    refine ⟨rfl,?_⟩
    refine aQ (rem' := [30,31]) (i:=29) X Z Z ?_ jj.nil
    (refine bK 4 Z Z Z ?_ Z ?_;omega)
    refine Ap ?_
    refine ⟨rfl,?_⟩
    refine aQ (rem' := [31]) (i:=30) X Z Z ?_ jj.nil
    refine Al (an Z Z S) (Ap ?_)
    refine ⟨rfl,?_⟩
    refine aQ (rem' := []) (i:=31) X Z Z ?_ jj.nil
    (refine bK 4 Z Z Z ?_ Z ?_;omega)
    refine Ap ?_
    refine ⟨rfl,?_⟩
    refine cF Aj (SubM.refl _) jj.nil
    refine Al (an Z Z S) (Ap ?_)
    refine ⟨rfl,?_⟩
    refine dI (rem' := [29,30,31]) (rem'' := [11,30,31]) (i:=11) (j:=29) X Z Z Z Z ?_ ?_ jj.nil
    refine Am Z (Ap ?_)
    refine ⟨rfl,?_⟩
    refine aQ (rem' := [30,31]) (i:=29) X Z Z ?_ jj.nil
    (refine bK 4 Z Z Z ?_ Z ?_;omega)
    refine Ap ?_
    refine ⟨rfl,?_⟩
    refine aQ (rem' := [31]) (i:=30) X Z Z ?_ jj.nil
    refine Al (an Z Z S) (Ap ?_)
    refine ⟨rfl,?_⟩
    refine aQ (rem' := []) (i:=31) X Z Z ?_ jj.nil
    (refine bK 4 Z Z Z ?_ Z ?_;omega)
    refine Ap ?_
    refine ⟨rfl,?_⟩
    refine cF Aj (SubM.refl _) jj.nil
    (refine bK 4 Z Z Z ?_ Z ?_;omega)
    refine Ap ?_
    refine ⟨rfl,?_⟩
    refine aQ (rem' := [30,31]) (i:=11) X Z Z ?_ jj.nil
    refine Am Z (Ap ?_)
    refine ⟨rfl,?_⟩
    refine aQ (rem' := [31]) (i:=30) X Z Z ?_ jj.nil
    refine Al (an Z Z S) (Ap ?_)
    refine ⟨rfl,?_⟩
    refine aQ (rem' := []) (i:=31) X Z Z ?_ jj.nil
    (refine bK 4 Z Z Z ?_ Z ?_;omega)
    refine Ap ?_
    refine ⟨rfl,?_⟩
    refine cF Aj (SubM.refl _) jj.nil
   ·refine aQ (rem' := [29,30,31]) (i:=28) X Z Z ?_ jj.nil
    refine Al (an Z Z S) (Ap ?_)
    refine ⟨rfl,?_⟩
    refine aQ (rem' := [30,31]) (i:=29) X Z Z ?_ jj.nil
    (refine bK 4 Z Z Z ?_ Z ?_;omega)
    refine Ap ?_
    refine ⟨rfl,?_⟩
    refine aQ (rem' := [31]) (i:=30) X Z Z ?_ jj.nil
    refine Al (an Z Z S) (Ap ?_)
    refine ⟨rfl,?_⟩
    refine aQ (rem' := []) (i:=31) X Z Z ?_ jj.nil
    (refine bK 4 Z Z Z ?_ Z ?_;omega)
    refine Ap ?_
    refine ⟨rfl,?_⟩
    refine cF Aj (SubM.refl _) jj.nil
  refine gK (ConvM.cons (ConvM.cons (ConvM.cons (ConvM.cons (ConvM.le (kO S S hne)))))) (gK (ConvM.cons (ConvM.cons (ConvM.cons (ConvM.cons (ConvM.cons (jG S S hne)))))) (ab (ah (ah (aj (Am Z (Al (aq Z) (Al (aa Z) (Al (aa Z) ?_)))))))))
  refine Al (au 1 9 2 Z Z Z Z Z) (Al (jS Z) (Am Z (Ap (ab (ao (bL (Γ' := [(3,_),(4,_),(121,_),(122,_),(123,_)]) Ag (SubM.refl _) ?_))))))
  refine bE (σ:=Nat) (Γk := [(3,_),(4,_),(121,_),(122,_)]) Ag (fun a => [(123,one (.int .i64 (a:Nat)))]) (fun a M0=>(M0.set 7 (aZ r bsV (lz i row a V)))) (fun a=>a≤r) (fun a=>r - a) (0) (Nat.zero_le _) Ah (.keep Ak (.keep Ak (.keep Ak (.keep Ak (.keep Ak (.keep Ak (.keep Ak (.keep Ak (.nil))))))))) (fun a ha => ?_)
  refine bN (Γ' := [(123,_),(3,_),(4,_),(121,_),(122,_)]) (M' := [_,_,_,_,_,_,_,_]) Z Z ?_
  by_cases ha:a<r
  ·refine ah (aj (Al (sT S (aO Z Z)) (Ap (ab (ah (aB Z (av (ab (ah ?_)))))))))
   refine ao (ah (aj (Al (an Z Z S) (Al (aS 6 Z Z S) (An Z (Ap (ab ?_)))))))
   apply q5 (Γ1 := [(3,_),(4,_),(121,_),(122,_),(123,_)]) (M1 := [_,_,_,_,_,_,_,_]) 12 7 [2,3] [] aK X Y
   ·refine Am Z (Am Z (Am Z (Am Z (Am Z (Am Z (Al (an Z Z S) (Al (bF 7 Z Z (bM S) S) (Am Z (Am Z ?_)))))))))
    refine Al (an Z Z S) (Al (bF 7 Z Z (bM S) S) (Ap ?_))
    refine xu (Γa := [(3,_),(4,_),(121,_),(122,_),(123,_),(9,_),(127,_),(128,_),(134,_),(138,_)]) (Γb := [(3,_),(4,_),(121,_),(122,_),(123,_),(9,_),(127,_),(128,_),(134,_),(138,_),(130,_)]) (Γc := [(3,_),(4,_),(121,_),(122,_),(123,_),(9,_),(127,_),(128,_),(134,_),(138,_),(129,_)]) (Γd := [(3,_),(4,_),(121,_),(122,_),(123,_),(9,_),(127,_),(128,_),(134,_),(138,_),(129,_),(130,_)]) (rem := [12,13,14,15]) Z Aj Z Aj Z Aj Z Aj Z ?_ ?_ ?_ ?_
    ·refine mw (r1 := [3,12,13,14,15]) (r2 := [2,12,13,14,15]) (r3 := [2,3,13,14,15]) (i:=2) (j:=3) (k:=12) X Z Z Z Z Z Z ?_ ?_ ?_ jj.nil
     refine Am Z (Ap ?_)
     refine ⟨rfl,?_⟩
     refine dI (rem' := [12,13,14,15]) (rem'' := [3,13,14,15]) (i:=3) (j:=12) X Z Z Z Z ?_ ?_ jj.nil
     refine Am Z (Ap ?_)
     refine ⟨rfl,?_⟩
     refine aQ (rem' := [13,14,15]) (i:=12) X Z Z ?_ jj.nil
     refine Al (an Z Z S) (Ap ?_)
     refine ⟨rfl,?_⟩
     refine aQ (rem' := [14,15]) (i:=13) X Z Z ?_ jj.nil
     (refine bg 7 Z Z Z (bM ?_) ?_ Z ?_;omega;omega)
     refine Ap ?_
     refine ⟨rfl,?_⟩
     refine aQ (rem' := [15]) (i:=14) X Z Z ?_ jj.nil
     refine Al (an Z Z S) (Ap ?_)
     refine ⟨rfl,?_⟩
     refine aQ (rem' := []) (i:=15) X Z Z ?_ jj.nil
     (refine bg 7 Z Z Z (bM ?_) ?_ Z ?_;omega;omega)
     refine Ap ?_
     refine ⟨rfl,?_⟩
     refine cF Aj (SubM.refl _) jj.nil
     refine Al (an Z Z S) (Ap ?_)
     refine ⟨rfl,?_⟩
     refine dI (rem' := [13,14,15]) (rem'' := [3,14,15]) (i:=3) (j:=13) X Z Z Z Z ?_ ?_ jj.nil
     refine Am Z (Ap ?_)
     refine ⟨rfl,?_⟩
     refine aQ (rem' := [14,15]) (i:=13) X Z Z ?_ jj.nil
     (refine bg 7 Z Z Z (bM ?_) ?_ Z ?_;omega;omega)
     refine Ap ?_
     refine ⟨rfl,?_⟩
     refine aQ (rem' := [15]) (i:=14) X Z Z ?_ jj.nil
     refine Al (an Z Z S) (Ap ?_)
     refine ⟨rfl,?_⟩
     refine aQ (rem' := []) (i:=15) X Z Z ?_ jj.nil
     (refine bg 7 Z Z Z (bM ?_) ?_ Z ?_;omega;omega)
     refine Ap ?_
     refine ⟨rfl,?_⟩
     refine cF Aj (SubM.refl _) jj.nil
     (refine bg 7 Z Z Z (bM ?_) ?_ Z ?_;omega;omega)
     refine Ap ?_
     refine ⟨rfl,?_⟩
     refine aQ (rem' := [14,15]) (i:=3) X Z Z ?_ jj.nil
     refine Am Z (Ap ?_)
     refine ⟨rfl,?_⟩
     refine aQ (rem' := [15]) (i:=14) X Z Z ?_ jj.nil
     refine Al (an Z Z S) (Ap ?_)
     refine ⟨rfl,?_⟩
     refine aQ (rem' := []) (i:=15) X Z Z ?_ jj.nil
     (refine bg 7 Z Z Z (bM ?_) ?_ Z ?_;omega;omega)
     refine Ap ?_
     refine ⟨rfl,?_⟩
     refine cF Aj (SubM.refl _) jj.nil
     refine Am Z (Ap ?_)
     refine ⟨rfl,?_⟩
     refine dI (rem' := [12,13,14,15]) (rem'' := [2,13,14,15]) (i:=2) (j:=12) X Z Z Z Z ?_ ?_ jj.nil
     refine Am Z (Ap ?_)
     refine ⟨rfl,?_⟩
     refine aQ (rem' := [13,14,15]) (i:=12) X Z Z ?_ jj.nil
     refine Al (an Z Z S) (Ap ?_)
     refine ⟨rfl,?_⟩
     refine aQ (rem' := [14,15]) (i:=13) X Z Z ?_ jj.nil
     (refine bg 7 Z Z Z (bM ?_) ?_ Z ?_;omega;omega)
     refine Ap ?_
     refine ⟨rfl,?_⟩
     refine aQ (rem' := [15]) (i:=14) X Z Z ?_ jj.nil
     refine Al (an Z Z S) (Ap ?_)
     refine ⟨rfl,?_⟩
     refine aQ (rem' := []) (i:=15) X Z Z ?_ jj.nil
     (refine bg 7 Z Z Z (bM ?_) ?_ Z ?_;omega;omega)
     refine Ap ?_
     refine ⟨rfl,?_⟩
     refine cF Aj (SubM.refl _) jj.nil
     refine Al (an Z Z S) (Ap ?_)
     refine ⟨rfl,?_⟩
     refine dI (rem' := [13,14,15]) (rem'' := [2,14,15]) (i:=2) (j:=13) X Z Z Z Z ?_ ?_ jj.nil
     refine Am Z (Ap ?_)
     refine ⟨rfl,?_⟩
     refine aQ (rem' := [14,15]) (i:=13) X Z Z ?_ jj.nil
     (refine bg 7 Z Z Z (bM ?_) ?_ Z ?_;omega;omega)
     refine Ap ?_
     refine ⟨rfl,?_⟩
     refine aQ (rem' := [15]) (i:=14) X Z Z ?_ jj.nil
     refine Al (an Z Z S) (Ap ?_)
     refine ⟨rfl,?_⟩
     refine aQ (rem' := []) (i:=15) X Z Z ?_ jj.nil
     (refine bg 7 Z Z Z (bM ?_) ?_ Z ?_;omega;omega)
     refine Ap ?_
     refine ⟨rfl,?_⟩
     refine cF Aj (SubM.refl _) jj.nil
     (refine bg 7 Z Z Z (bM ?_) ?_ Z ?_;omega;omega)
     refine Ap ?_
     refine ⟨rfl,?_⟩
     refine aQ (rem' := [14,15]) (i:=2) X Z Z ?_ jj.nil
     refine Am Z (Ap ?_)
     refine ⟨rfl,?_⟩
     refine aQ (rem' := [15]) (i:=14) X Z Z ?_ jj.nil
     refine Al (an Z Z S) (Ap ?_)
     refine ⟨rfl,?_⟩
     refine aQ (rem' := []) (i:=15) X Z Z ?_ jj.nil
     (refine bg 7 Z Z Z (bM ?_) ?_ Z ?_;omega;omega)
     refine Ap ?_
     refine ⟨rfl,?_⟩
     refine cF Aj (SubM.refl _) jj.nil
     refine Al (an Z Z S) (Ap ?_)
     refine ⟨rfl,?_⟩
     refine mw (r1 := [3,13,14,15]) (r2 := [2,13,14,15]) (r3 := [2,3,14,15]) (i:=2) (j:=3) (k:=13) X Z Z Z Z Z Z ?_ ?_ ?_ jj.nil
     refine Am Z (Ap ?_)
     refine ⟨rfl,?_⟩
     refine dI (rem' := [13,14,15]) (rem'' := [3,14,15]) (i:=3) (j:=13) X Z Z Z Z ?_ ?_ jj.nil
     refine Am Z (Ap ?_)
     refine ⟨rfl,?_⟩
     refine aQ (rem' := [14,15]) (i:=13) X Z Z ?_ jj.nil
     (refine bg 7 Z Z Z (bM ?_) ?_ Z ?_;omega;omega)
     refine Ap ?_
     refine ⟨rfl,?_⟩
     refine aQ (rem' := [15]) (i:=14) X Z Z ?_ jj.nil
     refine Al (an Z Z S) (Ap ?_)
     refine ⟨rfl,?_⟩
     refine aQ (rem' := []) (i:=15) X Z Z ?_ jj.nil
     (refine bg 7 Z Z Z (bM ?_) ?_ Z ?_;omega;omega)
     refine Ap ?_
     refine ⟨rfl,?_⟩
     refine cF Aj (SubM.refl _) jj.nil
     (refine bg 7 Z Z Z (bM ?_) ?_ Z ?_;omega;omega)
     refine Ap ?_
     refine ⟨rfl,?_⟩
     refine aQ (rem' := [14,15]) (i:=3) X Z Z ?_ jj.nil
     refine Am Z (Ap ?_)
     refine ⟨rfl,?_⟩
     refine aQ (rem' := [15]) (i:=14) X Z Z ?_ jj.nil
     refine Al (an Z Z S) (Ap ?_)
     refine ⟨rfl,?_⟩
     refine aQ (rem' := []) (i:=15) X Z Z ?_ jj.nil
     (refine bg 7 Z Z Z (bM ?_) ?_ Z ?_;omega;omega)
     refine Ap ?_
     refine ⟨rfl,?_⟩
     refine cF Aj (SubM.refl _) jj.nil
     refine Am Z (Ap ?_)
     refine ⟨rfl,?_⟩
     refine dI (rem' := [13,14,15]) (rem'' := [2,14,15]) (i:=2) (j:=13) X Z Z Z Z ?_ ?_ jj.nil
     refine Am Z (Ap ?_)
     refine ⟨rfl,?_⟩
     refine aQ (rem' := [14,15]) (i:=13) X Z Z ?_ jj.nil
     (refine bg 7 Z Z Z (bM ?_) ?_ Z ?_;omega;omega)
     refine Ap ?_
     refine ⟨rfl,?_⟩
     refine aQ (rem' := [15]) (i:=14) X Z Z ?_ jj.nil
     refine Al (an Z Z S) (Ap ?_)
     refine ⟨rfl,?_⟩
     refine aQ (rem' := []) (i:=15) X Z Z ?_ jj.nil
     (refine bg 7 Z Z Z (bM ?_) ?_ Z ?_;omega;omega)
     refine Ap ?_
     refine ⟨rfl,?_⟩
     refine cF Aj (SubM.refl _) jj.nil
     (refine bg 7 Z Z Z (bM ?_) ?_ Z ?_;omega;omega)
     refine Ap ?_
     refine ⟨rfl,?_⟩
     refine aQ (rem' := [14,15]) (i:=2) X Z Z ?_ jj.nil
     refine Am Z (Ap ?_)
     refine ⟨rfl,?_⟩
     refine aQ (rem' := [15]) (i:=14) X Z Z ?_ jj.nil
     refine Al (an Z Z S) (Ap ?_)
     refine ⟨rfl,?_⟩
     refine aQ (rem' := []) (i:=15) X Z Z ?_ jj.nil
     (refine bg 7 Z Z Z (bM ?_) ?_ Z ?_;omega;omega)
     refine Ap ?_
     refine ⟨rfl,?_⟩
     refine cF Aj (SubM.refl _) jj.nil
     (refine bg 7 Z Z Z (bM ?_) ?_ Z ?_;omega;omega)
     refine Ap ?_
     refine ⟨rfl,?_⟩
     refine dI (rem' := [3,14,15]) (rem'' := [2,14,15]) (i:=2) (j:=3) X Z Z Z Z ?_ ?_ jj.nil
     refine Am Z (Ap ?_)
     refine ⟨rfl,?_⟩
     refine aQ (rem' := [14,15]) (i:=3) X Z Z ?_ jj.nil
     refine Am Z (Ap ?_)
     refine ⟨rfl,?_⟩
     refine aQ (rem' := [15]) (i:=14) X Z Z ?_ jj.nil
     refine Al (an Z Z S) (Ap ?_)
     refine ⟨rfl,?_⟩
     refine aQ (rem' := []) (i:=15) X Z Z ?_ jj.nil
     (refine bg 7 Z Z Z (bM ?_) ?_ Z ?_;omega;omega)
     refine Ap ?_
     refine ⟨rfl,?_⟩
     refine cF Aj (SubM.refl _) jj.nil
     refine Am Z (Ap ?_)
     refine ⟨rfl,?_⟩
     refine aQ (rem' := [14,15]) (i:=2) X Z Z ?_ jj.nil
     refine Am Z (Ap ?_)
     refine ⟨rfl,?_⟩
     refine aQ (rem' := [15]) (i:=14) X Z Z ?_ jj.nil
     refine Al (an Z Z S) (Ap ?_)
     refine ⟨rfl,?_⟩
     refine aQ (rem' := []) (i:=15) X Z Z ?_ jj.nil
     (refine bg 7 Z Z Z (bM ?_) ?_ Z ?_;omega;omega)
     refine Ap ?_
     refine ⟨rfl,?_⟩
     refine cF Aj (SubM.refl _) jj.nil
    ·refine dI (rem' := [12,13,14,15]) (rem'' := [2,13,14,15]) (i:=2) (j:=12) X Z Z Z Z ?_ ?_ jj.nil
     refine Am Z (Ap ?_)
     refine ⟨rfl,?_⟩
     refine aQ (rem' := [13,14,15]) (i:=12) X Z Z ?_ jj.nil
     refine Al (an Z Z S) (Ap ?_)
     refine ⟨rfl,?_⟩
     refine aQ (rem' := [14,15]) (i:=13) X Z Z ?_ jj.nil
     (refine bg 7 Z Z Z (bM ?_) ?_ Z ?_;omega;omega)
     refine Ap ?_
     refine ⟨rfl,?_⟩
     refine aQ (rem' := [15]) (i:=14) X Z Z ?_ jj.nil
     refine Al (an Z Z S) (Ap ?_)
     refine ⟨rfl,?_⟩
     refine aQ (rem' := []) (i:=15) X Z Z ?_ jj.nil
     (refine bg 7 Z Z Z (bM ?_) ?_ Z ?_;omega;omega)
     refine Ap ?_
     refine ⟨rfl,?_⟩
     refine cF Aj (SubM.refl _) jj.nil
     refine Al (an Z Z S) (Ap ?_)
     refine ⟨rfl,?_⟩
     refine dI (rem' := [13,14,15]) (rem'' := [2,14,15]) (i:=2) (j:=13) X Z Z Z Z ?_ ?_ jj.nil
     refine Am Z (Ap ?_)
     refine ⟨rfl,?_⟩
     refine aQ (rem' := [14,15]) (i:=13) X Z Z ?_ jj.nil
     (refine bg 7 Z Z Z (bM ?_) ?_ Z ?_;omega;omega)
     refine Ap ?_
     refine ⟨rfl,?_⟩
     refine aQ (rem' := [15]) (i:=14) X Z Z ?_ jj.nil
     refine Al (an Z Z S) (Ap ?_)
     refine ⟨rfl,?_⟩
     refine aQ (rem' := []) (i:=15) X Z Z ?_ jj.nil
     (refine bg 7 Z Z Z (bM ?_) ?_ Z ?_;omega;omega)
     refine Ap ?_
     refine ⟨rfl,?_⟩
     refine cF Aj (SubM.refl _) jj.nil
     (refine bg 7 Z Z Z (bM ?_) ?_ Z ?_;omega;omega)
     refine Ap ?_
     refine ⟨rfl,?_⟩
     refine aQ (rem' := [14,15]) (i:=2) X Z Z ?_ jj.nil
     refine Am Z (Ap ?_)
     refine ⟨rfl,?_⟩
     refine aQ (rem' := [15]) (i:=14) X Z Z ?_ jj.nil
     refine Al (an Z Z S) (Ap ?_)
     refine ⟨rfl,?_⟩
     refine aQ (rem' := []) (i:=15) X Z Z ?_ jj.nil
     (refine bg 7 Z Z Z (bM ?_) ?_ Z ?_;omega;omega)
     refine Ap ?_
     refine ⟨rfl,?_⟩
     refine cF Aj (SubM.refl _) jj.nil
    ·refine dI (rem' := [12,13,14,15]) (rem'' := [3,13,14,15]) (i:=3) (j:=12) X Z Z Z Z ?_ ?_ jj.nil
     refine Am Z (Ap ?_)
     refine ⟨rfl,?_⟩
     refine aQ (rem' := [13,14,15]) (i:=12) X Z Z ?_ jj.nil
     refine Al (an Z Z S) (Ap ?_)
     refine ⟨rfl,?_⟩
     refine aQ (rem' := [14,15]) (i:=13) X Z Z ?_ jj.nil
     (refine bg 7 Z Z Z (bM ?_) ?_ Z ?_;omega;omega)
     refine Ap ?_
     refine ⟨rfl,?_⟩
     refine aQ (rem' := [15]) (i:=14) X Z Z ?_ jj.nil
     refine Al (an Z Z S) (Ap ?_)
     refine ⟨rfl,?_⟩
     refine aQ (rem' := []) (i:=15) X Z Z ?_ jj.nil
     (refine bg 7 Z Z Z (bM ?_) ?_ Z ?_;omega;omega)
     refine Ap ?_
     refine ⟨rfl,?_⟩
     refine cF Aj (SubM.refl _) jj.nil
     refine Al (an Z Z S) (Ap ?_)
     refine ⟨rfl,?_⟩
     refine dI (rem' := [13,14,15]) (rem'' := [3,14,15]) (i:=3) (j:=13) X Z Z Z Z ?_ ?_ jj.nil
     refine Am Z (Ap ?_)
     refine ⟨rfl,?_⟩
     refine aQ (rem' := [14,15]) (i:=13) X Z Z ?_ jj.nil
     (refine bg 7 Z Z Z (bM ?_) ?_ Z ?_;omega;omega)
     refine Ap ?_
     refine ⟨rfl,?_⟩
     refine aQ (rem' := [15]) (i:=14) X Z Z ?_ jj.nil
     refine Al (an Z Z S) (Ap ?_)
     refine ⟨rfl,?_⟩
     refine aQ (rem' := []) (i:=15) X Z Z ?_ jj.nil
     (refine bg 7 Z Z Z (bM ?_) ?_ Z ?_;omega;omega)
     refine Ap ?_
     refine ⟨rfl,?_⟩
     refine cF Aj (SubM.refl _) jj.nil
     (refine bg 7 Z Z Z (bM ?_) ?_ Z ?_;omega;omega)
     refine Ap ?_
     refine ⟨rfl,?_⟩
     refine aQ (rem' := [14,15]) (i:=3) X Z Z ?_ jj.nil
     refine Am Z (Ap ?_)
     refine ⟨rfl,?_⟩
     refine aQ (rem' := [15]) (i:=14) X Z Z ?_ jj.nil
     refine Al (an Z Z S) (Ap ?_)
     refine ⟨rfl,?_⟩
     refine aQ (rem' := []) (i:=15) X Z Z ?_ jj.nil
     (refine bg 7 Z Z Z (bM ?_) ?_ Z ?_;omega;omega)
     refine Ap ?_
     refine ⟨rfl,?_⟩
     refine cF Aj (SubM.refl _) jj.nil
    ·refine aQ (rem' := [13,14,15]) (i:=12) X Z Z ?_ jj.nil
     refine Al (an Z Z S) (Ap ?_)
     refine ⟨rfl,?_⟩
     refine aQ (rem' := [14,15]) (i:=13) X Z Z ?_ jj.nil
     (refine bg 7 Z Z Z (bM ?_) ?_ Z ?_;omega;omega)
     refine Ap ?_
     refine ⟨rfl,?_⟩
     refine aQ (rem' := [15]) (i:=14) X Z Z ?_ jj.nil
     refine Al (an Z Z S) (Ap ?_)
     refine ⟨rfl,?_⟩
     refine aQ (rem' := []) (i:=15) X Z Z ?_ jj.nil
     (refine bg 7 Z Z Z (bM ?_) ?_ Z ?_;omega;omega)
     refine Ap ?_
     refine ⟨rfl,?_⟩
     refine cF Aj (SubM.refl _) jj.nil
   refine aD (ab (aj (Al (bj _ 1 Z Z S) (Am Z (Ap ?_)))))
   refine aM (a+1) (ha) S Ah (.keep Ak (.keep Ak (.keep Ak (.keep Ak (.keep Ak (.keep Ak (.keep Ak (.keep (vy hne) (.nil)))))))))
  ·have hae:a=r:=by omega
   subst hae
   refine ah (aj (Al (sF S (aO Z Z)) (Ap (ab (ah (ay Z (a4 (az (az ?_)))))))))
   refine aI (ab (ah (aj (An Z (Ap (ab (aH (i5 () Tryz.results67 (.tmp Z W) ?_))))))))
   exact .drop (.keep Ak (.keep Ak (.keep Ak (.keep Ak (.keep Ak (.keep Ak (.keep (vv hblV) .nil)))))))
end Tor
end
section
set_option linter.unusedSectionVars false
namespace Tor
open Go Go.RowKit
section
variable {P:Program} {E:Env} {D:List Deferred} {Γ:Ctx} {M:Mem}
variable {ops:Array Oper} {i:Nat} {ty:TypeId} {pos:String} {af:Array Edge} {os:List Oper} {K:List Deferred→Ctx→Mem→Prop}
theorem gc {σ:Type} {f:FuncId} [hF:Fn P f] {t:Operand} {xs:Array Operand} {ats:Array TypeId} {φs φs':List VT} {Min Kp:Mem} {ψ:σ→VT} {Ms:σ→Mem} {d:Nat} (h:OkI P f φs' Min ψ Ms) (ht:aT Γ t=some (one (.func (.func f) #[] #[]))) (hx:gm Γ xs.toList=some φs) (hle:g9 φs φs') (hpm:M.Perm (Min ++ Kp))
  (hi:ops[i]? = some ⟨some d, .call ⟨.value t,xs,ats⟩,ty,pos,af,none⟩) (hd:Nat.ble (d+1) E.N=true)
  (hr : ∀ s,Run P E ops false (i+1) D ((d, ψ s) :: Γ) (Ms s ++ Kp) os K):Run P E ops false i D Γ M (⟨some d, .call ⟨.value t,xs,ats⟩,ty,pos,af,none⟩ :: os) K:=by
 refine .act (K':=fun D' Γ' M' => ∃ s,D'=D∧Γ'=(d, ψ s) :: Γ∧M'=Ms s ++ Kp) (fun a w hS0 next Q hn => ?_) (fun D' Γ' M' ⟨s,h1,h2,h3⟩=>by subst h1 h2 h3;exact hr s)
 have h0:a.eval t = .func (.func f) #[] #[]:=cZ hS0 ht
 have hS:=iE hpm hS0
 have hp:=f6 (a:=a) (h:=hv E (Min ++ Kp) w) hx (fun x φ hx' he=>cZ hS he)
 have hndA:=hS.base.nd
 rw [bC,List.nodup_append] at hndA
 have ehv : ∀ w:World,hid ((E.O ++ bm Kp) ++ bm Min) (cy w)=hv E (Min ++ Kp) w:=fun w=>gg (fun b=>by
  simp only [bC,List.mem_append]
  constructor
  ·rintro ((h | h) | h)
   ·exact .inl h
   ·exact .inr (.inr h)
   ·exact .inr (.inl h)
  ·rintro (h | h | h)
   ·exact .inl (.inl h)
   ·exact .inr h
   ·exact .inl (.inr h)) _
 have hc:=h w (E.O ++ bm Kp) _ (fun b hb=>hS.base.ex b (by
   rw [bC]
   rcases List.mem_append.1 hb with h | h
   ·exact List.mem_append.2 (.inl h)
   ·exact List.mem_append.2 (.inr (List.mem_append.2 (.inr h)))))
  (fun b hb=>⟨hS.base.ex b (by rw [bC]; exact List.mem_append.2 (.inr (List.mem_append.2 (.inl hb)))),fun hO=>by
   rcases List.mem_append.1 hO with h | h
   ·exact hS.base.dis b (by rw [bC]; exact List.mem_append.2 (.inl hb)) h
   ·exact hndA.2.2 b hb b h Z⟩) hndA.1 (fun o ho=>by rw [ehv]; exact hS.base.mem o (List.mem_append.2 (.inl ho))) (by rw [ehv]; exact f8 hle hp)
 simp only [wpOp,hi,di (o:=⟨some d, .call ⟨.value t,xs,ats⟩,ty,pos,af,none⟩) Z,if_true]
 refine .inl ?_
 unfold Oper.wp
 have hr:(execOp a.eval ⟨some d, .call ⟨.value t,xs,ats⟩,ty,pos,af,none⟩).run P w = .ok (.enter f (xs.toList.map a.eval).toArray) w:=by
  have h9:(xs.map a.eval)=(xs.toList.map a.eval).toArray:=by simp [← Array.toList_map]
  simp [execOp,resolve,Deferred.ofValue,invoke,h0,hF.run,h9]
 rw [hr]
 refine Calls.mono hc ?_
 rintro e w' ⟨s,v,rfl,hv',hf,hmem,hnd,hb⟩
 exact hn D ((d, ψ s) :: Γ) (Ms s ++ Kp) _ w' ⟨s,rfl,rfl,rfl⟩ (hS.lent hf hmem hnd hb (ltN hd) hv').1
end
end Tor
end
section
namespace Tor
open Go Go.RowKit Go.Proofs
def qw (r:Nat) (s:SS):Int:=da (fun i=>s.M i s.col) s.row (r - s.row)
def i7 (r:Nat) (s:SS) (l:S3):S3:=if qw r s<0 then l else if qw r s≠(s.row:Int) then (iT (qw r s).toNat s.row l.1,l.2) else l
theorem l5 {r:Nat} {s:SS} {l:S3} (h:ok3 r l):ok3 r (i7 r s l):=by
 unfold i7
 split
 ·exact h
 ·split
  ·exact ⟨vr.trans h.1,h.2⟩
  ·exact h
theorem it {r c row col:Nat} : decide ((row:Int)=(r:Int)∨(col:Int)=(c:Int))=decide (row=r∨col=c):=decide_eq_decide.2 S
theorem rs {r c:Nat} {s:SS} : cz r c s=decide ((s.row:Int)=(r:Int)∨(s.col:Int)=(c:Int)):=it.symm
attribute [local irreducible] J PJ aU one slT cC bJ ci exT cH eP aY bf slV VT.le Ret bW
attribute [local irreducible] ce
theorem m8 (b r c:Nat) (Ac:VT) [hX:Flat Ac .one] (sM sU sV:S3) (M U V:Nat→Nat→Int) (row col:Nat) (d:VT) [hd:Flat d .one] (hr:r≤1048576) (hc:c≤1048576) (hM:ok3 r sM) (hU:ok3 r sU) (hV:ok3 r sV) (hrow:row<r) (hcol:col<c) (hmM : ∀ i j,bV (M i j)) (hmU : ∀ i j,bV (U i j)) (hmV : ∀ i j,bV (V i j)) :
  OkI Tryz.prog 35 [one (.pointer (some ⟨b,0,none⟩))] (et b r c (gF r c Ac) sM sU sV M U V row col d)
   (fun _:Unit=>ci []) (fun _=>et b r c (gF r c Ac) (i7 r ⟨M,U,V,row,col⟩ sM) (i7 r ⟨M,U,V,row,col⟩ sU) sV (cQ r ⟨M,U,V,row,col⟩).M (cQ r ⟨M,U,V,row,col⟩).U (cQ r ⟨M,U,V,row,col⟩).V (cQ r ⟨M,U,V,row,col⟩).row (cQ r ⟨M,U,V,row,col⟩).col (one (.bool (cz r c (cQ r ⟨M,U,V,row,col⟩))))):=by
 have hskip:=wH b r c (gF r c Ac) sM sU sV M U V row col d hr hc hM hrow hcol
 unfold et bh at hskip
 have hfin:=fun (m u v:VT) (x y:Int)=>dZ r c Ac m u v x y d
 unfold et bh
 refine OkI.enter Tryz.func35 Z Tryz.ntmps35 Z (fun w O => ?_)
 refine ah (aj (stB Z Z Z (BuildK.cons Z Z Z (BuildK.cons Z Z Z (BuildK.cons Z Z Z (BuildK.cons Z Z Z (BuildK.cons Z Z Z (BuildK.nil ?_))))))))
 refine aW (T:=95) Z Z Z (fun b2 => ?_)
 refine aL 0 Z Z Z Z (Ap (ab (ah (ah (aj (Al (aC 0 Z Z) (Am Z (Ap (ab ?_)))))))))
 refine ao ?_
 refine bL (Γ' := [(7,_),(6,_),(0,_)]) (M' := [_,_,_,_,_,_,_]) Aj (.drop (SubM.refl _)) ?_
 refine bL (Γ' := [(0,_),(6,_),(7,_)]) Ag (SubM.refl _) ?_
 refine bE (σ:=Nat) (Γk := [(0,_),(6,_)]) Ag (fun i => [(7,one (.int .i64 (i:Nat)))]) (fun i M0=>M0) (fun i=>i≤4∧(0<i → ¬ da (fun i=>M i col) row (r - row)<0)∧(1<i→da (fun i=>M i col) row (r - row)=(row:Int))∧(2<i → ¬ M row col<0)∧(3<i → ¬ cG (bQ (fun i=>M i col) (M row col) row) r<r)) (fun i=>5 - i) (0) (⟨Nat.zero_le _,fun h=>absurd h S,fun h=>absurd h S,fun h=>absurd h S,fun h=>absurd h S⟩) Ah (.keep Ak (.keep Ak (.keep Ak (.keep Ak (.keep Ak (.keep Ak (.keep Ak (.nil)))))))) (fun i hi => ?_)
 refine bN (Γ' := [(7,_),(0,_),(6,_)]) (M' := [_,_,_,_,_,_,_]) Z Z ?_
 obtain ⟨hi4,h1,h2,h3,h4⟩:=hi
 rcases (show i=0∨i=1∨i=2∨i=3∨i=4 by omega) with rfl | rfl | rfl | rfl | rfl
 ·by_cases c1:da (fun i=>M i col) row (r - row)<0
  ·rw [decide_eq_true c1,if_pos c1] at hskip
   have e1:cQ r ⟨M,U,V,row,col⟩=⟨M,U,V,row,col+1⟩:=by unfold cQ;rw [if_pos c1]
   have e2 : ∀ l,i7 r ⟨M,U,V,row,col⟩ l=l:=fun l=>by unfold i7 qw;rw [if_pos c1]
   rw [e1,e2,e2,rs]
   refine ah (aj (Al (sT S (aO Z Z)) (Ap (ab (ah (aB Z (av (ab (ah ?_)))))))))
   refine ao (ah (aj (Al (fm Z Z S Z) (An Z (Ap (ab (ah (aj (Am Z ?_)))))))))
   refine Am Z ?_
   refine gc (Kp := []) hskip Z Z ⟨W,Aq⟩ (List.Perm.refl _) Z Z (fun _ => ?_)
   refine Ap (ab (aB Z (a4 (du Z (az (az (aI (ab (aj ?_)))))))))
   refine Am Z (Am Z (Al (aq Z) (Al (aC 0 Z Z) ?_)))
   refine Al (am (hfin _ _ _ _ _) Z ⟨W,Aq⟩) ?_
   refine Al (aq Z) (Al (aa Z) (aF 0 Z Z Z Z Z (leN Z) Z (Ap (gN ?_))))
   exact lE (σ:=Unit) (ψ:=fun _=>ci []) () Tryz.results35 W (.keep Ak (.keep Ak (.keep Ak (.keep Ak (.keep Ak (.keep Ak (.keep Ak .nil)))))))
  ·rw [decide_eq_false c1,if_neg c1] at hskip
   refine ah (aj (Al (sT S (aO Z Z)) (Ap (ab (ah (aB Z (av (ab (ah ?_)))))))))
   refine ao (ah (aj (Al (fm Z Z S Z) (An Z (Ap (ab (ah (aj (Am Z ?_)))))))))
   refine Am Z ?_
   refine gc (Kp := []) hskip Z Z ⟨W,Aq⟩ (List.Perm.refl _) Z Z (fun _ => ?_)
   refine Ap (ab (ay Z (av (aD (ab (aj (Al (bj _ 1 Z Z S) (Am Z (Ap ?_)))))))))
   refine aM (1) (⟨by omega,fun _=>c1,fun h=>absurd h S,fun h=>absurd h S,fun h=>absurd h S⟩) S Ah (.keep Ak (.keep Ak (.keep Ak (.keep Ak (.keep Ak (.keep Ak (.keep Ak (.nil))))))))
 ·have c1:=h1 S
  by_cases c2:da (fun i=>M i col) row (r - row)=(row:Int)
  ·have hex:=pn b r c (gF r c Ac) sM sU sV M U V row col d hr hc hM hrow hcol hmM c2
   unfold et bh at hex
   refine ah (aj (Al (sT S (aO Z Z)) (Ap (ab (ah (aB Z (av (ab (ah ?_)))))))))
   refine ao (ah (aj (Al (fm Z Z S Z) (An Z (Ap (ab (ah (aj (Am Z ?_)))))))))
   refine Am Z ?_
   refine gc (Kp := []) hex Z Z ⟨W,Aq⟩ (List.Perm.refl _) Z Z (fun _ => ?_)
   refine Ap (ab (ay Z (av (aD (ab (aj (Al (bj _ 1 Z Z S) (Am Z (Ap ?_)))))))))
   refine aM (2) (⟨by omega,fun _=>c1,fun _=>c2,fun h=>absurd h S,fun h=>absurd h S⟩) S Ah (.keep Ak (.keep Ak (.keep Ak (.keep Ak (.keep Ak (.keep Ak (.keep Ak (.nil))))))))
  ·obtain ⟨k,hk,hk2⟩ : ∃ k:Nat,da (fun i=>M i col) row (r - row)=(k:Int)∧k<r:=by
    rcases dz (fun i=>M i col) row (r - row) with ⟨e,_⟩ | ⟨k,e,_,hk,_⟩
    ·exact absurd (by rw [e]; decide) c1
    ·exact ⟨k,e,by omega⟩
   have hkn:k≠row:=fun e=>c2 (by rw [hk,e])
   have hex:=qv b r c (gF r c Ac) sM sU sV M U V row col d hr hc hM hU hV hrow hcol hmM k hk2 hkn hk
   unfold et bh at hex
   have e1:cQ r ⟨M,U,V,row,col⟩=⟨swp k row M,swp k row U,jO k row V,row,col⟩:=by unfold cQ;rw [if_neg c1,if_pos c2]; dsimp only;rw [hk]; rfl
   have e2 : ∀ l,i7 r ⟨M,U,V,row,col⟩ l=(iT k row l.1,l.2):=fun l=>by unfold i7 qw;rw [if_neg c1,if_pos c2]; dsimp only;rw [hk]; rfl
   rw [e1,e2,e2,show cz r c ⟨swp k row M,swp k row U,jO k row V,row,col⟩=false from decide_eq_false (show ¬ (row=r∨col=c) by omega)]
   refine ah (aj (Al (sT S (aO Z Z)) (Ap (ab (ah (aB Z (av (ab (ah ?_)))))))))
   refine ao (ah (aj (Al (fm Z Z S Z) (An Z (Ap (ab (ah (aj (Am Z ?_)))))))))
   refine Am Z ?_
   refine gc (Kp := []) hex Z Z ⟨W,Aq⟩ (List.Perm.refl _) Z Z (fun _ => ?_)
   refine Ap (ab (aB Z (a4 (du Z (az (az (aI (ab (aj ?_)))))))))
   refine Am Z (Am Z (Al (aq Z) (Al (aC 0 Z Z) ?_)))
   refine Al (sF S (am (hfin _ _ _ _ _) Z ⟨W,Aq⟩)) ?_
   refine Al (aq Z) (Al (aa Z) (aF 0 Z Z Z Z Z (leN Z) Z (Ap (gN ?_))))
   exact lE (σ:=Unit) (ψ:=fun _=>ci []) () Tryz.results35 W (.keep Ak (.keep Ak (.keep Ak (.keep Ak (.keep Ak (.keep Ak (.keep Ak .nil)))))))
 ·have c1:=h1 S
  have c2:=h2 S
  by_cases c3:M row col<0
  ·have hex:=tO b r c (gF r c Ac) sM sU sV M U V row col d hr hc hM hU hV hrow hcol hmM hmU hmV c3
   unfold et bh at hex
   have e1:cQ r ⟨M,U,V,row,col⟩=⟨dk row M,dk row U,jk row V,row,col⟩:=by unfold cQ;rw [if_neg c1,if_neg (fun h=>h c2),if_pos c3]
   have e2 : ∀ l,i7 r ⟨M,U,V,row,col⟩ l=l:=fun l=>by unfold i7 qw;rw [if_neg c1,if_neg (fun h=>h c2)]
   rw [e1,e2,e2,show cz r c ⟨dk row M,dk row U,jk row V,row,col⟩=false from decide_eq_false (show ¬ (row=r∨col=c) by omega)]
   refine ah (aj (Al (sT S (aO Z Z)) (Ap (ab (ah (aB Z (av (ab (ah ?_)))))))))
   refine ao (ah (aj (Al (fm Z Z S Z) (An Z (Ap (ab (ah (aj (Am Z ?_)))))))))
   refine Am Z ?_
   refine gc (Kp := []) hex Z Z ⟨W,Aq⟩ (List.Perm.refl _) Z Z (fun _ => ?_)
   refine Ap (ab (aB Z (a4 (du Z (az (az (aI (ab (aj ?_)))))))))
   refine Am Z (Am Z (Al (aq Z) (Al (aC 0 Z Z) ?_)))
   refine Al (sF S (am (hfin _ _ _ _ _) Z ⟨W,Aq⟩)) ?_
   refine Al (aq Z) (Al (aa Z) (aF 0 Z Z Z Z Z (leN Z) Z (Ap (gN ?_))))
   exact lE (σ:=Unit) (ψ:=fun _=>ci []) () Tryz.results35 W (.keep Ak (.keep Ak (.keep Ak (.keep Ak (.keep Ak (.keep Ak (.keep Ak .nil)))))))
  ·have hex:=rr b r c (gF r c Ac) sM sU sV M U V row col d hr hc hM hrow hcol (Int.not_lt.1 c3)
   unfold et bh at hex
   refine ah (aj (Al (sT S (aO Z Z)) (Ap (ab (ah (aB Z (av (ab (ah ?_)))))))))
   refine ao (ah (aj (Al (fm Z Z S Z) (An Z (Ap (ab (ah (aj (Am Z ?_)))))))))
   refine Am Z ?_
   refine gc (Kp := []) hex Z Z ⟨W,Aq⟩ (List.Perm.refl _) Z Z (fun _ => ?_)
   refine Ap (ab (ay Z (av (aD (ab (aj (Al (bj _ 1 Z Z S) (Am Z (Ap ?_)))))))))
   refine aM (3) (⟨by omega,fun _=>c1,fun _=>c2,fun _=>c3,fun h=>absurd h S⟩) S Ah (.keep Ak (.keep Ak (.keep Ak (.keep Ak (.keep Ak (.keep Ak (.keep Ak (.nil))))))))
 ·have c1:=h1 S
  have c2:=h2 S
  have c3:=h3 S
  have hp:M row col≠0:=by
   rcases dz (fun i=>M i col) row (r - row) with ⟨e,_⟩ | ⟨k,e,_,_,hk,_⟩
   ·exact absurd (by rw [e]; decide) c1
   ·have:k=row:=by omega
    rw [this] at hk;exact hk
  by_cases c4:cG (bQ (fun i=>M i col) (M row col) row) r<r
  ·have hex:=qt b r c (gF r c Ac) sM sU sV M U V row col d hr hc hM hU hV hrow hcol hmM hmU hmV hp _ c4 (iH _ _) (eQ _ _ c4)
   unfold et bh at hex
   have e1:cQ r ⟨M,U,V,row,col⟩=⟨cW (cG (bQ (fun i=>M i col) (M row col) row) r) row (M (cG (bQ (fun i=>M i col) (M row col) row) r) col / M row col) M,cW (cG (bQ (fun i=>M i col) (M row col) row) r) row (M (cG (bQ (fun i=>M i col) (M row col) row) r) col / M row col) U,gE row (cG (bQ (fun i=>M i col) (M row col) row) r) (M (cG (bQ (fun i=>M i col) (M row col) row) r) col / M row col) V,row,col⟩:=by unfold cQ;rw [if_neg c1,if_neg (fun h=>h c2),if_neg c3,if_pos c4]
   have e2 : ∀ l,i7 r ⟨M,U,V,row,col⟩ l=l:=fun l=>by unfold i7 qw;rw [if_neg c1,if_neg (fun h=>h c2)]
   rw [e1,e2,e2,show cz r c ⟨cW (cG (bQ (fun i=>M i col) (M row col) row) r) row (M (cG (bQ (fun i=>M i col) (M row col) row) r) col / M row col) M,cW (cG (bQ (fun i=>M i col) (M row col) row) r) row (M (cG (bQ (fun i=>M i col) (M row col) row) r) col / M row col) U,gE row (cG (bQ (fun i=>M i col) (M row col) row) r) (M (cG (bQ (fun i=>M i col) (M row col) row) r) col / M row col) V,row,col⟩=false from decide_eq_false (show ¬ (row=r∨col=c) by omega)]
   refine ah (aj (Al (sT S (aO Z Z)) (Ap (ab (ah (aB Z (av (ab (ah ?_)))))))))
   refine ao (ah (aj (Al (fm Z Z S Z) (An Z (Ap (ab (ah (aj (Am Z ?_)))))))))
   refine Am Z ?_
   refine gc (Kp := []) hex Z Z ⟨W,Aq⟩ (List.Perm.refl _) Z Z (fun _ => ?_)
   refine Ap (ab (aB Z (a4 (du Z (az (az (aI (ab (aj ?_)))))))))
   refine Am Z (Am Z (Al (aq Z) (Al (aC 0 Z Z) ?_)))
   refine Al (sF S (am (hfin _ _ _ _ _) Z ⟨W,Aq⟩)) ?_
   refine Al (aq Z) (Al (aa Z) (aF 0 Z Z Z Z Z (leN Z) Z (Ap (gN ?_))))
   exact lE (σ:=Unit) (ψ:=fun _=>ci []) () Tryz.results35 W (.keep Ak (.keep Ak (.keep Ak (.keep Ak (.keep Ak (.keep Ak (.keep Ak .nil)))))))
  ·have hex:=pk b r c (gF r c Ac) sM sU sV M U V row col d hr hc hM hrow hcol hmM hp (fun k hk=>iH _ r k S)
   unfold et bh at hex
   refine ah (aj (Al (sT S (aO Z Z)) (Ap (ab (ah (aB Z (av (ab (ah ?_)))))))))
   refine ao (ah (aj (Al (fm Z Z S Z) (An Z (Ap (ab (ah (aj (Am Z ?_)))))))))
   refine Am Z ?_
   refine gc (Kp := []) hex Z Z ⟨W,Aq⟩ (List.Perm.refl _) Z Z (fun _ => ?_)
   refine Ap (ab (ay Z (av (aD (ab (aj (Al (bj _ 1 Z Z S) (Am Z (Ap ?_)))))))))
   refine aM (4) (⟨by omega,fun _=>c1,fun _=>c2,fun _=>c3,fun _=>c4⟩) S Ah (.keep Ak (.keep Ak (.keep Ak (.keep Ak (.keep Ak (.keep Ak (.keep Ak (.nil))))))))
 ·have c1:=h1 S
  have c2:=h2 S
  have c3:=h3 S
  have c4:=h4 S
  have hex:=tN b r c (gF r c Ac) sM sU sV M U V row col d S S
  unfold et bh at hex
  have e1:cQ r ⟨M,U,V,row,col⟩=⟨M,U,V,row+1,col+1⟩:=by unfold cQ;rw [if_neg c1,if_neg (fun h=>h c2),if_neg c3,if_neg c4]
  have e2 : ∀ l,i7 r ⟨M,U,V,row,col⟩ l=l:=fun l=>by unfold i7 qw;rw [if_neg c1,if_neg (fun h=>h c2)]
  rw [e1,e2,e2,rs]
  refine ah (aj (Al (sT S (aO Z Z)) (Ap (ab (ah (aB Z (av (ab (ah ?_)))))))))
  refine ao (ah (aj (Al (fm Z Z S Z) (An Z (Ap (ab (ah (aj (Am Z ?_)))))))))
  refine Am Z ?_
  refine gc (Kp := []) hex Z Z ⟨W,Aq⟩ (List.Perm.refl _) Z Z (fun _ => ?_)
  refine Ap (ab (aB Z (a4 (du Z (az (az (aI (ab (aj ?_)))))))))
  refine Am Z (Am Z (Al (aq Z) (Al (aC 0 Z Z) ?_)))
  refine Al (am (hfin _ _ _ _ _) Z ⟨W,Aq⟩) ?_
  refine Al (aq Z) (Al (aa Z) (aF 0 Z Z Z Z Z (leN Z) Z (Ap (gN ?_))))
  exact lE (σ:=Unit) (ψ:=fun _=>ci []) () Tryz.results35 W (.keep Ak (.keep Ak (.keep Ak (.keep Ak (.keep Ak (.keep Ak (.keep Ak .nil)))))))
end Tor
end
section
namespace Tor
open Go Go.RowKit Go.Proofs
structure StL (r c:Nat) (s:SS):Prop where
 row:s.row≤r
 col:s.col≤c
 m : ∀ i j,bV (s.M i j)
 u : ∀ i j,bV (s.U i j)
 v : ∀ i j,bV (s.V i j)
attribute [local irreducible] J PJ aU one slT cC bJ ci exT cH eP aY bf slV VT.le Ret bW
attribute [local irreducible] ce
theorem po (r c:Nat) (F:Nat→Nat→Int) (hr:r≤1048576) (hc:c≤1048576) (T:Nat) (hT:T≤1048576) (hfin:cz r c (bD r c T (bA F))=true) (hno : ∀ j,j<T→cz r c (bD r c j (bA F))=false) (hS : ∀ t,StL r c (bD r c t (bA F))) :
  Ok Tryz.prog 15 [be r c F] (one (.int .i64 (T:Nat))):=by
 have hst:=qr r c F hr hc
 refine Ok.enter Tryz.func15 Z Tryz.ntmps15 Z (fun w O => ?_)
 refine ah (aj ?_)
 refine aR Z Z (ltN Z) (fun b1 => ?_)
 refine An Z (Ap (ab (ah (aj (Al (aC 0 Z Z) ?_)))))
 refine eO (hst) Z ⟨W,Aq⟩ Z Z (fun s6 => ?_)
 refine aW (T:=32) Z Z Z (fun b3 => ?_)
 refine aL 0 Z Z Z Z (Ap (ab (ah (aj (An Z (Ap (ab (ah (ao ?_)))))))))
 obtain ⟨sM,sU,sV⟩:=s6
 dsimp only
 refine eh (i:=1) (F:=ok3 r sM) Z (fun g h hp=>hp) (fun hM0 => ?_)
 refine eh (i:=4) (F:=ok3 r sU) Z (fun g h hp=>hp) (fun hU0 => ?_)
 refine eh (i:=7) (F:=ok3 r sV) Z (fun g h hp=>hp) (fun hV0 => ?_)
 refine bL (Γ' := [(4,one (.int .i64 ((0:Nat):Int))),(3,one (.pointer (some ⟨b3,0,none⟩)))]) (M' := [aY b3 32 15 (ew (be r c F) (bh r c sM) (bh r r sU) (bh r r sV) 0 0 (one (.bool (cz r c (bA F))))),bn sM.2.1 sM.2.2 r c sM.1,aZ c sM.1 F,bn sU.2.1 sU.2.2 r r sU.1,aZ r sU.1 idF,bn sV.2.1 sV.2.2 r r sV.1,aZ r sV.1 idF]) Aj ?_ ?_
 ·rw [rs]
  exact .keep Ak (.drop (.keep Ak (.keep Ak (.drop (.keep Ak (.keep Ak (.drop (.keep Ak (.keep Ak (.drop .nil))))))))))
 refine bL (Γ' := [(3,_),(4,_)]) Ag (SubM.refl _) ?_
 refine bE (σ:=Nat × S3 × S3 × S3) (Γk := [(3,_)]) Ag (fun x => [(4,one (.int .i64 (x.1:Nat)))]) (fun x M0=>(((((((M0.set 0 (aY b3 32 15 (ew (be r c F) (bh r c x.2.1) (bh r r x.2.2.1) (bh r r x.2.2.2) (bD r c x.1 (bA F)).row (bD r c x.1 (bA F)).col (one (.bool (cz r c (bD r c x.1 (bA F)))))))).set 1 (bn x.2.1.2.1 x.2.1.2.2 r c x.2.1.1)).set 2 (aZ c x.2.1.1 (bD r c x.1 (bA F)).M)).set 3 (bn x.2.2.1.2.1 x.2.2.1.2.2 r r x.2.2.1.1)).set 4 (aZ r x.2.2.1.1 (bD r c x.1 (bA F)).U)).set 5 (bn x.2.2.2.2.1 x.2.2.2.2.2 r r x.2.2.2.1)).set 6 (aZ r x.2.2.2.1 (bD r c x.1 (bA F)).V))) (fun x=>x.1≤T∧ok3 r x.2.1∧ok3 r x.2.2.1∧ok3 r x.2.2.2) (fun x=>T - x.1) ((0,sM,sU,sV)) (⟨Nat.zero_le _,hM0,hU0,hV0⟩) Ah (.keep Ak (.keep Ak (.keep Ak (.keep Ak (.keep Ak (.keep Ak (.keep Ak (.nil)))))))) (fun x hx => ?_)
 refine bN (Γ' := [(4,_),(3,_)]) (M' := [_,_,_,_,_,_,_]) Z Z ?_
 obtain ⟨t,lM,lU,lV⟩:=x
 obtain ⟨ht,hM,hU,hV⟩:=hx
 dsimp only at ht hM hU hV ⊢
 have hs:=hS t
 by_cases htT:t<T
 ·have hf:=hno t htT
  have e:=jB hf
  rw [hf]
  have hf2 : ¬ ((bD r c t (bA F)).row=r∨(bD r c t (bA F)).col=c):=of_decide_eq_false hf
  generalize bD r c t (bA F)=sx at *
  have hrow:sx.row<r:=by have:=hs.row;omega
  have hcol:sx.col<c:=by have:=hs.col;omega
  have hadv:=m8 b3 r c (slT .one r fun i=>cM c (F i)) lM lU lV sx.M sx.U sx.V sx.row sx.col (one (.bool false)) hr hc hM hU hV hrow hcol hs.m hs.u hs.v
  unfold et at hadv
  refine ah (ah (aj (Al (aa Z) (Al (ak 0 Z Z Z) (Al (aX Z) (Ap (ab (aB Z (av ?_)))))))))
  refine ab (ao (ah (aj ?_)))
  refine jx (Kp := []) hadv Z ⟨W,Aq⟩ (List.Perm.refl _) Z Z (fun _ => ?_)
  refine Ap (ab (aj (Am Z (Al (bj _ 1 Z Z S) (An Z (Ap (aD ?_)))))))
  refine aM ((t+1,i7 r sx lM,i7 r sx lU,lV)) (⟨htT,l5 hM,l5 hU,hV⟩) S Ah (.keep (by (dsimp only;rw [e]; exact Own.le_refl _)) (.keep Ak (.keep (by (dsimp only;rw [e]; exact Own.le_refl _)) (.keep Ak (.keep (by (dsimp only;rw [e]; exact Own.le_refl _)) (.keep Ak (.keep (by (dsimp only;rw [e]; exact Own.le_refl _)) (.nil))))))))
 ·have hte:t=T:=by omega
  subst hte
  rw [hfin]
  refine ah (ah (aj (Al (aa Z) (Al (ak 0 Z Z Z) (Al (aX Z) (Ap (ab (ay Z (a4 ?_)))))))))
  refine az (az (aI (ab (ah (aj (Am Z (An Z (Ap (ab ?_)))))))))
  refine aH ?_
  refine aJ Tryz.results15 (.tmp Z W)
end Tor
end
section
namespace Tor
open Go Go.RowKit Go.Proofs
abbrev stC (r c:Nat) (A:Nat→Nat→Int) (s:SS) (d:VT):cw:=ew (be r c A) (be r c s.M) (be r r s.U) (be r r s.V) s.row s.col d
abbrev stT (r c:Nat) (A:Nat→Nat→Int) (s:SS) (d:VT):VT:=bJ 15 (stC r c A s d)
def t4W:Nat→S3→VT→VT→VT
 | 2, s, φ, ψ => φ
 | 5, s, φ, ψ => φ
 | _, s, φ, ψ => ψ
def t4N:Nat→S3→Mem→Mem→Mem→Mem→Mem
 | 2, s, φ, ψ, χ, ω => φ
 | 5, s, φ, ψ, χ, ω => ψ
 | 8, s, φ, ψ, χ, ω => χ
 | _, s, φ, ψ, χ, ω => ω
theorem vz {E:Env} {D:List Deferred} {Γ:Ctx} {e:Exit} {Q:Exit→Act→World→Prop} {T:TypeId} {b2 b4 r c:Nat} {sA sM sU sV:S3} {A:Nat→Nat→Int} {s:SS} {d:VT} (hA:ok3 r sA) (hM:ok3 r sM) (hU:ok3 r sU) (hV:ok3 r sV)
  (h:PJ E D Γ [aY b2 T 15 (stC r c A s d),aY b4 T 15 (stC r c A s d)] e Q) :
  PJ E D Γ [aY b2 T 15 (ew (gF r c (one (slV sA.2.1 r sA.2.2))) (bh r c sM) (bh r r sU) (bh r r sV) s.row s.col d),bn sM.2.1 sM.2.2 r c sM.1,aZ c sM.1 s.M,bn sU.2.1 sU.2.2 r r sU.1,aZ r sU.1 s.U,bn sV.2.1 sV.2.2 r r sV.1,aZ r sV.1 s.V,bn sA.2.1 sA.2.2 r c sA.1,aZ c sA.1 A,aY b4 T 15 (ew (gF r c (one (slV sA.2.1 r sA.2.2))) (bh r c sM) (bh r r sU) (bh r r sV) s.row s.col d)] e Q:=by
 have hE:=fun (b:Nat)=>(vO.box (b:=b) (T:=T) (m:=15) (gC (Ms := [bn sM.2.1 sM.2.2 r c sM.1,aZ c sM.1 s.M,bn sU.2.1 sU.2.2 r r sU.1,aZ r sU.1 s.U,bn sV.2.1 sV.2.2 r r sV.1,aZ r sV.1 s.V,bn sA.2.1 sA.2.2 r c sA.1,aZ c sA.1 A]) (row:=s.row) (col:=s.col) (d:=d) (cn hA.1 (a8 6 Z) (a8 7 Z)) (cn hM.1 (a8 0 Z) (a8 1 Z)) (cn hU.1 (a8 2 Z) (a8 3 Z)) (cn hV.1 (a8 4 Z) (a8 5 Z))))
 refine fJ [bn sM.2.1 sM.2.2 r c sM.1,aZ c sM.1 s.M,bn sU.2.1 sU.2.2 r r sU.1,aZ r sU.1 s.U,bn sV.2.1 sV.2.2 r r sV.1,aZ r sV.1 s.V,bn sA.2.1 sA.2.2 r c sA.1,aZ c sA.1 A] (iR 10 [1,2,3,4,5,6,7,8,0,9] H Z Z) (.keep (hE b2) (.keep (hE b4) (EntM.refl _))) (qR.refl _) h
attribute [local irreducible] J PJ aU one slT cC bJ ci exT cH eP aY bf slV VT.le Ret bW
attribute [local irreducible] ce
set_option maxRecDepth 100000 in
theorem gR (r c:Nat) (A:Nat→Nat→Int) (s0:SS) (n:Int) (hn1:n≤1048576) (hr:r≤1048576) (hc:c≤1048576) (hS : ∀ t,StL r c (bD r c t s0)) :
  Ok Tryz.prog 13 [stT r c A s0 (one (.bool (cz r c s0))),one (.int .i64 n)] (stT r c A (bD r c n.toNat s0) (one (.bool (cz r c (bD r c n.toNat s0))))):=by
 have h0:=hS 0
 have hrow:=h0.row
 have hcol:=h0.col
 rw [show bD r c 0 s0=s0 from rfl] at hrow hcol
 have hf1:=j7 r c r c r r r r A s0.M s0.U s0.V s0.row s0.col (one (.bool (cz r c s0))) 
 have hfit:i6 r c r c r r r r s0.row s0.col=true:=decide_eq_true S
 rw [hfit] at hf1
 have hf2:=dZ r c (slT .one r fun i=>cM c (A i)) (be r c s0.M) (be r r s0.U) (be r r s0.V) s0.row s0.col (one (.bool (cz r c s0)))
 rw [it] at hf2
 refine Ok.enter Tryz.func13 Z Tryz.ntmps13 Z (fun w O => ?_)
 by_cases hn:n≤0
 ·rw [show n.toNat=0 by omega,show bD r c 0 s0=s0 from rfl]
  refine ah (aj ?_)
  refine aR Z Z (ltN Z) (fun b2 => ?_)
  refine aW (T:=32) Z Z Z (fun b4 => ?_)
  refine Ap (ab (ah (ah (aj (Am Z (Al (sT (by assumption) (fe Z Z)) (Am Z (sn0 Z Z Z Z Z (sn0 Z Z Z Z Z ?_)))))))))
  refine sn0 Z Z Z Z Z (Al (aA Z Z) (Am Z (sn0 Z Z Z Z Z (sn0 Z Z Z Z Z (Al (aA Z Z) (Ap (ab (aB Z (ah ?_)))))))))
  refine aj (Al (aC 1 Z Z) (aL 0 Z Z Z Z (Ap (ab (aH (aE ?_))))))
  refine aJ Tryz.results13 (.cellW 0 Z Z W)
 ·by_cases hf:cz r c s0=true
  ·rw [my hf]
   rw [show decide (s0.row=r∨s0.col=c)=cz r c s0 from rfl,hf] at hf2
   rw [hf] at hf1 ⊢
   refine ah (aj ?_)
   refine aR Z Z (ltN Z) (fun b2 => ?_)
   refine aW (T:=32) Z Z Z (fun b4 => ?_)
   refine Ap (ab (ah (ah (aj (Am Z (Al (sF (by assumption) (fe Z Z)) (Am Z (Ao (aC 1 Z Z) ?_))))))))
   refine Ao (am (hf1) Z ⟨W,Aq⟩) ?_
   refine Ao (aX Z) (Al (aw Z Z) (Am Z (Ao (aC 1 Z Z) ?_)))
   refine Ao (am (hf2) Z ⟨W,Aq⟩) ?_
   refine Al (aw Z Z) (Ap (ab (aB Z (ah (aj (Al (aC 1 Z Z) (aL 0 Z Z Z Z (Ap (ab ?_)))))))))
   refine aH (aE ?_)
   refine aJ Tryz.results13 (.cellW 0 Z Z W)
  ·have hf:cz r c s0=false:=by simpa using hf
   rw [show decide (s0.row=r∨s0.col=c)=cz r c s0 from rfl,hf] at hf2
   rw [hf] at hf1 ⊢
   have hco:=fM (fb r c A hr hc)
   have hcm:=fM (fb r c s0.M hr hc)
   have hcu:=fM (fb r r s0.U hr hr)
   have hcv:=fM (fb r r s0.V hr hr)
   refine ah (aj ?_)
   refine aR Z Z (ltN Z) (fun b2 => ?_)
   refine aW (T:=32) Z Z Z (fun b4 => ?_)
   refine Ap (ab (ah (ah (aj (Am Z (Al (sF (by assumption) (fe Z Z)) (Am Z (Ao (aC 1 Z Z) ?_))))))))
   refine Ao (am (hf1) Z ⟨W,Aq⟩) ?_
   refine Ao (aX Z) (Al (aw Z Z) (Am Z (Ao (aC 1 Z Z) ?_)))
   refine Ao (am (hf2) Z ⟨W,Aq⟩) ?_
   refine Al (aw Z Z) (Ap (ab (ay Z (av (ab (ah ?_))))))
   refine bL (Γ' := [(4,_),(2,_),(1,_)]) (M' := [_,_]) Aj (SubM.refl _) ?_
   refine m4 2 12 [2,5,8,11] ([],none,0) (fun j s=>t4W j s (bh r c s) (bh r r s)) (fun j s=>t4N j s (fX r c s A) (fX r c s s0.M) (fX r r s s0.U) (fX r r s s0.V)) aK X Y Z Y ?_
   refine kx Z (fun s B=>aa Z) Z ?_
   refine kx Z (fun s B=>ak 1 Z Z Z) Z ?_
   refine kc Z (fun s B=>dN hco Z ⟨W,Aq⟩) Z ?_
   refine kx Z (fun s B=>aa Z) Z ?_
   refine kx Z (fun s B=>ak 1 Z Z Z) Z ?_
   refine kc Z (fun s B=>dN hcm Z ⟨W,Aq⟩) Z ?_
   refine kx Z (fun s B=>aa Z) Z ?_
   refine kx Z (fun s B=>ak 1 Z Z Z) Z ?_
   refine kc Z (fun s B=>dN hcu Z ⟨W,Aq⟩) Z ?_
   refine kx Z (fun s B=>aa Z) Z ?_
   refine kx Z (fun s B=>ak 1 Z Z Z) Z ?_
   refine kc Z (fun s B=>dN hcv Z ⟨W,Aq⟩) Z ?_
   refine .nil fun s => ?_
   refine kv (Γ' := [(28,bh r r (s 11)),(25,bh r r (s 8)),(22,bh r c (s 5)),(19,bh r c (s 2)),(4,_),(2,_),(1,_)]) (M' := [ed (ok3 r (s 2)),bn (s 2).2.1 (s 2).2.2 r c (s 2).1,aZ c (s 2).1 A,ed (ok3 r (s 5)),bn (s 5).2.1 (s 5).2.2 r c (s 5).1,aZ c (s 5).1 s0.M,ed (ok3 r (s 8)),bn (s 8).2.1 (s 8).2.2 r r (s 8).1,aZ r (s 8).1 s0.U,ed (ok3 r (s 11)),bn (s 11).2.1 (s 11).2.2 r r (s 11).1,aZ r (s 11).1 s0.V,_,_]) Aj (SubM.refl _) ?_
   generalize s 2=sA
   generalize s 5=sM
   generalize s 8=sU
   generalize s 11=sV
   refine Al (aa Z) (aF 13 Z Z Z Z Z (leN Z) Z (Al (aa Z) (aF 13 Z Z Z Z Z (leN Z) Z (Al (aa Z) (aF 13 Z Z Z Z Z (leN Z) Z (Al (aa Z) (aF 13 Z Z Z Z Z (leN Z) Z (Ap (ab ?_)))))))))
   refine ah (ao ?_)
   refine eh (i:=0) (F:=ok3 r sA) Z (fun g h hp=>hp) (fun hA0 => ?_)
   refine eh (i:=3) (F:=ok3 r sM) Z (fun g h hp=>hp) (fun hM0 => ?_)
   refine eh (i:=6) (F:=ok3 r sU) Z (fun g h hp=>hp) (fun hU0 => ?_)
   refine eh (i:=9) (F:=ok3 r sV) Z (fun g h hp=>hp) (fun hV0 => ?_)
   refine xh (iR 14 [13,4,5,7,8,10,11,1,2,12,0,3,6,9] H Z Z) ?_
   refine bL (Γ' := [(4,one (.pointer (some ⟨b4,0,none⟩))),(2,one (.pointer (some ⟨b2,0,none⟩))),(1,one (.int .i64 (n - (0:Nat))))]) (M' := [aY b2 32 15 (ew (gF r c (one (slV sA.2.1 r sA.2.2))) (bh r c sM) (bh r r sU) (bh r r sV) s0.row s0.col (one (.bool (cz r c s0)))),bn sM.2.1 sM.2.2 r c sM.1,aZ c sM.1 s0.M,bn sU.2.1 sU.2.2 r r sU.1,aZ r sU.1 s0.U,bn sV.2.1 sV.2.2 r r sV.1,aZ r sV.1 s0.V,bn sA.2.1 sA.2.2 r c sA.1,aZ c sA.1 A,aY b4 32 15 (dy #[Value.int IntKind.i64 0,Value.int IntKind.i64 0,Value.slice none 0 0,Value.int IntKind.i64 0,Value.int IntKind.i64 0,Value.slice none 0 0,Value.int IntKind.i64 0,Value.int IntKind.i64 0,Value.slice none 0 0,Value.int IntKind.i64 0,Value.int IntKind.i64 0,Value.slice none 0 0,Value.int IntKind.i64 0,Value.int IntKind.i64 0,Value.bool false] [(0, .agg 3),(3, .agg 3),(6, .agg 3),(9, .agg 3),(12, .one),(13, .one),(14, .one)])]) (fg.cons Z W (fg.cons Z W (fg.cons Z (ar (by rw [Int.natCast_zero,Int.sub_zero])) fg.nil))) ?_ ?_
   ·rw [hf]
    exact .keep Ak (.keep Ak (.keep Ak (.keep Ak (.keep Ak (.keep Ak (.keep Ak (.keep Ak (.keep Ak (.keep Ak (.drop (.drop (.drop (.drop .nil)))))))))))))
   refine bL (Γ' := [(1,_),(2,_),(4,_)]) Ag (SubM.refl _) ?_
   refine bE (σ:=Nat × S3 × S3 × S3) (Γk := [(2,_),(4,_)]) Ag (fun x => [(1,one (.int .i64 (n - (x.1:Nat))))]) (fun x M0=>(((((((M0.set 0 (aY b2 32 15 (ew (gF r c (one (slV sA.2.1 r sA.2.2))) (bh r c x.2.1) (bh r r x.2.2.1) (bh r r x.2.2.2) (bD r c x.1 s0).row (bD r c x.1 s0).col (one (.bool (cz r c (bD r c x.1 s0))))))).set 1 (bn x.2.1.2.1 x.2.1.2.2 r c x.2.1.1)).set 2 (aZ c x.2.1.1 (bD r c x.1 s0).M)).set 3 (bn x.2.2.1.2.1 x.2.2.1.2.2 r r x.2.2.1.1)).set 4 (aZ r x.2.2.1.1 (bD r c x.1 s0).U)).set 5 (bn x.2.2.2.2.1 x.2.2.2.2.2 r r x.2.2.2.1)).set 6 (aZ r x.2.2.2.1 (bD r c x.1 s0).V))) (fun x=>(x.1:Int)≤n∧ok3 r x.2.1∧ok3 r x.2.2.1∧ok3 r x.2.2.2) (fun x=>n.toNat - x.1) ((0,sM,sU,sV)) (⟨by show ((0:Nat):Int)≤n;omega,hM0,hU0,hV0⟩) Ah (.keep Ak (.keep Ak (.keep Ak (.keep Ak (.keep Ak (.keep Ak (.keep Ak (.keep Ak (.keep Ak (.keep Ak (.nil))))))))))) (fun x hx => ?_)
   refine bN (Γ' := [(1,_),(2,_),(4,_)]) (M' := [_,_,_,_,_,_,_,_,_,_]) Z Z ?_
   obtain ⟨t,lM,lU,lV⟩:=x
   obtain ⟨ht,hM,hU,hV⟩:=hx
   dsimp only at ht hM hU hV ⊢
   have hs:=hS t
   by_cases htn:(t:Int)=n
   ·have hnt:n.toNat=t:=by omega
    rw [hnt]
    refine ah (ah (aj (Am Z (Al (sF S (cK Z Z)) (Am Z (sn0 Z Z Z Z Z (sn0 Z Z Z Z Z (sn0 Z Z Z Z Z (Al (aw Z Z) ?_)))))))))
    refine Ap (ab (ay Z (a4 (az (az (aI (ab (ah (aj ?_)))))))))
    refine Al (aC 0 Z Z) (aL 9 Z Z Z Z (Ap (ab (aH (vz hA0 hM hU hV ?_)))))
    refine aJ Tryz.results13 (.cellW 1 Z Z W)
   ·have hs:=hS t
    by_cases hft:cz r c (bD r c t s0)=true
    ·have e:bD r c n.toNat s0=bD r c t s0:=lm hft S
     rw [e]
     have hf3:=fun (m u v:VT)=>dZ r c (one (slV sA.2.1 r sA.2.2)) m u v (bD r c t s0).row (bD r c t s0).col (one (.bool (cz r c (bD r c t s0))))
     rw [it,show decide ((bD r c t s0).row=r∨(bD r c t s0).col=c)=cz r c (bD r c t s0) from rfl,hft] at hf3
     rw [hft]
     refine ah (ah (aj (Am Z (Al (sT S (cK Z Z)) (Am Z (Ao (aC 0 Z Z) ?_))))))
     refine Ao (am (hf3 _ _ _) Z ⟨W,Aq⟩) ?_
     refine Ao (aX Z) (Al (aA Z Z) (Ap (ab (ay Z (a4 (az (az (aI (ab ?_)))))))))
     refine ah (aj (Al (aC 0 Z Z) (aL 9 Z Z Z Z (Ap (ab (aH (vz hA0 hM hU hV ?_)))))))
     refine aJ Tryz.results13 (.cellW 1 Z Z W)
    ·have hft:cz r c (bD r c t s0)=false:=by simpa using hft
     have hf3:=fun (m u v:VT)=>dZ r c (one (slV sA.2.1 r sA.2.2)) m u v (bD r c t s0).row (bD r c t s0).col (one (.bool (cz r c (bD r c t s0))))
     rw [it,show decide ((bD r c t s0).row=r∨(bD r c t s0).col=c)=cz r c (bD r c t s0) from rfl,hft] at hf3
     have e:=jB hft
     rw [hft]
     have hf2 : ¬ ((bD r c t s0).row=r∨(bD r c t s0).col=c):=of_decide_eq_false hft
     generalize bD r c t s0=sx at *
     have hrow:sx.row<r:=by have:=hs.row;omega
     have hcol:sx.col<c:=by have:=hs.col;omega
     have hadv:=m8 b2 r c (one (slV sA.2.1 r sA.2.2)) lM lU lV sx.M sx.U sx.V sx.row sx.col (one (.bool false)) hr hc hM hU hV hrow hcol hs.m hs.u hs.v
     unfold et at hadv
     refine ah (ah (aj (Am Z (Al (sT S (cK Z Z)) (Am Z (Ao (aC 0 Z Z) ?_))))))
     refine Ao (am (hf3 _ _ _) Z ⟨W,Aq⟩) ?_
     refine Ao (aX Z) (Al (aA Z Z) (Ap (ab (aB Z (av (ab (ah (ao (aj ?_)))))))))
     refine jx (Kp := [_,_,_]) hadv Z ⟨W,Aq⟩ (List.Perm.refl _) Z Z (fun _ => ?_)
     refine Ap (aD (ab (aj (Am Z (Al (eH Z Z (aV S S)) (An Z (Ap ?_)))))))
     refine aM ((t+1,i7 r sx lM,i7 r sx lU,lV)) (⟨by show ((t+1:Nat):Int)≤n;omega,l5 hM,l5 hU,hV⟩) S Ah (.keep (by (dsimp only;rw [e]; exact Own.le_refl _)) (.keep Ak (.keep (by (dsimp only;rw [e]; exact Own.le_refl _)) (.keep Ak (.keep (by (dsimp only;rw [e]; exact Own.le_refl _)) (.keep Ak (.keep (by (dsimp only;rw [e]; exact Own.le_refl _)) (.keep Ak (.keep Ak (.keep Ak (.nil)))))))))))
end Tor
end
