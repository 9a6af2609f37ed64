/-
  Theorems that the proofs of laws of this seat rest on.
  No condition.
-/
import Derived.Test.YtcpilpmonajidaaEE3
set_option maxHeartbeats 8000000
set_option linter.unusedVariables false
set_option linter.unusedSimpArgs false
section
namespace Tor
open Go Go.RowKit Go.Proofs
structure RTimesR (lx ly zz:List Nat) (i:Nat):Prop where
 le:i≤lx.length
 len:zz.length=lx.length+ly.length+1
 lim:aW zz
 zero : ∀ k,i+ly.length≤k→zz.getD k 0=0
 val:lv zz=lv (lx.take i)*lv ly
structure RTimesI (lx ly z0 zz:List Nat) (i j c:Nat):Prop where
 le:j≤ly.length+1
 top:ly.length<j→c=0
 len:zz.length=lx.length+ly.length+1
 lim:aW zz
 zero : ∀ k,i+ly.length<k→zz.getD k 0=0
 zer1:j≤ly.length→zz.getD (i+ly.length) 0=0
 c1:c<4294967296
 val:lv zz+4294967296^(i+j)*c=lv z0+4294967296^i*(lx.getD i 0*lv (ly.take j))
theorem RTimesI.step {lx ly z0 zz:List Nat} {i j c:Nat} (h:RTimesI lx ly z0 zz i j c) (hx:aW lx) (hy:aW ly) (hi:i<lx.length) (hgo:j<ly.length∨0<c) :
  RTimesI lx ly z0 (zz.set (i+j) ((c+zz.getD (i+j) 0+lx.getD i 0*ly.getD j 0) % 4294967296)) i (j+1) ((c+zz.getD (i+j) 0+lx.getD i 0*ly.getD j 0) / 4294967296):=by
 have hj:j≤ly.length:=by have:=h.le;have:=h.top;omega
 have hlim:=i7 (aL hx i) (aL hy j) (aL h.lim (i+j)) h.c1
 have hlt:i+j<zz.length:=by rw [h.len]; omega
 refine ⟨by omega,fun ht => ?_,by rw [List.length_set]; exact h.len,h.lim.set S,fun k hk => ?_,fun hk => ?_,by omega,?_⟩
 ·have e:j=ly.length:=by omega
  subst e
  rw [h.zer1 (Nat.le_refl _)]
  have e2:ly.getD ly.length 0=0:=by simp
  rw [e2,Nat.mul_zero]
  have:=h.c1;omega
 ·rw [dh hlt,if_neg S]; exact h.zero k hk
 ·rw [dh hlt,if_neg S]; exact h.zer1 S
 ·have hs:=eG (l:=zz) (k:=i+j) (v:=(c+zz.getD (i+j) 0+lx.getD i 0*ly.getD j 0) % 4294967296) hlt
  have hv:=h.val
  rw [fy]
  generalize lx.getD i 0=x at *
  generalize ly.getD j 0=y at *
  generalize zz.getD (i+j) 0=z at *
  have e:c+z+x*y=4294967296*((c+z+x*y) / 4294967296)+(c+z+x*y) % 4294967296:=by omega
  generalize (c+z+x*y) / 4294967296=q at *
  generalize (c+z+x*y) % 4294967296=r at *
  rw [show i+(j+1)=(i+j)+1 by omega,Nat.pow_succ]
  have eB:4294967296^i*4294967296^j=4294967296^(i+j):=(Nat.pow_add _ _ _).symm
  have e3:4294967296^i*(x*(lv (ly.take j)+4294967296^j*y))=4294967296^i*(x*lv (ly.take j))+4294967296^(i+j)*(x*y):=by
   rw [Nat.mul_add,Nat.mul_add, ← eB]
   congr 1
   rw [Nat.mul_assoc]; congr 1
   rw [Nat.mul_left_comm]
  rw [e3]
  generalize 4294967296^(i+j)=B at *
  have e2:B*(c+z+x*y)=B*(4294967296*q+r):=by rw [e]
  simp only [Nat.mul_add, ← Nat.mul_assoc] at e2 ⊢ hs hv
  omega
theorem RTimesR.start {lx ly z0:List Nat} {i:Nat} (h:RTimesR lx ly z0 i):RTimesI lx ly z0 z0 i 0 0 :=
 ⟨Nat.zero_le _,fun _=>rfl,h.len,h.lim,fun k hk=>h.zero k S,fun _=>h.zero _ (Nat.le_refl _),by omega,by simp [lv]⟩
theorem RTimesI.finish {lx ly z0 zz:List Nat} {i j:Nat} (h0:RTimesR lx ly z0 i) (h:RTimesI lx ly z0 zz i j 0) (hj:ly.length≤j) (hi:i<lx.length):RTimesR lx ly zz (i+1):=by
 refine ⟨hi,h.len,h.lim,fun k hk=>h.zero k S,?_⟩
 have hv:=h.val
 rw [Nat.mul_zero,Nat.add_zero,List.take_of_length_le hj,h0.val] at hv
 rw [hv,a8 hi,Nat.add_mul,Nat.mul_assoc]
attribute [local irreducible] J PJ aF one slT cS bP bZ exT cR eP bf be slV VT.le Ret cm
attribute [local irreducible] aS
theorem sO (n1 n2:Bool) (v1 v2:Nat) (h1:(ax v1).length≤1099511627776) (h2:(ax v2).length≤1099511627776):Ok Try.prog 38 [sgT n1 v1,sgT n2 v2] (aS (sv n1 v1*sv n2 v2)):=by
 unfold sgT
 refine Ok.enter Try.func38 Z Try.ntmps38 Z (fun w O => ?_)
 have hx:=aG v1
 have hy:=aG v2
 have hva:=bh v1
 have hvb:=bh v2
 generalize ax v1=lx at *
 generalize ax v2=ly at *
 refine ae (ai ?_)
 refine aO Z Z (ltN Z) (fun b => ?_)
 refine aO Z Z (ltN Z) (fun b => ?_)
 refine av (T:=29) Z (ltN Z) (fun b => ?_)
 refine Ao (aa (ae (ai (Ak (am Z) (Ak (ak 2 Z Z Z) (Ak (aM Z) (Ak (am Z) (Ak (ak 1 Z Z Z) (Ak (aM Z) ?_)))))))))
 (refine Ak (db Z Z (aT ?_ ?_)) ?_;omega;omega)
 (refine Ak (db Z Z (aT ?_ ?_)) ?_;omega;omega)
 rename_i ba bb
 refine cz (lx.length+ly.length+1) (lx.length+ly.length+1) Z Z (by simp) (by simp) (Nat.le_refl _) Z Z S Z Z (fun bz => ?_)
 refine Am Z (Ao (aa (ae (ae (ai (Am Z (Ao (aa (aw ?_)))))))))
 refine eC (σ:=List Nat × Nat) (fun s => [(2,one (.pointer (some ⟨ba,0,none⟩))),(3,one (.pointer (some ⟨bb,0,none⟩))),(4,one (.pointer (some ⟨b,0,none⟩))),(5,one (slV (some bz) (lx.length+ly.length+1) (lx.length+ly.length+1))),(6,one (.int .i64 (s.2:Nat)))])
   (fun s => [be (some bz) 54 .one (lx.length+ly.length+1) (lx.length+ly.length+1) (fun q=>one (.int .u32 (s.1.getD q 0:Nat))),bf b 29 2 [(0, .agg 2,one (.agg #[.bool false, .slice none 0 0]))],bf bb 29 2 [(0, .one,one (.bool n2)),(1, .one,bC ly)],bf ba 29 2 [(0, .one,one (.bool n1)),(1, .one,bC lx)]])
   (fun s=>RTimesR lx ly s.1 s.2) (fun s=>lx.length - s.2) (List.replicate (lx.length+ly.length+1) 0,0)
   ⟨Nat.zero_le _,by simp,aW.replicate _,fun k _=>bL _ _,by simp [cV,lv]⟩ Ai (.keep (cE (fun q _=>by rw [bL]; rfl)) (SubM.refl _)) (fun s hR => ?_)
 obtain ⟨z0,i⟩:=s
 simp only at hR ⊢
 refine ae (ae (ai (Al Z (Ak (am Z) (Ak (ak 3 Z Z Z) (Ak (aM Z) (Ak (bp Z Z) (Ao (aa ?_)))))))))
 refine bw Z (fun hc => ?_) (fun hc => ?_) <;> simp at hc
 ·have g1:=aL hx i
  refine au (aa (ae (aw (ae (ai (Am Z (Ao (aa (ae ?_)))))))))
  refine ai (Am Z (Ao (aa (aw ?_))))
  refine eC (σ:=List Nat × Nat × Nat) (fun s => [(2,one (.pointer (some ⟨ba,0,none⟩))),(3,one (.pointer (some ⟨bb,0,none⟩))),(4,one (.pointer (some ⟨b,0,none⟩))),(5,one (slV (some bz) (lx.length+ly.length+1) (lx.length+ly.length+1))),(6,one (.int .i64 (i:Nat))),(7,one (.int .u64 (s.2.2:Nat))),(8,one (.int .i64 (s.2.1:Nat)))])
   (fun s => [be (some bz) 54 .one (lx.length+ly.length+1) (lx.length+ly.length+1) (fun q=>one (.int .u32 (s.1.getD q 0:Nat))),bf b 29 2 [(0, .agg 2,one (.agg #[.bool false, .slice none 0 0]))],bf bb 29 2 [(0, .one,one (.bool n2)),(1, .one,bC ly)],bf ba 29 2 [(0, .one,one (.bool n1)),(1, .one,bC lx)]])
   (fun s=>RTimesI lx ly z0 s.1 i s.2.1 s.2.2) (fun s=>ly.length+1 - s.2.1) (z0,0,0)
   hR.start Ai (SubM.refl _) (fun s hI => ?_)
  obtain ⟨zz,j,c⟩:=s
  simp only at hI ⊢
  have g0:=hI.c1
  have gj:=hI.le
  refine ae (ae ?_)
  refine fo (σ:=Unit) (fun _ => [(2,one (.pointer (some ⟨ba,0,none⟩))),(3,one (.pointer (some ⟨bb,0,none⟩))),(4,one (.pointer (some ⟨b,0,none⟩))),(5,one (slV (some bz) (lx.length+ly.length+1) (lx.length+ly.length+1))),(6,one (.int .i64 (i:Nat))),(7,one (.int .u64 (c:Nat))),(8,one (.int .i64 (j:Nat))),(33,one (.bool (decide (j<ly.length∨0<c))))])
   (fun _ => [be (some bz) 54 .one (lx.length+ly.length+1) (lx.length+ly.length+1) (fun q=>one (.int .u32 (zz.getD q 0:Nat))),bf b 29 2 [(0, .agg 2,one (.agg #[.bool false, .slice none 0 0]))],bf bb 29 2 [(0, .one,one (.bool n2)),(1, .one,bC ly)],bf ba 29 2 [(0, .one,one (.bool n1)),(1, .one,bC lx)]]) (fun _=>True) ?_ (fun _ _ => ?_)
  ·refine ai (Al Z (Ak (am Z) (Ak (ak 2 Z Z Z) (Ak (aM Z) (Ak (bp Z Z) (Al Z ?_))))))
   refine oz (t:=29) Z (fun bo hb => ?_)
   rw [hb]
   cases bo
   ·simp at hb
    refine An (ab Z) (An (cT Z Z) (Ak (aY Z Z) (Ao ?_)))
    exact cx () trivial (.cons Z A (.cons Z A (.cons Z A (.cons Z A (.cons Z A (.cons Z A (.cons Z A (.cons Z (aq (by congr 1;rw [decide_eq_decide]; omega)) .nil)))))))) (SubM.refl _)
   ·simp at hb
    refine sg0 Z Z Z Z (sg0 Z Z Z Z (Ak (a9 Z Z) (Ao ?_)))
    exact cx () trivial (.cons Z A (.cons Z A (.cons Z A (.cons Z A (.cons Z A (.cons Z A (.cons Z A (.cons Z (aq (by simp;omega)) .nil)))))))) (SubM.refl _)
  ·refine aa ?_
   refine bw Z (fun hc2 => ?_) (fun hc2 => ?_) <;> simp only [decide_eq_true_eq,decide_eq_false_iff_not] at hc2
   ·have hstep:=hI.step hx hy hc hc2
    have hjl:j≤ly.length:=by have:=hI.top;omega
    have g2:=aL hy j
    have g3:=aL hI.lim (i+j)
    have g4:=i7 g1 g2 g3 g0
    have hlt:i+j<zz.length:=by rw [hI.len]; omega
    refine au (aa (ae (aw (ae (ai (Al Z (Al Z (Al Z (Al Z ?_)))))))))
    (refine Ak (db Z Z (aT ?_ ?_)) ?_;omega;omega)
    (refine Ak (co Z Z ?_) ?_;omega)
    (refine Ak (dR 0 Z Z ?_) ?_;omega)
    (refine Ak (bc Z ?_) ?_;omega)
    (refine Ak (cL Z Z ?_) ?_;omega)
    refine Am Z (Ao (aa (ae (ae (ai (Al Z (Ak (am Z) (Ak (ak 2 Z Z Z) (Ak (aM Z) ?_)))))))))
    refine Ak (bp Z Z) (Ao (aa ?_))
    refine fo (σ:=Unit) (fun _ => [(2,one (.pointer (some ⟨ba,0,none⟩))),(3,one (.pointer (some ⟨bb,0,none⟩))),(4,one (.pointer (some ⟨b,0,none⟩))),(5,one (slV (some bz) (lx.length+ly.length+1) (lx.length+ly.length+1))),(6,one (.int .i64 (i:Nat))),(7,one (.int .u64 (c+zz.getD (i+j) 0+lx.getD i 0*ly.getD j 0:Nat))),(8,one (.int .i64 (j:Nat)))])
     (fun _ => [be (some bz) 54 .one (lx.length+ly.length+1) (lx.length+ly.length+1) (fun q=>one (.int .u32 (zz.getD q 0:Nat))),bf b 29 2 [(0, .agg 2,one (.agg #[.bool false, .slice none 0 0]))],bf bb 29 2 [(0, .one,one (.bool n2)),(1, .one,bC ly)],bf ba 29 2 [(0, .one,one (.bool n1)),(1, .one,bC lx)]]) (fun _=>True) ?_ (fun _ _ => ?_)
    ·refine bw Z (fun hc3 => ?_) (fun hc3 => ?_) <;> simp only [decide_eq_true_eq,decide_eq_false_iff_not] at hc3
     ·skip
      refine aU 16 aR X Y (Al Z (Ak (am Z) (Ak (ak 3 Z Z Z) (Al Z ?_))))
      (refine Ak (ar Z Z ?_) ?_;omega)
      refine Ak (aE Z) ?_
      (refine Ak (bc Z ?_) ?_;omega)
      refine Ak (am Z) (Ak (ak 2 Z Z Z) (Al Z ?_))
      (refine Ak (ar Z Z ?_) ?_;omega)
      refine Ak (aE Z) ?_
      (refine Ak (bc Z ?_) ?_;omega)
      (refine Ak (dK Z Z ?_) ?_;omega)
      (refine Ak (cL Z Z ?_) ?_;omega)
      refine Am Z (Ao (Ao ?_))
      exact cx () trivial Ai (SubM.refl _)
     ·have e0:ly.getD j 0=0:=by simp [List.getElem?_eq_none (show ly.length≤j by omega)]
      refine au ?_
      refine cx () trivial ?_ (SubM.refl _)
      rw [e0,Nat.mul_zero,Nat.add_zero]
      exact Ai
    ·refine aa (ae (ai (Al Z (Al Z (Al Z ?_)))))
     (refine Ak (db Z Z (aT ?_ ?_)) ?_;omega;omega)
     refine Al Z (Ak (bR Z) ?_)
     (refine Ak (co Z Z ?_) ?_;omega)
     (refine cy 0 Z Z Z ?_ Z ?_;omega)
     refine Ao (aa (ai (Al Z ?_)))
     (refine Ak (ph Z ?_) ?_;omega)
     refine Am Z (Ao (aK (aa (ai (Al Z ?_)))))
     (refine Ak (db Z Z (aT ?_ ?_)) ?_;omega;omega)
     refine Am Z (Ao ?_)
     refine dw (s:=(zz,j,c)) (zz.set (i+j) ((c+zz.getD (i+j) 0+lx.getD i 0*ly.getD j 0) % 4294967296),j+1,(c+zz.getD (i+j) 0+lx.getD i 0*ly.getD j 0) / 4294967296) hstep (by show ly.length+1 - (j+1)<ly.length+1 - j;omega) Ai (.keep (cE (fun q hq => ?_)) (SubM.refl _))
     unfold upd;rw [dh hlt]; split <;> rfl
   ·have hc0:c=0:=by omega
    subst hc0
    have hfin:=hI.finish hR S hc
    refine a6 (ay (ay (aI (aK (aa (ai (Al Z ?_)))))))
    (refine Ak (db Z Z (aT ?_ ?_)) ?_;omega;omega)
    refine Am Z (Ao ?_)
    exact dw (s:=(z0,i)) (zz,i+1) hfin (by show lx.length - (i+1)<lx.length - i;omega) Ai (SubM.refl _)
 ·have hi:i=lx.length:=by have:=hR.le;omega
  refine a6 (ay (ay (aI (aa (ae (ai (Al Z (Ak (am Z) (Ak (ak 3 Z Z Z) ?_)))))))))
  refine Ak (am Z) (Ak (ak 2 Z Z Z) (Ak (fj Z Z) (fk (t:=74) (j:=0) Z Z ?_)))
  skip
  refine Ak (aj (cp _ (v1*v2)) Z ⟨VT.le_trans (bK (m:=z0.length) (ψ:=fun i=>one (.int .u32 (z0.getD i 0:Nat))) hR.len.symm (fun q hq=>rfl)) (fb (l:=z0) hR.lim ?_ ?_),A,Ap⟩) ?_
  ·rw [hR.val,hi,List.take_length,hva,hvb]
  ·rw [hR.len]; omega
  refine ao 0 Z Z Z Z Z (leN Z) Z (Ao (aa (aC ?_)))
  exact aJ Try.results38 (.cellB 0 Z Z Z (bm (by cases n1 <;> cases n2 <;> simp [sv,Int.neg_mul,Int.mul_neg])))
end Tor
end
section
namespace Tor
open Go Go.RowKit Go.Proofs
def a4 (x:Int):Prop:=(ax x.natAbs).length≤1099511627776
theorem cD {x:Int} (h:x.natAbs<2^2048):a4 x:=by
 have:(ax x.natAbs).length≤64:=cB (Nat.lt_of_lt_of_le h F)
 unfold a4;omega
theorem kj (x y:Int) (hx:a4 x) (hy:a4 y):Ok Try.prog 29 [aS x,aS y] (aS (x+y)):=by
 have h:=ru (decide (x<0)) (decide (y<0)) x.natAbs y.natAbs hx hy
 rw [eo,eo] at h
 exact h.le ⟨dF _,dF _,Ap⟩ A
theorem kn (x y:Int) (hx:a4 x) (hy:a4 y):Ok Try.prog 33 [aS x,aS y] (aS (x - y)):=by
 have h:=ul (decide (x<0)) (decide (y<0)) x.natAbs y.natAbs hx hy
 rw [eo,eo] at h
 exact h.le ⟨dF _,dF _,Ap⟩ A
theorem ie (x y:Int) (hx:a4 x) (hy:a4 y):Ok Try.prog 30 [aS x,aS y] (aS (x*y)):=by
 have h:=um (decide (x<0)) (decide (y<0)) x.natAbs y.natAbs hx hy
 rw [eo,eo] at h
 exact h.le ⟨dF _,dF _,Ap⟩ A
theorem f8 (x:Int):Ok Try.prog 50 [aS x] (one (.int .i64 (cH x))):=by
 have h:=mP (decide (x<0)) x.natAbs
 rw [eo] at h
 exact h.le ⟨dF _,Ap⟩ A
theorem fM (x y:Int):Ok Try.prog 32 [aS x,aS y] (one (.int .i64 (cF x y))):=by
 have h:=un (decide (x<0)) (decide (y<0)) x.natAbs y.natAbs
 rw [eo,eo] at h
 exact h.le ⟨dF _,dF _,Ap⟩ A
theorem gU (x y:Int) (hx:a4 x) (hy:a4 y):Ok Try.prog 37 [aS x,aS y] (aS (x+y)):=by
 have h:=sN (decide (x<0)) (decide (y<0)) x.natAbs y.natAbs hx hy
 rw [eo,eo] at h
 exact h.le ⟨dF _,dF _,Ap⟩ A
theorem eQ (x y:Int) (hx:a4 x) (hy:a4 y):Ok Try.prog 38 [aS x,aS y] (aS (x*y)):=by
 have h:=sO (decide (x<0)) (decide (y<0)) x.natAbs y.natAbs hx hy
 rw [eo,eo] at h
 exact h.le ⟨dF _,dF _,Ap⟩ A
theorem jE {x:Int} (h:a4 x):a4 (-x):=by unfold a4 at *; rw [Int.natAbs_neg]; exact h
theorem ry (φ:VT):VT.le φ cm:=fun _ _ _=>trivial
attribute [local irreducible] J PJ aF one slT cS bP bZ exT cR eP bf be slV VT.le Ret cm
theorem jb (l:List Nat) (hl:l.length≤1099511627776):Ok Try.prog 73 [bC l] (bC l):=by
 unfold bC
 refine Ok.enter Try.func73 Z Try.ntmps73 Z (fun w O => ?_)
 refine ae (ai (Am Z (Ao (aa (ae (ae (ai (Al Z (Ak (sA Z) ?_)))))))))
 refine Ao (aa ?_)
 refine t7 (t:=4) Z (fun b => ?_)
 refine q9 (t:=4) Z (fun hb => ?_)
 refine bw Z (fun hc => ?_) (fun hc => ?_)
 ·have h0:=hb hc
  refine ae (ai (Am Z (Ao (aa (aC (aD ?_))))))
  refine aJ Try.results73 (.tmp Z (by (rw [h0]; exact hH)))
 ·refine au (aa (ae (ai (nq (n:=0) Z Z Z Z Z ?_))))
  refine PartsK.nil (fun bl => ?_)
  refine Al Z ?_
  (refine eg 0 Z Z Z (leN Z) ?_ ?_ Z (ltN Z) (fun sv7 cap7 => ?_);omega;omega)
  refine Am Z (Ao (aa (aC (dc (t:=2) (i:=0) Z Z ?_))))
  refine aJ Try.results73 (.tmp Z (bK (by simp) (fun i hi=>by simp)))
theorem sP (x:Int) (hx:a4 x):Ok Try.prog 85 [aS x] (aS (-x)):=by
 have hcl:=jb (ax x.natAbs) hx
 have hv:=(cN (!decide (x<0)) x.natAbs).le (dJ _) (bm (y := -x) (by by_cases h:x<0 <;> simp [h] <;> omega))
 unfold aS at *
 refine Ok.enter Try.func85 Z Try.ntmps85 Z (fun w O => ?_)
 refine ae (ai ?_)
 refine aO Z Z (ltN Z) (fun b1 => ?_)
 refine av (T:=29) Z (ltN Z) (fun b2 => ?_)
 refine Ao (aa (ae (aU 7 aR X Y (Ak (am Z) (Ak (ak 1 Z Z Z) (Ak (cv Z) (Ak (am Z) (Ak (ak 1 Z Z Z) ?_))))))))
 refine Ak (aj (hcl) Z ⟨A,Ap⟩) ?_
 refine Ak (aj (hv) Z ⟨A,(bM _),Ap⟩) ?_
 refine Ao (ao 0 Z Z Z Z Z (leN Z) Z (Ao (aa (aC ?_))))
 refine aJ Try.results85 (.cellB 0 Z Z Z A)
theorem sQ (x:Int) (hx:a4 x):Ok Try.prog 48 [aS x] (aS x.natAbs):=by
 have hcl:=jb (ax x.natAbs) hx
 have hv:=(cN false x.natAbs).le (dJ _) (bm (y:=(x.natAbs:Int)) (by simp))
 unfold aS at *
 refine Ok.enter Try.func48 Z Try.ntmps48 Z (fun w O => ?_)
 refine ae (ai ?_)
 refine aO Z Z (ltN Z) (fun b1 => ?_)
 refine av (T:=29) Z (ltN Z) (fun b2 => ?_)
 refine Ao (aa (ae (ai (Ak (am Z) (Ak (ak 1 Z Z Z) ?_)))))
 refine Ak (aj (hcl) Z ⟨A,Ap⟩) ?_
 refine Ak (aj (hv) Z ⟨A,(bM _),Ap⟩) ?_
 refine ao 0 Z Z Z Z Z (leN Z) Z (Ao (aa (aC ?_)))
 refine aJ Try.results48 (.cellB 0 Z Z Z A)
theorem cd {n:Nat} (h:(ax n).length≤1099511627776):VT.le (bC (ax n)) (kT n):=fb (aG n) (bh n) S
theorem gV (x:Int) (hx:a4 x):Ok Try.prog 66 [aS x] (aS (-x)):=by
 have hv:=(cp (!decide (x<0)) x.natAbs).le (dJ _) (bm (y := -x) (by by_cases h:x<0 <;> simp [h] <;> omega))
 have hx:(ax x.natAbs).length≤1099511627776:=hx
 unfold aS at *
 refine Ok.enter Try.func66 Z Try.ntmps66 Z (fun w O => ?_)
 refine ae (ai ?_)
 refine aO Z Z (ltN Z) (fun b1 => ?_)
 refine av (T:=29) Z (ltN Z) (fun b2 => ?_)
 refine Ao (aa (ae (ai (Ak (am Z) (Ak (ak 1 Z Z Z) (Ak (am Z) (Ak (ak 1 Z Z Z) (Ak (cv Z) ?_))))))))
 refine Ak (aj (hv) Z ⟨(cd hx),A,Ap⟩) ?_
 refine ao 0 Z Z Z Z Z (leN Z) Z (Ao (aa (aC ?_)))
 refine aJ Try.results66 (.cellB 0 Z Z Z A)
theorem nJ (x:Int) (hx:a4 x):Ok Try.prog 67 [aS x] (aS x.natAbs):=by
 have hv:=(cp false x.natAbs).le (dJ _) (bm (y:=(x.natAbs:Int)) (by simp))
 have hx:(ax x.natAbs).length≤1099511627776:=hx
 unfold aS at *
 refine Ok.enter Try.func67 Z Try.ntmps67 Z (fun w O => ?_)
 refine ae (ai ?_)
 refine aO Z Z (ltN Z) (fun b1 => ?_)
 refine av (T:=29) Z (ltN Z) (fun b2 => ?_)
 refine Ao (aa (ae (ai (Ak (am Z) (Ak (ak 1 Z Z Z) ?_)))))
 refine Ak (aj (hv) Z ⟨(cd hx),A,Ap⟩) ?_
 refine ao 0 Z Z Z Z Z (leN Z) Z (Ao (aa (aC ?_)))
 refine aJ Try.results67 (.cellB 0 Z Z Z A)
theorem cJ (x:Int):Ok Try.prog 64 [aS x] (one (.int .i64 (cH x))):=by
 have h:=rv (decide (x<0)) x.natAbs
 rw [eo] at h
 exact h.le ⟨dF _,Ap⟩ A
theorem fz (x y:Int) (hx:a4 x) (hy:a4 y):Ok Try.prog 41 [aS x,aS y] (aS (x - y)):=by
 have hv:=(gU x (-y) hx (jE hy)).le (dJ _) (bm (y:=x - y) S)
 refine Ok.enter Try.func41 Z Try.ntmps41 Z (fun w O => ?_)
 refine ae (ai ?_)
 refine aO Z Z (ltN Z) (fun b2 => ?_)
 refine aO Z Z (ltN Z) (fun b3 => ?_)
 refine av (T:=29) Z (ltN Z) (fun b4 => ?_)
 refine Ao (aa (ae (aU 4 aR X Y (Ak (aP 2 Z Z) (Ak (aP 1 Z Z) ?_)))))
 refine Ak (aj (gV _ (by assumption)) Z ⟨A,Ap⟩) ?_
 refine Ak (aj (hv) Z ⟨A,A,Ap⟩) ?_
 refine Ao (ao 0 Z Z Z Z Z (leN Z) Z (Ao (aa (aC ?_))))
 refine aJ Try.results41 (.cellB 0 Z Z Z A)
theorem sR (x y:Int):cH (x - y)=cF x y:=by
 unfold cH cF
 by_cases h:x<y
 ·rw [if_neg S,if_pos S,if_pos h]
 ·by_cases h2:y<x
  ·rw [if_neg S,if_neg S,if_neg h,if_pos h2]
  ·rw [if_pos S,if_neg h,if_neg h2]
theorem rz (x y:Int) (hx:a4 x) (hy:a4 y):Ok Try.prog 40 [aS x,aS y] (one (.int .i64 (cF x y))):=by
 refine Ok.enter Try.func40 Z Try.ntmps40 Z (fun w O => ?_)
 refine ae (ai ?_)
 refine aO Z Z (ltN Z) (fun b2 => ?_)
 refine aO Z Z (ltN Z) (fun b3 => ?_)
 refine Am Z (Ao (aa (ae (ai (Ak (aP 1 Z Z) (Ak (aP 0 Z Z) ?_))))))
 refine Ak (aj (fz _ _ (by assumption) (by assumption)) Z ⟨A,A,Ap⟩) ?_
 refine Ak (aj (cJ _) Z ⟨A,Ap⟩) ?_
 refine Am Z (Ao (aa (aC ?_)))
 refine aJ Try.results40 (.tmp Z (aq (by rw [sR])))
end Tor
end
section
namespace Tor
open Go Go.RowKit Go.Proofs
def fA:Nat→Nat→Nat
 | 0, _ => 0
 | f + 1, x => if x = 0 then 0 else fA f (x / 2) + 1
def fB (x:Nat):Nat:=fA 64 x
theorem fC : ∀ (f x:Nat),x<2^f→x<2^fA f x∧(x=0→fA f x=0)∧(x≠0→0<fA f x∧2^(fA f x - 1)≤x)∧fA f x≤f
 | 0, x, h => by simp at h; subst h; simp [fA]
 | f + 1, x, h => by
  rw [fA]
  split
  ·rename_i h0;subst h0;simp
  ·rename_i h0
   have h1:x / 2<2^f:=by rw [Nat.pow_succ] at h;omega
   obtain ⟨i1,i2,i3,i4⟩:=fC f (x / 2) h1
   refine ⟨by rw [Nat.pow_succ]; omega,fun h=>absurd h h0,fun _=>⟨by omega,?_⟩,by omega⟩
   rw [Nat.add_sub_cancel]
   by_cases h2:x / 2=0
   ·rw [i2 h2]; simp;omega
   ·obtain ⟨j1,j2⟩:=i3 h2
    obtain ⟨m,hm⟩ : ∃ m,fA f (x / 2)=m+1:=⟨fA f (x / 2) - 1,by omega⟩
    rw [hm] at j2 ⊢
    rw [Nat.add_sub_cancel] at j2
    rw [Nat.pow_succ]; omega
theorem mQ {x:Nat} (h:x<2^64):x<2^fB x:=(fC 64 x h).1
theorem mR {x:Nat} (h:x<2^64) (h0:x≠0):0<fB x∧2^(fB x - 1)≤x:=(fC 64 x h).2.2.1 h0
theorem qk {x n:Nat} (h:x<2^64) (h1:x<2^n) (h2:n=0∨2^(n - 1)≤x):fB x=n:=by
 obtain ⟨i1,i2,i3,_⟩:=fC 64 x h
 show fA 64 x=n
 by_cases h0:x=0
 ·rw [i2 h0]
  rcases h2 with h2 | h2
  ·exact h2.symm
  ·subst h0;have:=Nat.two_pow_pos (n - 1);omega
 ·obtain ⟨j1,j2⟩:=i3 h0
  rcases Nat.lt_trichotomy (fA 64 x) n with h3 | h3 | h3
  ·have:=Nat.pow_le_pow_right (n:=2) Y (show fA 64 x≤n - 1 by omega)
   rcases h2 with h2 | h2
   ·omega
   ·omega
  ·exact h3
  ·have:=Nat.pow_le_pow_right (n:=2) Y (show n≤fA 64 x - 1 by omega)
   omega
theorem jc {x n:Nat} (h:x<2^n) (hn:n≤64):fB x≤n:=by
 have hx:x<2^64:=Nat.lt_of_lt_of_le h (Nat.pow_le_pow_right Y hn)
 by_cases h0:x=0
 ·have:=(fC 64 x hx).2.1 h0
  unfold fB;omega
 ·obtain ⟨j1,j2⟩:=mR hx h0
  rcases Nat.lt_or_ge n (fB x) with h3 | h3
  ·have:=Nat.pow_le_pow_right (n:=2) Y (show n≤fB x - 1 by omega)
   omega
  ·exact h3
theorem kX {x k:Nat} (h:x<2^64) (hk:2^k≤x):fB x=k+fB (x / 2^k):=by
 have hp:=Nat.two_pow_pos k
 have hy:x / 2^k<2^64:=Nat.lt_of_le_of_lt (Nat.div_le_self _ _) h
 have hy0:x / 2^k≠0:=by
  have:=(Nat.le_div_iff_mul_le hp (x:=1) (y:=x)).2 S;omega
 obtain ⟨j1,j2⟩:=mR hy hy0
 have j3:=mQ hy
 refine qk h ?_ (.inr ?_)
 ·rw [Nat.pow_add]
  have:=Nat.lt_mul_div_succ x hp
  exact Nat.lt_of_lt_of_le this (Nat.mul_le_mul_left _ j3)
 ·have e:k+fB (x / 2^k) - 1=(fB (x / 2^k) - 1)+k:=by omega
  rw [e,Nat.pow_add]
  exact Nat.le_trans (Nat.mul_le_mul_right _ j2) (Nat.div_mul_le_self x (2^k))
theorem mS {s:ByteArray} (h:((List.range 256).all fun i=>(s[i]?).map UInt8.toNat == some (fB i))=true) {i:Nat} (hi:i<256):(s[i]?).map UInt8.toNat=some (fB i):=by
 have:=List.all_eq_true.1 h i (List.mem_range.2 hi)
 simpa using this
attribute [local irreducible] J PJ aF one slT cS bP bZ exT cR eP bf be slV VT.le Ret cm
theorem nK (x:Nat) (hx:x<4294967296):Ok Try.prog 84 [one (.int .u32 x)] (one (.int .i64 (fB x))):=by
 refine Ok.enter Try.func84 Z Try.ntmps84 Z (fun w O => ?_)
 have key : ∀ y:Nat,y<256→fB y≤8:=fun y hy=>jc (n:=8) S Y
 by_cases h1:65536≤x
 ·have e1:=kX (k:=16) (x:=x) S S
  by_cases h2:256≤x / 2^16
  ·have e2:=kX (k:=8) (x:=x / 2^16) S S
   have k2:=key (x / 2^16 / 2^8) S
   refine ae (ai (Am Z (Ao (aa (ae (ae (ai (Al Z (Ak (sT S (dC Z Z)) ?_)))))))))
   refine Ao (aa (aB Z (ae (ai (Al Z (Ak (iG (s:=16) Z Z Y) (Am Z (Ao (aa ?_)))))))))
   refine ai (Am Z (Ao (aa (ae (ae (ai (Al Z (Ak (sT S (dC Z Z)) (Ao ?_)))))))))
   refine aa (aB Z (ae (ai (Al Z (Ak (iG (s:=8) Z Z Y) (Am Z (Ao (aa (ai ?_)))))))))
   refine Al Z (Ak (db Z Z (aT S S)) (Am Z (Ao (aa (ae (ai (Al Z (Al Z (Ak (kg Z S S) ?_)))))))))
   refine Ak (gr X Z Z (mS F S)) (Ak (ej Z S S) (Ak (db Z Z (aT S S)) (Am Z (Ao (aa (aC ?_))))))
   refine aJ Try.results84 (.tmp Z (aq (by congr 1;omega)))
  ·have k2:=key (x / 2^16) S
   refine ae (ai (Am Z (Ao (aa (ae (ae (ai (Al Z (Ak (sT S (dC Z Z)) ?_)))))))))
   refine Ao (aa (aB Z (ae (ai (Al Z (Ak (iG (s:=16) Z Z Y) (Am Z (Ao (aa ?_)))))))))
   refine ai (Am Z (Ao (aa (ae (ae (ai (Al Z (Ak (sF S (dC Z Z)) (Ao ?_)))))))))
   refine aa (az Z (au (aa (ae (ai (Al Z (Al Z (Ak (kg Z S S) (Ak (gr X Z Z (mS F S)) ?_)))))))))
   refine Ak (ej Z S S) (Ak (db Z Z (aT S S)) (Am Z (Ao (aa (aC ?_)))))
   refine aJ Try.results84 (.tmp Z (aq (by congr 1;omega)))
 ·by_cases h2:256≤x
  ·have e2:=kX (k:=8) (x:=x) S S
   have k2:=key (x / 2^8) S
   refine ae (ai (Am Z (Ao (aa (ae (ae (ai (Al Z (Ak (sF S (dC Z Z)) ?_)))))))))
   refine Ao (aa (az Z (au (aa (ae (ae (ai (Al Z (Ak (sT S (dC Z Z)) ?_)))))))))
   refine Ao (aa (aB Z (ae (ai (Al Z (Ak (iG (s:=8) Z Z Y) (Am Z (Ao (aa ?_)))))))))
   refine ai (Al Z (Ak (db Z Z (aT S S)) (Am Z (Ao (aa (ae (ai (Al Z (Al Z ?_)))))))))
   refine Ak (kg Z S S) (Ak (gr X Z Z (mS F S)) (Ak (ej Z S S) (Ak (db Z Z (aT S S)) (Am Z (Ao (aa (aC ?_)))))))
   refine aJ Try.results84 (.tmp Z (aq (by congr 1;omega)))
  ·have k2:=key x S
   refine ae (ai (Am Z (Ao (aa (ae (ae (ai (Al Z (Ak (sF S (dC Z Z)) ?_)))))))))
   refine Ao (aa (az Z (au (aa (ae (ae (ai (Al Z (Ak (sF S (dC Z Z)) ?_)))))))))
   refine Ao (aa (az Z (au (aa (ae (ai (Al Z (Al Z (Ak (kg Z S S) ?_)))))))))
   refine Ak (gr X Z Z (mS F S)) (Ak (ej Z S S) (Ak (db Z Z (aT S S)) (Am Z (Ao (aa (aC ?_))))))
   refine aJ Try.results84 (.tmp Z (aq (by congr 1;omega)))
theorem sS (x:Nat) (hx:x<4294967296):Ok Try.prog 81 [one (.int .u32 x)] (one (.int .i64 ((32 - fB x:Nat):Int))):=by
 have h:=jc (n:=32) (x:=x) S Y
 refine Ok.enter Try.func81 Z Try.ntmps81 Z (fun w O => ?_)
 refine ae (ai (Am Z (Ao (aa (ae (ai (Al Z ?_)))))))
 refine Ak (aj (nK _ (by assumption)) Z ⟨A,Ap⟩) ?_
 refine Ak (dE Z Z (aT S S)) (Am Z (Ao (aa (aC ?_))))
 refine aJ Try.results81 (.tmp Z (aq (by congr 1;omega)))
theorem nL (i:Nat):4294967296^i=2^(32*i):=by rw [Nat.pow_mul]
theorem gv {l:List Nat} (h:aW l) (i:Nat):lv (l.take i)<2^(32*i):=by
 have h1:=fw (h.take i)
 rw [← nL]
 exact Nat.lt_of_lt_of_le h1 (Nat.pow_le_pow_right Y (by simp;omega))
theorem oN {d e i:Nat} (hd:d<4294967296) (hb:e<2^(32*i)) (hi:i≤1):d*2^(32*i)+e<18446744073709551616:=by
 rcases (show i=0∨i=1 by omega) with rfl | rfl
 ·rw [show 2^(32*0)=1 by simp] at hb ⊢; omega
 ·rw [show 2^(32*1)=4294967296 by simp] at hb ⊢
  have h1:d*4294967296+e<(d+1)*4294967296:=by rw [Nat.add_mul]; exact Nat.add_lt_add_left (by rw [Nat.one_mul]; exact hb) _
  exact Nat.lt_of_lt_of_le h1 (Nat.le_trans (Nat.mul_le_mul_right _ hd) (Nat.le_of_eq Z))
theorem ko (l:List Nat) (hl:aW l) (h2:l.length≤2):Ok Try.prog 74 [bC l] (one (.int .u64 (lv l))):=by
 refine Ok.enter Try.func74 Z Try.ntmps74 Z (fun w O => ?_)
 refine ae (ai (Am Z (Ao (aa (ae (ai (Am Z (Ao (aa ?_)))))))))
 refine ae (ae (ai (Al Z (Ak (aM Z) (Al Z (Ao (aa (aw (cl (Γ' := [(2,_),(3,_),(6,_),(7,_),(8,_)]) Ag (SubM.refl _) ?_)))))))))
 refine bA (σ:=Nat) (Γk := [(2,_),(6,_),(7,_)]) Ag (fun i => [(8,one (.int .i64 (i:Nat))),(3,one (.int .u64 (lv (l.take i))))]) (fun i M0=>M0) (fun i=>i≤l.length) (fun i=>l.length - i) (0) (Nat.zero_le _) Ah (.nil) (fun i hi => ?_)
 refine bS (Γ' := [(8,_),(3,_),(2,_),(6,_),(7,_)]) (M' := []) Z Z (ae (ai (Ak (bp Z Z) (Ao (aa (ae ?_))))))
 refine mE Z (fun hc => ?_) (fun hc => ?_)
 ·have hi1:i≤1:=by omega
  have hd:=aL hl i
  have hb:=gv hl i
  have hab:=oN hd hb hi1
  have ha:l.getD i 0*2^(32*i)<18446744073709551616:=Nat.lt_of_le_of_lt (Nat.le_add_right _ _) hab
  have hn:lv (l.take i)+l.getD i 0*2^(32*i)=lv (l.take (i+1)):=by
   rw [a8 S,nL,Nat.mul_comm]
  refine au (aa (ae (aw (ae (ai (Al Z (Ak (ar Z Z S) (Ak (aE Z) (Am Z ?_)))))))))
  refine Am Z (Ao (aa (ai (Al Z (Al Z (Ak (bc Z S) (Al Z (Ak (rj 32 _ Z Z S) (Ak (iF Z Z S S) ?_)))))))))
  refine Ak (tW Z Z S S) (Am Z (Ao (aK (aa (ai (Ak (bX _ 1 Z Z S) (Al Z (Ao ?_))))))))
  rw [hn]
  refine aN (i+1) S S Ah (.nil)
 ·have e:i=l.length:=by omega
  subst e
  rw [List.take_length]
  refine a6 (ay (ay (aI (aa (ae (ai (Al Z (Am Z (Ao ?_)))))))))
  refine aa (aC ?_)
  refine aJ Try.results74 (.tmp Z A)
end Tor
end
section
namespace Tor
open Go Go.RowKit Go.Proofs
structure ShortR (l:List Nat) (d:Nat) (s:List Nat × Nat × Nat):Prop where
 le:s.2.1≤l.length
 len:s.1.length=l.length
 lim:aW s.1
 r:s.2.2<d
 zero : ∀ k,k<s.2.1→s.1.getD k 0=0
 val:lv l=lv (l.take s.2.1)+(lv s.1*d+4294967296^s.2.1*s.2.2)
theorem ShortR.start {l:List Nat} {d:Nat} (hd:0<d):ShortR l d (List.replicate l.length 0,l.length,0) :=
 ⟨Nat.le_refl _,by simp,aW.replicate _,hd,fun k _=>bL _ _,by simp [cV]⟩
theorem ShortR.bound {x r d:Nat} (hx:x<4294967296) (hr:r<d) (hd:d<4294967296):r*4294967296+x<18446744073709551616∧(r*4294967296+x) / d<4294967296:=by
 have h1:r*4294967296+x<d*4294967296:=by omega
 exact ⟨by omega,Nat.div_lt_of_lt_mul h1⟩
theorem ShortR.step {l:List Nat} {d:Nat} {z:List Nat} {n r:Nat} (h:ShortR l d (z,n+1,r)) (hl:aW l) (hd:d<4294967296) :
  ShortR l d (z.set n ((r*4294967296+l.getD n 0) / d),n,(r*4294967296+l.getD n 0) % d):=by
 have hn:n<l.length:=h.le
 have hz:n<z.length:=by have:=h.len;simp only at this;omega
 have hx:=aL hl n
 have hr:r<d:=h.r
 have hb:=ShortR.bound hx hr hd
 have h0:z.getD n 0=0:=h.zero n (Nat.lt_succ_self n)
 have hs:=eG (l:=z) (v:=(r*4294967296+l.getD n 0) / d) hz
 rw [h0,Nat.mul_zero,Nat.add_zero] at hs
 refine ⟨Nat.le_of_lt hn,by rw [List.length_set]; exact h.len,aW.set h.lim hb.2,Nat.mod_lt _ S,fun k hk => ?_,?_⟩
 ·simp only at hk ⊢
  rw [dh hz,if_neg S]; exact h.zero k (Nat.lt_succ_of_lt hk)
 ·have hv:lv l=lv (l.take (n+1))+(lv z*d+4294967296^(n+1)*r):=h.val
  simp only
  rw [hs,hv,a8 hn]
  have e:=Nat.div_add_mod (r*4294967296+l.getD n 0) d
  generalize (r*4294967296+l.getD n 0) / d=q at *
  generalize (r*4294967296+l.getD n 0) % d=m at *
  generalize l.getD n 0=x at *
  rw [Nat.pow_succ]
  generalize 4294967296^n=B at *
  have e2:B*(d*q+m)=B*(r*4294967296+x):=by rw [e]
  have e3:(lv z+B*q)*d=lv z*d+B*(d*q):=by rw [Nat.add_mul,Nat.mul_assoc,Nat.mul_comm q d]
  have e4:B*4294967296*r=B*(r*4294967296):=by rw [Nat.mul_assoc,Nat.mul_comm r]
  rw [e3,e4]
  rw [Nat.mul_add,Nat.mul_add] at e2
  omega
theorem ShortR.finish {l:List Nat} {d:Nat} {z:List Nat} {r:Nat} (h:ShortR l d (z,0,r)):lv z=lv l / d∧r=lv l % d:=by
 have hv:lv l=lv (l.take 0)+(lv z*d+4294967296^0*r):=h.val
 have hr:r<d:=h.r
 have e:lv l=lv z*d+r:=by simpa [lv] using hv
 rw [e]
 constructor
 ·rw [Nat.mul_comm,Nat.mul_add_div S,Nat.div_eq_of_lt hr]; rfl
 ·rw [Nat.mul_comm,Nat.mul_add_mod,Nat.mod_eq_of_lt hr]
theorem mT {b:Option Nat} {T:TypeId} {n cap:Nat} {z:List Nat} {k v v':Nat} (hk:k<z.length) (hv:v'=v):Own.le (be b T .one n cap (upd (fun q=>one (.int .u32 (z.getD q 0:Nat))) k (one (.int .u32 (v':Nat))))) (be b T .one n cap (fun q=>one (.int .u32 ((z.set k v).getD q 0:Nat)))):=by
 subst hv
 exact cE (fun q _=>by unfold upd;rw [dh hk]; split <;> rfl)
attribute [local irreducible] J PJ aF one slT cS bP bZ exT cR eP bf be slV VT.le Ret cm
theorem rA (l:List Nat) (d:Nat) (hl:aW l) (h1:l.length≤1099511627776) (hd0:0<d) (hd:d<4294967296):Ok Try.prog 80 [bC l,one (.int .u32 (d:Nat))] (bZ [i8 (lv l / d),one (.int .u32 ((lv l % d:Nat):Int))]):=by
 refine Ok.enter Try.func80 Z Try.ntmps80 Z (fun w O => ?_)
 refine ae (ai (Am Z (Am Z (Ao (aa (ae (ai (Al Z (Ak (aM Z) ?_)))))))))
 refine cz l.length l.length Z Z Z Z (Nat.le_refl _) Z Z S Z Z (fun bz => ?_)
 refine Am Z (Ao (aa (ae (ai (Am Z (Ao (aa (ae (ae ?_)))))))))
 refine ai (Al Z (Ak (aM Z) (Ak (dE Z Z (aT S S)) (Am Z (Ao (aa (aw (cl (Γ' := [(0,_),(1,_),(4,_),(5,_),(6,_),(7,_),(8,_)]) Ag (SubM.refl _) ?_))))))))
 refine bA (σ:=List Nat × Nat × Nat) (Γk := [(0,_),(1,_),(4,_),(5,_),(6,_)]) Ag (fun s => [(8,one (.int .i64 ((s.2.1:Nat) - 1:Int))),(7,one (.int .u64 (s.2.2:Nat)))]) (fun s M0=>(M0.set 0 (be (some bz) 54 .one l.length l.length (fun q=>one (.int .u32 (s.1.getD q 0:Nat)))))) (fun s=>ShortR l d s) (fun s=>s.2.1) ((List.replicate l.length 0,l.length,0)) (ShortR.start hd0) Ah (.keep (cE (fun q _=>by rw [bL]; rfl)) (.nil)) (fun s hs => ?_)
 refine bS (Γ' := [(8,_),(7,_),(0,_),(1,_),(4,_),(5,_),(6,_)]) (M' := [_]) Z Z ?_
 obtain ⟨z,n,r⟩:=s
 dsimp only at hs ⊢
 refine ae (ae (ai (Al Z (Ak (dC Z Z) (Ao (aa ?_))))))
 cases n with
 | zero =>
  obtain ⟨f1,f2⟩:=hs.finish
  have hlen:z.length=l.length:=hs.len
  have hr:r<d:=hs.r
  rw [← f1, ← f2]
  refine iX Z S (a6 (ay (ay (aI (aa (ae (ai (Al Z (Al Z ?_)))))))))
  refine Ak (bR Z) (Am Z (Am Z (Ao (aa (aC (dc (t:=4) (i:=0) Z Z ?_))))))
  refine de Try.results80 (.tmp Z (VT.le_trans (bK (m:=z.length) (ψ:=fun i=>one (.int .u32 (z.getD i 0:Nat))) hlen.symm (fun q hq=>rfl)) (em (l:=z) hs.lim Z))) (.tmp Z (aq (by congr 1;omega)))
 | succ n =>
  have hx:=aL hl n
  have hr:r<d:=hs.r
  have hb:=ShortR.bound hx hr hd
  have hst:=hs.step hl hd
  have hn:n<l.length:=hs.le
  have hzn:n<z.length:=by have:=hs.len;dsimp only at this;omega
  have en:((n+1:Nat):Int) - 1=(n:Nat):=by omega
  rw [en]
  refine iW Z S (au (aa (ae (aw (ae (ai (Al Z (Ak (iF (s:=32) Z Z S S) (Al Z ?_)))))))))
  refine Al Z (Ak (ar Z Z S) (Ak (aE Z) (Ak (bc Z S) (Ak (iE Z Z S S) (Am Z (Ao (aa (ae (ai ?_)))))))))
  refine Al Z (Al Z (Al Z (Al Z (Ak (bc Z S) (Ak (gO Z Z S S) (Ak (bR Z) (Ak (co Z Z S) ?_)))))))
  (refine cy 0 Z Z Z ?_ Z ?_;omega)
  refine Ao (aa (ai (Al Z (Al Z (Ak (bc Z S) (Ak (dW _ Z Z Z S) (Am Z (Ao (aK ?_)))))))))
  refine aa (ai (Al Z (Ak (dE Z Z (aT S S)) (Am Z (Ao ?_)))))
  refine aN ((z.set n ((r*4294967296+l.getD n 0) / d),n,(r*4294967296+l.getD n 0) % d)) (hst) (by (simp only []; omega)) Ah (.keep (mT hzn (Nat.mod_eq_of_lt hb.2)) (.nil))
end Tor
end
section
namespace Tor
open Go Go.RowKit Go.Proofs
structure ShiftR (l:List Nat) (s:Nat) (p:List Nat × Nat × Nat):Prop where
 le:p.2.1≤l.length
 len:p.1.length=l.length+1
 lim:aW p.1
 c:p.2.2<2^s
 zero : ∀ k,p.2.1≤k→p.1.getD k 0=0
 val:lv p.1+4294967296^p.2.1*p.2.2=lv (l.take p.2.1)*2^s
theorem ShiftR.start (l:List Nat) (s:Nat):ShiftR l s (List.replicate (l.length+1) 0,0,0) :=
 ⟨Nat.zero_le _,by simp,aW.replicate _,Nat.two_pow_pos s,fun k _=>bL _ _,by simp [cV,lv]⟩
theorem ShiftR.bound {d c s:Nat} (hd:d<4294967296) (hc:c<2^s) (hs:s<32):d*2^s+c<4294967296*2^s∧d*2^s+c<18446744073709551616∧d*2^s<18446744073709551616∧2^s<4294967296:=by
 have h1:(d+1)*2^s≤4294967296*2^s:=Nat.mul_le_mul_right _ hd
 have h2:2^s≤2^31:=Nat.pow_le_pow_right Y S
 rw [Nat.add_mul,Nat.one_mul] at h1
 have h3:(2:Nat)^31=2147483648:=rfl
 generalize d*2^s=x at *
 generalize 2^s=y at *
 omega
theorem ShiftR.step {l:List Nat} {s:Nat} {z:List Nat} {i c:Nat} (h:ShiftR l s (z,i,c)) (hl:aW l) (hs:s<32) (hi:i<l.length) :
  ShiftR l s (z.set i ((c+l.getD i 0*2^s) % 4294967296),i+1,(c+l.getD i 0*2^s) / 4294967296):=by
 have hlen:z.length=l.length+1:=h.len
 have hz:i<z.length:=by omega
 have hc:c<2^s:=h.c
 have hb:=ShiftR.bound (aL hl i) hc hs
 have h0:z.getD i 0=0:=h.zero i (Nat.le_refl _)
 have hv:lv z+4294967296^i*c=lv (l.take i)*2^s:=h.val
 have hse:=eG (l:=z) (v:=(c+l.getD i 0*2^s) % 4294967296) hz
 rw [h0,Nat.mul_zero,Nat.add_zero] at hse
 refine ⟨hi,by rw [List.length_set]; exact hlen,aW.set h.lim (Nat.mod_lt _ Y),?_,fun k hk => ?_,?_⟩
 ·show (c+l.getD i 0*2^s) / 4294967296<2^s
  exact Nat.div_lt_of_lt_mul S
 ·simp only at hk ⊢
  rw [dh hz,if_neg S]; exact h.zero k (by show i≤k;omega)
 ·show lv (z.set i _)+4294967296^(i+1)*_=lv (l.take (i+1))*2^s
  dsimp only
  rw [hse,a8 hi,Nat.pow_succ,Nat.add_mul, ← hv]
  generalize l.getD i 0=x at *
  generalize 2^s=p at *
  have e:=Nat.div_add_mod (c+x*p) 4294967296
  generalize (c+x*p) / 4294967296=q at *
  generalize (c+x*p) % 4294967296=m at *
  generalize 4294967296^i=B at *
  have e2:B*(4294967296*q+m)=B*(c+x*p):=by rw [e]
  rw [Nat.mul_add,Nat.mul_add, ← Nat.mul_assoc, ← Nat.mul_assoc] at e2
  omega
theorem ShiftR.finish {l:List Nat} {s:Nat} {z:List Nat} {c:Nat} (h:ShiftR l s (z,l.length,c)) (hs:s<32) :
  (z.set l.length c).length=l.length+1∧aW (z.set l.length c)∧lv (z.set l.length c)=lv l*2^s∧c<4294967296∧l.length<z.length:=by
 have hlen:z.length=l.length+1:=h.len
 have hc:c<2^s:=h.c
 have hb:=ShiftR.bound (d:=0) Y hc hs
 have h0:z.getD l.length 0=0:=h.zero _ (Nat.le_refl _)
 have hv:lv z+4294967296^l.length*c=lv (l.take l.length)*2^s:=h.val
 have hse:=eG (l:=z) (k:=l.length) (v:=c) S
 rw [h0,Nat.mul_zero,Nat.add_zero] at hse
 rw [List.take_length] at hv
 exact ⟨by rw [List.length_set]; exact hlen,aW.set h.lim S,by rw [hse,hv],by omega,by omega⟩
abbrev ep (z:List Nat):Nat→VT:=fun q=>one (.int .u32 (z.getD q 0:Nat))
theorem eR {b:Option Nat} {T:TypeId} {n cap:Nat} {z:List Nat} {k v v':Nat} (hk:k<z.length) (hv:v'=v):Own.le (be b T .one n cap (upd (ep z) k (one (.int .u32 (v':Nat))))) (be b T .one n cap (ep (z.set k v))):=mT hk hv
abbrev mU (l:List Nat) (s:Nat):Type := {p:Nat × List Nat // p.2.length=l.length+1∧aW p.2∧lv p.2=lv l*2^s}
attribute [local irreducible] J PJ aF one slT cS bP bZ exT cR eP bf be slV VT.le Ret cm
theorem nM (l:List Nat) (s:Nat) (hl:aW l) (h1:l.length≤1099511627776) (hs:s<32):OkM Try.prog 82 [bC l,one (.int .i64 (s:Nat))] (fun p:mU l s=>one (slV (some p.1.1) (l.length+1) (l.length+1))) (fun p => [be (some p.1.1) 54 .one (l.length+1) (l.length+1) (ep p.1.2)]):=by
 refine OkM.enter Try.func82 Z Try.ntmps82 Z (fun w O => ?_)
 refine ae (ai (Am Z (Ao (aa (ae (ai (Al Z (Ak (aM Z) (Ak (bX _ 1 Z Z S) ?_)))))))))
 refine cz (l.length+1) (l.length+1) Z Z (by simp) (by simp) (Nat.le_refl _) Z Z S Z Z (fun bz => ?_)
 refine Am Z (Ao (aa (ae (ai (Am Z (Ao (aa (ae (ae ?_)))))))))
 refine ai (Al Z (Ak (aM Z) (Al Z (Ao (aa (aw (cl (Γ' := [(0,_),(1,_),(4,_),(5,_),(6,_),(13,_),(14,_),(15,_)]) Ag (SubM.refl _) ?_)))))))
 refine bA (σ:=List Nat × Nat × Nat) (Γk := [(0,_),(1,_),(4,_),(5,_),(13,_),(14,_)]) Ag (fun p => [(15,one (.int .i64 (p.2.1:Nat))),(6,one (.int .u64 (p.2.2:Nat)))]) (fun p M0=>(M0.set 0 (be (some bz) 54 .one (l.length+1) (l.length+1) (ep p.1)))) (fun p=>ShiftR l s p) (fun p=>l.length - p.2.1) ((List.replicate (l.length+1) 0,0,0)) (ShiftR.start l s) Ah (.keep (cE (fun q _=>by unfold ep;rw [bL]; rfl)) (.nil)) (fun p hp => ?_)
 refine bS (Γ' := [(15,_),(6,_),(0,_),(1,_),(4,_),(5,_),(13,_),(14,_)]) (M' := [_]) Z Z ?_
 obtain ⟨z,i,c⟩:=p
 dsimp only at hp ⊢
 refine ae (ai (Ak (bp Z Z) (Ao (aa (ae ?_)))))
 refine mE Z (fun hcc => ?_) (fun hcc => ?_)
 ·have hc:c<2^s:=hp.c
  have hi:i<l.length:=by omega
  have hb:=ShiftR.bound (aL hl i) hc hs
  have hst:=hp.step hl hs hi
  have hx:=aL hl i
  have hzn:i<z.length:=by have:=hp.len;dsimp only at this;omega
  refine au (aa (ae (aw (ae (ai (Al Z (Ak (ar Z Z S) (Ak (aE Z) (Am Z ?_)))))))))
  refine Am Z (Ao (aa (ae (ai (Al Z (Al Z (Ak (bc Z S) (Al Z (Ak (iF Z Z S S) ?_)))))))))
  refine Ak (tW Z Z S S) (Am Z (Ao (aa (ae (ai (Al Z (Al Z (Al Z (Ak (bR Z) ?_)))))))))
  refine Ak (co Z Z S) ?_
  (refine cy 0 Z Z Z ?_ Z ?_;omega)
  refine Ao (aa (ai (Al Z (Ak (ei Z) (Am Z (Ao (aK (aa (ai ?_)))))))))
  refine Ak (bX _ 1 Z Z S) (Al Z (Ao ?_))
  refine aN ((z.set i ((c+l.getD i 0*2^s) % 4294967296),i+1,(c+l.getD i 0*2^s) / 4294967296)) (hst) (by (simp only []; omega)) Ah (.keep (eR hzn Z) (.nil))
 ·have e:i=l.length:=by have:=hp.le;dsimp only at this;omega
  subst e
  obtain ⟨f1,f2,f3,f4,f5⟩:=hp.finish hs
  have hc:c<2^s:=hp.c
  refine a6 (ay (ay (aI (aa (ae (ai (Al Z (Al Z (Ak (aM Z) ?_)))))))))
  refine Al Z (Ak (bR Z) (Ak (co Z Z S) ?_))
  (refine cy 0 Z Z Z ?_ Z ?_;omega)
  refine Ao (aa (ae (ai (Al Z (Am Z (Ao (aa (aC ?_))))))))
  refine u7 (⟨(bz,z.set l.length c),f1,f2,f3⟩:mU l s) Try.results82 (.tmp Z A) (.keep (eR f5 (Nat.mod_eq_of_lt f4)) .nil)
end Tor
end
section
namespace Tor
def win (W:List Nat) (j m:Nat):List Nat:=(W.drop j).take m
theorem py {W:List Nat} {j m:Nat} (h:j+m≤W.length):(win W j m).length=m:=by unfold win;simp;omega
theorem fD {W:List Nat} {j m i:Nat} (h:i<m):(win W j m).getD i 0=W.getD (j+i) 0:=by
 unfold win;simp [List.getD,List.getElem?_take,h]
theorem jd {W:List Nat} {j m i x:Nat} (h:i<m):win (W.set (j+i) x) j m=(win W j m).set i x:=by
 unfold win;rw [List.drop_set,if_neg S,Nat.add_sub_cancel_left,List.take_set]
theorem aW.win {W:List Nat} (h:aW W) (j m:Nat):aW (win W j m):=fun d hd=>h d (List.mem_of_mem_drop (List.mem_of_mem_take hd))
theorem sU {l:List Nat} {k:Nat} (h:l.length=k+2):lv l=lv (l.take k)+4294967296^k*(l.getD k 0+4294967296*l.getD (k+1) 0):=by
 have e:l=l.take (k+2):=by rw [List.take_of_length_le S]
 conv=>lhs;rw [e]
 rw [a8 S,a8 S,Nat.pow_succ,Nat.mul_add,Nat.mul_assoc]; omega
theorem sV {l:List Nat} {k:Nat} (h:l.length=k+3):lv l=lv (l.take k)+4294967296^k*(l.getD k 0+4294967296*(l.getD (k+1) 0+4294967296*l.getD (k+2) 0)):=by
 have e:l=l.take (k+3):=by rw [List.take_of_length_le S]
 conv=>lhs;rw [e]
 rw [a8 S,a8 S,a8 S]
 simp only [Nat.pow_succ,Nat.mul_add,Nat.mul_assoc]; omega
structure Gss (U V B P h v2 top u2:Nat):Prop where
 P0:0<P
 iv1:(h*B+v2)*P≤V
 iv2:V<(h*B+v2+1)*P
 iu1:(top*B+u2)*P≤U
 iu2:U<(top*B+u2+1)*P
 l2:v2<B
 m2:u2<B
 h0:0<h
 lt:U<V*B
theorem Gss.V0 {U V B P h v2 top u2:Nat} (g:Gss U V B P h v2 top u2):0<V:=by
 rcases Nat.eq_zero_or_pos V with h | h
 ·have:=g.lt;rw [h] at this;simp at this
 ·exact h
theorem Gss.top {U V B P h v2 top u2:Nat} (g:Gss U V B P h v2 top u2):top<(h+1)*B:=by
 have h1:top*(B*P)<(h+1)*B*(B*P):=by
  calc top*(B*P)=top*B*P:=(Nat.mul_assoc _ _ _).symm
   _≤(top*B+u2)*P:=Nat.mul_le_mul_right _ (Nat.le_add_right _ _)
   _≤U:=g.iu1
   _<V*B:=g.lt
   _≤(h*B+v2+1)*P*B:=Nat.mul_le_mul_right _ (Nat.le_of_lt g.iv2)
   _≤((h+1)*B)*P*B:=Nat.mul_le_mul_right _ (Nat.mul_le_mul_right _ (by rw [Nat.add_mul,Nat.one_mul]; have:=g.l2;omega))
   _=(h+1)*B*(B*P):=by rw [Nat.mul_assoc,Nat.mul_comm P B]
 exact Nat.lt_of_mul_lt_mul_right h1
theorem Gss.q_lt {U V B P h v2 top u2:Nat} (g:Gss U V B P h v2 top u2):U / V<B:=Nat.div_lt_of_lt_mul g.lt
theorem Gss.start {U V B P h v2 top u2:Nat} (g:Gss U V B P h v2 top u2):U / V≤top / h:=by
 rw [Nat.le_div_iff_mul_le g.h0]
 have h1:(U / V*h)*(B*P)<(top+1)*(B*P):=by
  calc (U / V*h)*(B*P)=U / V*(h*B*P):=by rw [Nat.mul_assoc,Nat.mul_assoc]
   _≤U / V*((h*B+v2)*P):=Nat.mul_le_mul_left _ (Nat.mul_le_mul_right _ (Nat.le_add_right _ _))
   _≤U / V*V:=Nat.mul_le_mul_left _ g.iv1
   _≤U:=Nat.div_mul_le_self _ _
   _<(top*B+u2+1)*P:=g.iu2
   _≤((top+1)*B)*P:=Nat.mul_le_mul_right _ (by rw [Nat.add_mul,Nat.one_mul]; have:=g.m2;omega)
   _=(top+1)*(B*P):=Nat.mul_assoc _ _ _
 exact Nat.lt_succ_iff.1 (Nat.lt_of_mul_lt_mul_right h1)
theorem Gss.low {U V B P h v2 top u2:Nat} (g:Gss U V B P h v2 top u2) {q r:Nat} (e:q*h+r=top) (hc:r*B+u2<q*v2):U / V<q:=by
 have h1:(U / V*(h*B+v2))*P<(top*B+u2+1)*P:=by
  calc (U / V*(h*B+v2))*P=U / V*((h*B+v2)*P):=Nat.mul_assoc _ _ _
   _≤U / V*V:=Nat.mul_le_mul_left _ g.iv1
   _≤U:=Nat.div_mul_le_self _ _
   _<(top*B+u2+1)*P:=g.iu2
 have h2:=Nat.lt_of_mul_lt_mul_right h1
 have h3:top*B+u2<q*(h*B+v2):=by
  rw [← e,Nat.add_mul,Nat.mul_add,Nat.mul_assoc]; omega
 exact Nat.lt_of_mul_lt_mul_right (Nat.lt_of_lt_of_le h2 h3)
theorem Gss.done {U V B P h v2 top u2:Nat} (g:Gss U V B P h v2 top u2) {q r:Nat} (e:q*h+r=top) (hq:q<B) (hc:q*v2≤r*B+u2∨B≤r):q≤U / V+1:=by
 rcases Nat.eq_zero_or_pos q with h0 | h0
 ·rw [h0]; exact Nat.zero_le _
 obtain ⟨p,rfl⟩ : ∃ p,q=p+1:=⟨q - 1,by omega⟩
 have hh:(p+1)*v2≤r*B+u2:=by
  rcases hc with hc | hc
  ·exact hc
  ·have h1:(p+1)*v2≤B*B:=Nat.mul_le_mul (Nat.le_of_lt hq) (Nat.le_of_lt g.l2)
   have h2:B*B≤r*B:=Nat.mul_le_mul_right _ hc
   omega
 have h3:(p+1)*(h*B+v2)≤top*B+u2:=by
  rw [← e,Nat.add_mul _ r,Nat.mul_add,Nat.mul_assoc]; omega
 have h4:p*(h*B+v2+1)≤top*B+u2:=by
  refine Nat.le_trans ?_ h3
  rw [Nat.add_mul p 1,Nat.mul_add p (h*B+v2) 1,Nat.one_mul,Nat.mul_one]
  have:B≤h*B:=Nat.le_mul_of_pos_left _ g.h0
  omega
 have h5:p*V≤U:=by
  calc p*V≤p*((h*B+v2+1)*P):=Nat.mul_le_mul_left _ (Nat.le_of_lt g.iv2)
   _=p*(h*B+v2+1)*P:=(Nat.mul_assoc _ _ _).symm
   _≤(top*B+u2)*P:=Nat.mul_le_mul_right _ h4
   _≤U:=g.iu1
 have:=(Nat.le_div_iff_mul_le g.V0).2 h5
 omega
theorem uo {u v:List Nat} {k:Nat} (hu:aW u) (hv:aW v) (lu:u.length=k+3) (lw:v.length=k+2) (hh:0<v.getD (k+1) 0) (hlt:lv u<lv v*4294967296) :
  Gss (lv u) (lv v) 4294967296 (4294967296^k) (v.getD (k+1) 0) (v.getD k 0) (u.getD (k+2) 0*4294967296+u.getD (k+1) 0) (u.getD k 0):=by
 have e1:=sV lu
 have e2:=sU lw
 have h1:=fw (hu.take k)
 have h2:=fw (hv.take k)
 rw [List.length_take_of_le S] at h1 h2
 have g1:=aL hu k
 have g2:=aL hv k
 refine ⟨Nat.pow_pos Y,?_,?_,?_,?_,g2,g1,hh,hlt⟩
 ·rw [e2,Nat.mul_comm _ (4294967296^k),show v.getD (k+1) 0*4294967296+v.getD k 0=v.getD k 0+4294967296*v.getD (k+1) 0 by omega]; omega
 ·rw [e2,Nat.mul_comm _ (4294967296^k),show v.getD (k+1) 0*4294967296+v.getD k 0+1=v.getD k 0+4294967296*v.getD (k+1) 0+1 by omega,Nat.mul_add (4294967296^k) _ 1]; omega
 ·rw [e1,Nat.mul_comm _ (4294967296^k),show (u.getD (k+2) 0*4294967296+u.getD (k+1) 0)*4294967296+u.getD k 0=u.getD k 0+4294967296*(u.getD (k+1) 0+4294967296*u.getD (k+2) 0) by omega]; omega
 ·rw [e1,Nat.mul_comm _ (4294967296^k),show (u.getD (k+2) 0*4294967296+u.getD (k+1) 0)*4294967296+u.getD k 0+1=u.getD k 0+4294967296*(u.getD (k+1) 0+4294967296*u.getD (k+2) 0)+1 by omega,Nat.mul_add (4294967296^k) _ 1]; omega
structure GuessR (h top Q:Nat) (p:Nat × Nat):Prop where
 e:p.1*h+p.2=top
 r:p.2<4294967296
 q:Q≤p.1
 m:p.1≤4294967297
structure SubR (u v:List Nat) (q:Nat) (z:List Nat) (i b c:Nat):Prop where
 le:i≤v.length
 len:z.length=u.length
 lim:aW z
 hb:b≤1
 hc:c<4294967296
 val:lv z+q*lv (v.take i)=lv u+4294967296^i*(b+c)
theorem mV {x y b d:Nat} (hx:x<4294967296) (hy:y<4294967296) (hb:b≤1) (hd:d=((x+18446744073709551616 - y) % 18446744073709551616+18446744073709551616 - b) % 18446744073709551616) :
  d % 4294967296+y+b=x+4294967296*(d / 9223372036854775808)∧d / 9223372036854775808≤1:=by
 rcases Nat.lt_or_ge x (y+b) with h | h
 ·have h1:d=x+18446744073709551616 - (y+b):=by omega
  omega
 ·have h1:d=x - (y+b):=by omega
  omega
theorem SubR.start {u v:List Nat} {q:Nat} (hu:aW u):SubR u v q u 0 0 0:=⟨Nat.zero_le _,rfl,hu,by decide,by decide,by simp [lv]⟩
theorem mW {q y c:Nat} (hq:q<4294967296) (hy:y<4294967296) (hc:c<4294967296):q*y<18446744073709551616∧c+q*y<18446744073709551616∧(c+q*y) / 4294967296<4294967296:=by
 have h1:q*y≤4294967295*4294967295:=Nat.mul_le_mul S S
 omega
theorem SubR.step {u v z:List Nat} {q i b c d:Nat} (h:SubR u v q z i b c) (hv:aW v) (hq:q<4294967296) (hi:i<v.length) (hl:v.length≤u.length)
  (hd:d=((z.getD i 0+18446744073709551616 - (c+q*v.getD i 0) % 4294967296) % 18446744073709551616+18446744073709551616 - b) % 18446744073709551616) :
  SubR u v q (z.set i (d % 4294967296)) (i+1) (d / 9223372036854775808) ((c+q*v.getD i 0) / 4294967296):=by
 have hlim:=mW hq (aL hv i) h.hc
 obtain ⟨h1,h2⟩:=mV (aL h.lim i) (Nat.mod_lt _ Y) h.hb hd
 have hz:i<z.length:=by rw [h.len]; omega
 have hs:=eG (l:=z) (v:=d % 4294967296) hz
 have hvv:=h.val
 refine ⟨hi,by rw [List.length_set]; exact h.len,h.lim.set (Nat.mod_lt _ Y),h2,hlim.2.2,?_⟩
 rw [a8 hi,Nat.pow_succ,Nat.mul_add q]
 have e:=Nat.div_add_mod (c+q*v.getD i 0) 4294967296
 have e5:q*(4294967296^i*v.getD i 0)=4294967296^i*(q*v.getD i 0):=Nat.mul_left_comm _ _ _
 rw [e5]
 clear hd
 generalize z.getD i 0=x at *
 generalize q*v.getD i 0=y at *
 generalize 4294967296^i=B at *
 generalize (c+y) / 4294967296=t1 at *
 generalize (c+y) % 4294967296=t2 at *
 generalize d % 4294967296=r at *
 generalize d / 9223372036854775808=q' at *
 have e2:B*(r+t2+b)=B*(x+4294967296*q'):=by rw [h1]
 have e3:B*(4294967296*t1+t2)=B*(c+y):=by rw [e]
 simp only [Nat.mul_add,Nat.mul_assoc] at e2 e3 hvv ⊢
 omega
structure BackR (u v:List Nat) (z:List Nat) (i c:Nat):Prop where
 le:i≤v.length
 len:z.length=u.length
 lim:aW z
 hc:c≤1
 val:lv z+4294967296^i*c=lv u+lv (v.take i)
theorem BackR.start {u v:List Nat} (hu:aW u):BackR u v u 0 0:=⟨Nat.zero_le _,rfl,hu,by decide,by simp [lv]⟩
theorem BackR.step {u v z:List Nat} {i c:Nat} (h:BackR u v z i c) (hv:aW v) (hi:i<v.length) (hl:v.length≤u.length) :
  BackR u v (z.set i ((c+(z.getD i 0+v.getD i 0)) % 4294967296)) (i+1) ((c+(z.getD i 0+v.getD i 0)) / 4294967296):=by
 have hz:i<z.length:=by rw [h.len]; omega
 have hs:=eG (l:=z) (v:=(c+(z.getD i 0+v.getD i 0)) % 4294967296) hz
 have hvv:=h.val
 have g1:=aL h.lim i
 have g2:=aL hv i
 have hc:=h.hc
 refine ⟨hi,by rw [List.length_set]; exact h.len,h.lim.set (Nat.mod_lt _ Y),by omega,?_⟩
 rw [a8 hi,Nat.pow_succ]
 generalize z.getD i 0=x at *
 generalize v.getD i 0=y at *
 generalize 4294967296^i=B at *
 have e:4294967296*((c+(x+y)) / 4294967296)+(c+(x+y)) % 4294967296=c+(x+y):=by omega
 generalize (c+(x+y)) / 4294967296=t1 at *
 generalize (c+(x+y)) % 4294967296=t2 at *
 have e3:B*(4294967296*t1+t2)=B*(c+(x+y)):=by rw [e]
 simp only [Nat.mul_add,Nat.mul_assoc] at e3 hvv ⊢
 omega
theorem SubR.good {u v z:List Nat} {q b c d:Nat} (h:SubR u v q z v.length b c) (hl:u.length=v.length+1) (hV:0<lv v)
  (hQ:lv u / lv v≤q) (hd:d=((z.getD v.length 0+18446744073709551616 - c) % 18446744073709551616+18446744073709551616 - b) % 18446744073709551616) (h0:d / 9223372036854775808=0) :
  q=lv u / lv v∧aW (z.set v.length (d % 4294967296))∧lv (z.set v.length (d % 4294967296))=lv u % lv v:=by
 obtain ⟨h1,h2⟩:=mV (aL h.lim v.length) h.hc h.hb hd
 have hz:v.length<z.length:=by rw [h.len]; omega
 have hs:=eG (l:=z) (v:=d % 4294967296) hz
 have hvv:=h.val
 rw [List.take_length] at hvv
 have e:lv (z.set v.length (d % 4294967296))+q*lv v=lv u:=by
  rw [h0] at h1
  generalize z.getD v.length 0=x at *
  clear hd
  generalize d % 4294967296=r at *
  generalize 4294967296^v.length=B at *
  have e2:B*(r+c+b)=B*(x+4294967296*0):=by rw [h1]
  simp only [Nat.mul_add] at e2 hvv
  omega
 have e4:lv (z.set v.length (d % 4294967296))=lv u - q*lv v:=by omega
 have hle:q≤lv u / lv v:=(Nat.le_div_iff_mul_le hV).2 S
 have eq:q=lv u / lv v:=by omega
 refine ⟨eq,h.lim.set (Nat.mod_lt _ Y),?_⟩
 have:=Nat.div_add_mod (lv u) (lv v)
 rw [e4,eq,Nat.mul_comm]; omega
theorem SubR.bad {u v z:List Nat} {q b c d:Nat} (h:SubR u v q z v.length b c) (hl:u.length=v.length+1) (hV:0<lv v)
  (hQ:lv u / lv v≤q) (hq:q≤lv u / lv v+1) (hd:d=((z.getD v.length 0+18446744073709551616 - c) % 18446744073709551616+18446744073709551616 - b) % 18446744073709551616) (h0:d / 9223372036854775808≠0) :
  q=lv u / lv v+1∧aW (z.set v.length (d % 4294967296))∧lv (z.set v.length (d % 4294967296))+lv v=lv u % lv v+4294967296^(v.length+1):=by
 obtain ⟨h1,h2⟩:=mV (aL h.lim v.length) h.hc h.hb hd
 have hz:v.length<z.length:=by rw [h.len]; omega
 have hs:=eG (l:=z) (v:=d % 4294967296) hz
 have hvv:=h.val
 rw [List.take_length] at hvv
 have hL:aW (z.set v.length (d % 4294967296)):=h.lim.set (Nat.mod_lt _ Y)
 have hlt:=fw hL
 rw [List.length_set,h.len,hl] at hlt
 have h3:d / 9223372036854775808=1:=by omega
 have e:lv (z.set v.length (d % 4294967296))+q*lv v=lv u+4294967296^(v.length+1):=by
  rw [h3] at h1
  generalize z.getD v.length 0=x at *
  clear hd hL hlt h0 h2 h3
  generalize lv (z.set v.length (d % 4294967296))=y at *
  generalize d % 4294967296=r at *
  rw [Nat.pow_succ]
  generalize 4294967296^v.length=B at *
  have e2:B*(r+c+b)=B*(x+4294967296*1):=by rw [h1]
  simp only [Nat.mul_add] at e2 hvv
  omega
 have hm:=Nat.div_add_mod (lv u) (lv v)
 have hne:q≠lv u / lv v:=fun hx=>by
  rw [hx,Nat.mul_comm] at e;omega
 have eq:q=lv u / lv v+1:=by omega
 refine ⟨eq,hL,?_⟩
 rw [eq,Nat.add_mul,Nat.one_mul,Nat.mul_comm] at e
 omega
theorem BackR.good {u v z:List Nat} {c R x:Nat} (h:BackR u v z v.length c) (hl:u.length=v.length+1) (hV:R<lv v) (hv:aW v)
  (hu:lv u+lv v=R+4294967296^(v.length+1)) (hx:x=(z.getD v.length 0+c) % 4294967296):aW (z.set v.length x)∧lv (z.set v.length x)=R:=by
 have hz:v.length<z.length:=by rw [h.len]; omega
 have hs:=eG (l:=z) (v:=x) hz
 have hvv:=h.val
 rw [List.take_length] at hvv
 have hL:aW (z.set v.length x):=h.lim.set (by rw [hx]; exact Nat.mod_lt _ Y)
 have hlt:=fw hL
 rw [List.length_set,h.len,hl] at hlt
 have hzl:=aL h.lim v.length
 have hc:=h.hc
 have hvl:=fw hv
 refine ⟨hL,?_⟩
 rcases Nat.lt_or_ge (z.getD v.length 0+c) 4294967296 with h5 | h5
 ·have h6:x=z.getD v.length 0+c:=by omega
  have e:lv (z.set v.length x)=lv u+lv v:=by
   rw [h6] at hs
   rw [h6]
   rw [Nat.mul_add] at hs
   omega
  omega
 ·have h6:x+4294967296=z.getD v.length 0+c:=by omega
  have e:lv (z.set v.length x)+4294967296^(v.length+1)=lv u+lv v:=by
   generalize lv (z.set v.length x)=y at *
   clear hlt
   rw [hu,Nat.pow_succ]
   generalize z.getD v.length 0=t at *
   rw [hu,Nat.pow_succ] at hvv
   generalize 4294967296^v.length=B at *
   have e2:B*(x+4294967296)=B*(t+c):=by rw [h6]
   simp only [Nat.mul_add] at e2
   omega
  omega
end Tor
end
section
namespace Tor
open Go Go.RowKit Go.Proofs
def fN (W0 W:List Nat) (j m:Nat):Prop:=W.length=W0.length∧W.take j=W0.take j∧W.drop (j+m)=W0.drop (j+m)
theorem fN.refl (W:List Nat) (j m:Nat):fN W W j m:=⟨rfl,rfl,rfl⟩
theorem fN.set {W0 W:List Nat} {j m i x:Nat} (h:fN W0 W j m) (hi:i<m):fN W0 (W.set (j+i) x) j m :=
 ⟨by rw [List.length_set]; exact h.1,by rw [List.take_set_of_le S]; exact h.2.1,by rw [List.drop_set_of_lt S]; exact h.2.2⟩
theorem vg {q Q:Nat} (h:q=Q+1) (hq:q<4294967296):(q+18446744073709551616 - 1) % 18446744073709551616 % 4294967296=Q:=by omega
structure DgS (W0 v:List Nat) (j k q:Nat) (s:List Nat × Nat × Nat × Nat):Prop where
 out:fN W0 s.1 j (k+3)
 lim:aW s.1
 sub:SubR (win W0 j (k+3)) v q (win s.1 j (k+3)) s.2.1 s.2.2.1 s.2.2.2
structure DgB (W0 W1 v:List Nat) (j k:Nat) (s:List Nat × Nat × Nat):Prop where
 out:fN W0 s.1 j (k+3)
 lim:aW s.1
 back:BackR (win W1 j (k+3)) v (win s.1 j (k+3)) s.2.1 s.2.2
abbrev up (W v:List Nat) (j k:Nat):Type := {W':List Nat // fN W W' j (k+3)∧aW W'∧lv (win W' j (k+3))=lv (win W j (k+3)) % lv v}
theorem GuessR.aux {top h:Nat} (ht:top<(h+1)*4294967296) (hh:2147483648≤h):top<h*4294967298:=by
 have e1:h*4294967298=h*4294967296+h*2:=by rw [← Nat.mul_add]
 have e2:(h+1)*4294967296=h*4294967296+4294967296:=by rw [Nat.add_mul]
 have e3:4294967296≤h*2:=Nat.mul_le_mul_right 2 hh
 rw [e1]; rw [e2] at ht
 exact Nat.lt_of_lt_of_le ht (Nat.add_le_add_left e3 _)
theorem GuessR.start {U V P h v2 top u2:Nat} (g:Gss U V 4294967296 P h v2 top u2) (hh:2147483648≤h) (hl:h<4294967296):GuessR h top (U / V) (top / h,top % h):=by
 have hm:=Nat.mod_lt top (show 0<h by omega)
 refine ⟨?_,?_,g.start,?_⟩
 ·show top / h*h+top % h=top
  rw [Nat.mul_comm]; exact Nat.div_add_mod top h
 ·show top % h<_;omega
 ·have ht:=g.top
  have h1:top<h*4294967298:=GuessR.aux ht hh
  exact Nat.lt_succ_iff.1 (Nat.div_lt_of_lt_mul h1)
theorem GuessR.next {h top Q q r:Nat} (s:GuessR h top Q (q,r)) (hQ:Q<q) (hr:r+h<4294967296):GuessR h top Q (q - 1,r+h):=by
 obtain ⟨p,rfl⟩ : ∃ p,q=p+1:=⟨q - 1,by omega⟩
 have e:(p+1)*h+r=top:=s.e
 have m:p+1≤4294967297:=s.m
 refine ⟨?_,hr,?_,?_⟩
 ·show (p+1 - 1)*h+(r+h)=top
  rw [Nat.add_mul,Nat.one_mul] at e
  rw [Nat.add_sub_cancel]; omega
 ·show Q≤p+1 - 1;omega
 ·show p+1 - 1≤_;omega
theorem GuessR.last {U V P h v2 top u2 q r:Nat} (g:Gss U V 4294967296 P h v2 top u2) (s:GuessR h top (U / V) (q,r)) (hQ:U / V<q) (hr:4294967296≤r+h):q - 1<4294967296∧U / V≤q - 1∧q - 1≤U / V+1:=by
 obtain ⟨p,rfl⟩ : ∃ p,q=p+1:=⟨q - 1,by have:=Nat.lt_of_le_of_lt (Nat.zero_le _) hQ;omega⟩
 have e:(p+1)*h+r=top:=s.e
 have ht:=g.top
 have e2:p*h+(r+h)=top:=by rw [Nat.add_mul,Nat.one_mul] at e;omega
 have h1:p<4294967296:=by
  rcases Nat.lt_or_ge p 4294967296 with h1 | h1
  ·exact h1
  ·have:=Nat.mul_le_mul_right h h1
   omega
 rw [Nat.add_sub_cancel]
 exact ⟨h1,Nat.lt_succ_iff.1 hQ,g.done e2 h1 (.inr hr)⟩
attribute [local irreducible] J PJ aF one slT cS bP bZ exT cR eP bf be slV VT.le Ret cm
set_option maxRecDepth 20000 in
theorem rB (b N j cap k:Nat) (W v:List Nat) (hW:aW W) (hv:aW v) (hN:W.length=N) (hj:j+(k+3)≤N) (hk:v.length=k+2) (hb31:v.length≤1099511627776) (hh:2147483648≤v.getD (k+1) 0) (hlt:lv (win W j (k+3))<lv v*4294967296) :
  OkI Try.prog 83 [one (sI b j 1 (k+3) cap),bC v] [be (some b) 54 .one N N (ep W)] (fun _:up W v j k=>one (.int .u32 ((lv (win W j (k+3)) / lv v:Nat):Int))) (fun s => [be (some b) 54 .one N N (ep s.1)]):=by
 unfold bC
 rw [hk]
 refine OkI.enter Try.func83 Z Try.ntmps83 Z (fun w O => ?_)
 have lw:=py (W:=W) (j:=j) (m:=k+3) S
 have g:=uo (hW.win j (k+3)) hv lw hk S hlt
 rw [fD S,fD S,fD S] at g
 have x0:=aL hW (j+k)
 have x1:=aL hW (j+(k+1))
 have x2:=aL hW (j+(k+2))
 have y1:=aL hv (k+1)
 have y0:=aL hv k
 rw [hk] at hb31
 have y1':v.getD (k+2 - 1) 0<4294967296:=y1
 have y0':v.getD (k+2 - 2) 0<4294967296:=y0
 have yh':2147483648≤v.getD (k+2 - 1) 0:=hh
 have x1':W.getD (j+(k+2 - 1)) 0<4294967296:=x1
 have x0':W.getD (j+(k+2 - 2)) 0<4294967296:=x0
 refine ae (ai (Am Z (Ao (aa (ae (ai (Al Z (Ak (aM Z) (Am Z ?_)))))))))
 refine Ao (aa (ae (ai (Al Z (Al Z (Ak (cM _ 1 Z Z S S) (Ak (ar Z Z S) (Ak (aE Z) (Ak (bc Z S) ?_)))))))))
 refine Am Z (Ao (aa (ae (aU 13 aR X Y (Al Z (Al Z (Ak (dg Z Z S) (Ak (dR 0 Z Z S) (Ak (bc Z S) ?_)))))))))
 refine Ak (iF (s:=32) Z Z S S) (Al Z (Al Z (Ak (cM _ 1 Z Z S S) (Ak (dg Z Z S) (Ak (dR 0 Z Z S) (Ak (bc Z S) (Ak (iE Z Z S S) (Ao (Am Z ?_)))))))))
 refine Ao (aa (ae (aU 7 aR X Y (Al Z (Al Z (Ak (gO Z Z S S) (Al Z (Al Z (Ak (dW _ Z Z Z S) ?_)))))))))
 refine Am Z (Ao (Am Z (Ao (aa (ae (aw (cl (Γ' := [(0,_),(1,_),(4,_),(5,_),(6,_),(8,_),(9,_)]) Ag (SubM.refl _) ?_)))))))
 refine sJ (σ:=Nat) (Γk := [(0,_),(1,_),(4,_),(5,_)]) (gK.cons Z A (gK.cons Z A (gK.cons Z A (gK.cons Z A gK.nil)))) (fun q => [(8,one (.int .u64 (q:Nat)))]) (fun _ M0=>M0) (fun q=>q<4294967296∧lv (win W j (k+3)) / lv v≤q∧q≤lv (win W j (k+3)) / lv v+1) ?_ (fun q hq => ?_)
 ·refine cl (Γ' := [(0,_),(1,_),(4,_),(5,_),(6,_),(8,_),(9,_)]) Ag (SubM.refl _) ?_
  refine bA (σ:=Nat × Nat) (Γk := [(0,_),(1,_),(4,_),(5,_),(6,_)]) Ag (fun p => [(8,one (.int .u64 (p.1:Nat))),(9,one (.int .u64 (p.2:Nat)))]) (fun p M0=>M0) (fun p=>GuessR (v.getD (k+1) 0) (W.getD (j+(k+2)) 0*4294967296+W.getD (j+(k+1)) 0) (lv (win W j (k+3)) / lv v) p) (fun p=>p.1) (((W.getD (j+(k+2)) 0*4294967296+W.getD (j+(k+1)) 0) / v.getD (k+1) 0,(W.getD (j+(k+2)) 0*4294967296+W.getD (j+(k+1)) 0) % v.getD (k+1) 0)) (GuessR.start g hh y1) Ah (.keep Aj (.nil)) (fun p hp => ?_)
  refine bS (Γ' := [(8,_),(9,_),(0,_),(1,_),(4,_),(5,_),(6,_)]) (M' := [_]) Z Z ?_
  obtain ⟨q,r⟩:=p
  dsimp only at hp ⊢
  have hr:r<4294967296:=hp.r
  have hqm:q≤4294967297:=hp.m
  by_cases hA:4294967295<q
  ·have hQ:lv (win W j (k+3)) / lv v<q:=Nat.lt_of_lt_of_le g.q_lt hA
   have hq1:1≤q:=Nat.lt_of_le_of_lt (Nat.zero_le _) hQ
   have hq2:(q+18446744073709551616 - 1) % 18446744073709551616=q - 1:=by omega
   by_cases hC:4294967296≤r+v.getD (k+2 - 1) 0
   ·refine ae (ae (aU 22 aR X Y (Al Z (Ak (sT S (cT Z Z)) (Al Z (sg0 Z Z Z Z (sg0 Z Z Z Z (sg0 Z Z Z Z (sg0 Z Z Z Z ?_)))))))))
    refine sg0 Z Z Z Z (sg0 Z Z Z Z (sg0 Z Z Z Z (sg0 Z Z Z Z (sg0 Z Z Z Z (sg0 Z Z Z Z (sg0 Z Z Z Z (sg0 Z Z Z Z (sg0 Z Z Z Z (sg0 Z Z Z Z ?_)))))))))
    refine sg0 Z Z Z Z (sg0 Z Z Z Z (sg0 Z Z Z Z (sg0 Z Z Z Z (Ak (a9 Z Z) (Ao (Ao (aa (aB Z (au ?_)))))))))
    refine aa (aw (ae (ai (Al Z (Ak (eh Z Z S Y) (Am Z (Ao (aa (ae ?_)))))))))
    refine ai (Al Z (Al Z (Ak (cL Z Z S) (Am Z (Ao (aa (ae (ai (Al Z ?_)))))))))
    refine Ak (sT S (cT Z Z)) (Ao (aa (aB Z (a6 (ea Z (ay (aI ?_)))))))
    rw [hq2]
    refine cx (q - 1) (hp.last g hQ hC) Ah (.keep Aj (.nil))
   ·refine ae (ae (aU 22 aR X Y (Al Z (Ak (sT S (cT Z Z)) (Al Z (sg0 Z Z Z Z (sg0 Z Z Z Z (sg0 Z Z Z Z (sg0 Z Z Z Z ?_)))))))))
    refine sg0 Z Z Z Z (sg0 Z Z Z Z (sg0 Z Z Z Z (sg0 Z Z Z Z (sg0 Z Z Z Z (sg0 Z Z Z Z (sg0 Z Z Z Z (sg0 Z Z Z Z (sg0 Z Z Z Z (sg0 Z Z Z Z ?_)))))))))
    refine sg0 Z Z Z Z (sg0 Z Z Z Z (sg0 Z Z Z Z (sg0 Z Z Z Z (Ak (a9 Z Z) (Ao (Ao (aa (aB Z (au ?_)))))))))
    refine aa (aw (ae (ai (Al Z (Ak (eh Z Z S Y) (Am Z (Ao (aa (ae ?_)))))))))
    refine ai (Al Z (Al Z (Ak (cL Z Z S) (Am Z (Ao (aa (ae (ai (Al Z ?_)))))))))
    refine Ak (sF S (cT Z Z)) (Ao (aa (az Z (au (aK ?_)))))
    rw [hq2]
    refine aN ((q - 1,r+v.getD (k+1) 0)) (hp.next hQ (Nat.lt_of_not_le hC)) S Ah (.keep Aj (.nil))
  ·have hqv:=mW (q:=q) (c:=0) S y0 Y
   have hqv1:q*v.getD (k+2 - 2) 0<18446744073709551616:=hqv.1
   by_cases hB:r*4294967296+W.getD (j+(k+2 - 2)) 0<q*v.getD (k+2 - 2) 0
   ·have hQ:lv (win W j (k+3)) / lv v<q:=g.low hp.e hB
    have hq1:1≤q:=Nat.lt_of_le_of_lt (Nat.zero_le _) hQ
    have hq2:(q+18446744073709551616 - 1) % 18446744073709551616=q - 1:=by omega
    by_cases hC:4294967296≤r+v.getD (k+2 - 1) 0
    ·refine ae (ae (aU 22 aR X Y (Al Z (Ak (sF S (cT Z Z)) (Al Z (An (ab Z) (An (ab Z) (An (ab Z) (An (cM _ 2 Z Z S S) ?_)))))))))
     refine An (ar Z Z S) (An (aE Z) (An (bc Z S) (An (dK Z Z S) (An (ab Z) (An (mI Z S) (An (ab Z) (An (ab Z) (An (cM _ 2 Z Z S S) (An (dg Z Z S) ?_)))))))))
     refine An (dR 0 Z Z S) (An (bc Z S) (An (iE Z Z S S) (An (sT S (cT Z Z)) (Ak (aY Z Z) (Ao (Ao (aa (aB Z (au ?_)))))))))
     refine aa (aw (ae (ai (Al Z (Ak (eh Z Z S Y) (Am Z (Ao (aa (ae ?_)))))))))
     refine ai (Al Z (Al Z (Ak (cL Z Z S) (Am Z (Ao (aa (ae (ai (Al Z ?_)))))))))
     refine Ak (sT S (cT Z Z)) (Ao (aa (aB Z (a6 (ea Z (ay (aI ?_)))))))
     rw [hq2]
     refine cx (q - 1) (hp.last g hQ hC) Ah (.keep Aj (.nil))
    ·refine ae (ae (aU 22 aR X Y (Al Z (Ak (sF S (cT Z Z)) (Al Z (An (ab Z) (An (ab Z) (An (ab Z) (An (cM _ 2 Z Z S S) ?_)))))))))
     refine An (ar Z Z S) (An (aE Z) (An (bc Z S) (An (dK Z Z S) (An (ab Z) (An (mI Z S) (An (ab Z) (An (ab Z) (An (cM _ 2 Z Z S S) (An (dg Z Z S) ?_)))))))))
     refine An (dR 0 Z Z S) (An (bc Z S) (An (iE Z Z S S) (An (sT S (cT Z Z)) (Ak (aY Z Z) (Ao (Ao (aa (aB Z (au ?_)))))))))
     refine aa (aw (ae (ai (Al Z (Ak (eh Z Z S Y) (Am Z (Ao (aa (ae ?_)))))))))
     refine ai (Al Z (Al Z (Ak (cL Z Z S) (Am Z (Ao (aa (ae (ai (Al Z ?_)))))))))
     refine Ak (sF S (cT Z Z)) (Ao (aa (az Z (au (aK ?_)))))
     rw [hq2]
     refine aN ((q - 1,r+v.getD (k+1) 0)) (hp.next hQ (Nat.lt_of_not_le hC)) S Ah (.keep Aj (.nil))
   ·refine ae (ae (aU 22 aR X Y (Al Z (Ak (sF S (cT Z Z)) (Al Z (An (ab Z) (An (ab Z) (An (ab Z) (An (cM _ 2 Z Z S S) ?_)))))))))
    refine An (ar Z Z S) (An (aE Z) (An (bc Z S) (An (dK Z Z S) (An (ab Z) (An (iF (s:=32) Z Z S S) (An (ab Z) (An (ab Z) (An (cM _ 2 Z Z S S) (An (dg Z Z S) ?_)))))))))
    refine An (dR 0 Z Z S) (An (bc Z S) (An (iE Z Z S S) (An (sF S (cT Z Z)) (Ak (aY Z Z) (Ao (Ao (aa (az Z (a6 ?_)))))))))
    refine ay (ay (aI ?_))
    have hqB:q<4294967296:=by omega
    refine cx (q) (⟨hqB,hp.q,g.done hp.e hqB (.inl (Nat.le_of_not_lt hB))⟩) Ah (.keep Aj (.nil))
 ·obtain ⟨hq1,hq2,hq3⟩:=hq
  have lu:=lw
  refine aa (ae (ai (Am Z (Am Z (Ao (aa (ae (ae (ai ?_)))))))))
  refine Al Z (Ak (aM Z) (Al Z (Ao (aa (aw (cl (Γ' := [(0,_),(1,_),(4,_),(5,_),(8,_),(10,_),(11,_),(74,_),(75,_),(76,_)]) Ag (SubM.refl _) ?_))))))
  refine bA (σ:=List Nat × Nat × Nat × Nat) (Γk := [(0,_),(1,_),(4,_),(5,_),(8,_),(74,_),(75,_)]) Ag (fun s => [(76,one (.int .i64 (s.2.1:Nat))),(10,one (.int .u64 (s.2.2.1:Nat))),(11,one (.int .u64 (s.2.2.2:Nat)))]) (fun s M0=>(M0.set 0 (be (some b) 54 .one N N (ep s.1)))) (fun s=>DgS W v j k q s) (fun s=>k+2 - s.2.1) ((W,0,0,0)) (⟨fN.refl _ _ _,hW,SubR.start (hW.win _ _)⟩) Ah (.keep Aj (.nil)) (fun s hs => ?_)
  refine bS (Γ' := [(76,_),(10,_),(11,_),(0,_),(1,_),(4,_),(5,_),(8,_),(74,_),(75,_)]) (M' := [_]) Z Z ?_
  obtain ⟨W1,i,br,c⟩:=s
  dsimp only at hs ⊢
  have h1o:=hs.out
  have h1l:=hs.lim
  have h1s:=hs.sub
  dsimp only at h1o h1l h1s
  have hbr:=h1s.hb
  have hcr:=h1s.hc
  have hN1:W1.length=N:=h1o.1.trans hN
  refine ae (ai (Ak (bp Z Z) (Ao (aa (ae ?_)))))
  refine mE Z (fun hc => ?_) (fun hc => ?_)
  ·have hi:i<k+2:=by omega
   have z1:=aL h1l (j+i)
   have v1:=aL hv i
   have sl:=mW hq1 v1 hcr
   have sl1:=sl.1
   have sl2:=sl.2.1
   have sl3:=sl.2.2
   obtain ⟨d,hd⟩ : ∃ d,d=((W1.getD (j+i) 0+18446744073709551616 - (c+q*v.getD i 0) % 4294967296) % 18446744073709551616+18446744073709551616 - br) % 18446744073709551616:=⟨_,rfl⟩
   have hst:=h1s.step hv hq1 S (by rw [lu,hk]; omega) (d:=d) (by rw [fD S]; exact hd)
   rw [← jd S] at hst
   refine au (aa (ae (aw (ae (ai (Al Z (Ak (ar Z Z S) (Ak (aE Z) (Am Z ?_)))))))))
   refine Am Z (Ao (aa (ae (ai (Al Z (Al Z (Al Z (Ak (bc Z S) (Ak (dK Z Z S) ?_)))))))))
   refine Ak (cL Z Z S) (Am Z (Ao (aa (ae (ai (Al Z (Al Z (Ak (dg Z Z S) (Ak (dR 0 Z Z S) ?_)))))))))
   refine Ak (bc Z S) (Al Z (Ak (ro Z S) (Ak (eh Z Z S S) (Al Z (Ak (eh Z Z S S) (Am Z (Ao (aa (ae ?_)))))))))
   refine ai (Al Z (Al Z (Al Z (Ak (bR Z) (Ak (dg Z Z S) ?_)))))
   (refine cy 0 Z Z Z ?_ Z ?_;omega)
   refine Ao (aa (ae (ai (Al Z (Ak (mC Z) (Am Z (Ao (aa (ai ?_)))))))))
   refine Al Z (Ak (ei Z) (Am Z (Ao (aK (aa (ai (Ak (bX _ 1 Z Z S) (Al Z (Ao ?_)))))))))
   rw [← hd]
   refine aN ((W1.set (j+i) (d % 4294967296),i+1,d / 9223372036854775808,(c+q*v.getD i 0) / 4294967296)) (⟨h1o.set S,h1l.set (Nat.mod_lt _ Y),hst⟩) (by (simp only []; omega)) Ah (.keep (eR S Z) (.nil))
  ·have hi:i=k+2:=by have:=h1s.le;omega
   subst hi
   have z1:=aL h1l (j+(k+2))
   obtain ⟨d,hd⟩ : ∃ d,d=((W1.getD (j+(k+2)) 0+18446744073709551616 - c) % 18446744073709551616+18446744073709551616 - br) % 18446744073709551616:=⟨_,rfl⟩
   have h1v:SubR (win W j (k+3)) v q (win W1 j (k+3)) v.length br c:=by rw [hk]; exact h1s
   have hdw:d=(((win W1 j (k+3)).getD v.length 0+18446744073709551616 - c) % 18446744073709551616+18446744073709551616 - br) % 18446744073709551616:=by rw [hk,fD S]; exact hd
   refine a6 (ay (ay (aI (aa (ae (ai (Al Z (Al Z (Ak (dg Z Z S) ?_)))))))))
   refine Ak (dR 0 Z Z S) (Ak (bc Z S) (Al Z (Ak (eh Z Z S S) (Al Z (Ak (eh Z Z S S) (Am Z (Ao (aa (ae ?_)))))))))
   refine ai (Al Z (Al Z (Al Z (Ak (bR Z) (Ak (dg Z Z S) ?_)))))
   (refine cy 0 Z Z Z ?_ Z ?_;omega)
   refine Ao (aa (ae (ae (ai (Al Z (Ak (mC Z) (Ak (bW Z Z) (Ao (aa ?_)))))))))
   rw [← hd]
   refine mE Z (fun h0 => ?_) (fun h0 => ?_)
   ·obtain ⟨f1,f2,f3⟩:=h1v.good (by rw [lu,hk]) g.V0 hq2 hdw S
    rw [hk, ← jd S] at f3
    refine ae (ai (Al Z (Ak (bR Z) (Am Z (Ao (aa (aC (aD ?_))))))))
    refine tV (⟨W1.set (j+(k+2)) (d % 4294967296),h1o.set S,h1l.set (Nat.mod_lt _ Y),f3⟩:up W v j k) Try.results83 (.tmp Z (aq (by rw [← f1,Nat.mod_eq_of_lt hq1]))) (.keep (eR S Z) .nil)
   ·obtain ⟨f1,f2,f3⟩:=h1v.bad (by rw [lu,hk]) g.V0 hq2 hq3 hdw S
    rw [hk, ← jd S] at f3
    obtain ⟨W2,hW2⟩ : ∃ W2,W2=W1.set (j+(k+2)) (d % 4294967296):=⟨_,rfl⟩
    have h2o:fN W W2 j (k+3):=hW2▸h1o.set S
    have h2l:aW W2:=hW2▸h1l.set (Nat.mod_lt _ Y)
    have hN2:W2.length=N:=h2o.1.trans hN
    rw [← hW2] at f3
    refine au (aa (ae (ai (Am Z (Ao (aa (ae (ae (ai ?_)))))))))
    refine Al Z (Ak (aM Z) (Al Z (Ao (aa (aw (cl (Γ' := [(0,_),(4,_),(5,_),(8,_),(11,_),(126,_),(127,_),(128,_)]) Ag (SubM.refl _) ?_))))))
    refine bA (σ:=List Nat × Nat × Nat) (Γk := [(0,_),(4,_),(5,_),(8,_),(126,_),(127,_)]) Ag (fun s => [(128,one (.int .i64 (s.2.1:Nat))),(11,one (.int .u64 (s.2.2:Nat)))]) (fun s M0=>(M0.set 0 (be (some b) 54 .one N N (ep s.1)))) (fun s=>DgB W W2 v j k s) (fun s=>k+2 - s.2.1) ((W2,0,0)) (⟨h2o,h2l,BackR.start (h2l.win _ _)⟩) Ah (.keep (by (subst hW2;exact eR S Z)) (.nil)) (fun s hs => ?_)
    refine bS (Γ' := [(128,_),(11,_),(0,_),(4,_),(5,_),(8,_),(126,_),(127,_)]) (M' := [_]) Z Z ?_
    obtain ⟨W3,i,c3⟩:=s
    dsimp only at hs ⊢
    have h3o:=hs.out
    have h3l:=hs.lim
    have h3s:=hs.back
    dsimp only at h3o h3l h3s
    have hcr:=h3s.hc
    have hN3:W3.length=N:=h3o.1.trans hN
    have lu2:(win W2 j (k+3)).length=k+3:=py S
    refine ae (ai (Ak (bp Z Z) (Ao (aa (ae ?_)))))
    refine mE Z (fun hc => ?_) (fun hc => ?_)
    ·have hi:i<k+2:=by omega
     have z1:=aL h3l (j+i)
     have v1:=aL hv i
     have hst:=h3s.step hv S (by rw [lu2,hk]; omega)
     rw [fD S, ← jd S] at hst
     refine au (aa (ae (aw (ae (ai (Al Z (Ak (ar Z Z S) (Ak (aE Z) (Am Z ?_)))))))))
     refine Am Z (Ao (aa (ae (ai (Al Z (Al Z (Al Z (Ak (dg Z Z S) (Ak (dR 0 Z Z S) ?_)))))))))
     refine Ak (bc Z S) (Al Z (Ak (bc Z S) (Ak (cL Z Z S) (Ak (cL Z Z S) (Am Z (Ao (aa (ae (ai ?_)))))))))
     refine Al Z (Al Z (Al Z (Ak (bR Z) (Ak (dg Z Z S) ?_))))
     (refine cy 0 Z Z Z ?_ Z ?_;omega)
     refine Ao (aa (ai (Al Z (Ak (ei Z) (Am Z (Ao (aK (aa (ai ?_)))))))))
     refine Ak (bX _ 1 Z Z S) (Al Z (Ao ?_))
     refine aN ((W3.set (j+i) ((c3+(W3.getD (j+i) 0+v.getD i 0)) % 4294967296),i+1,(c3+(W3.getD (j+i) 0+v.getD i 0)) / 4294967296)) (⟨h3o.set S,h3l.set (Nat.mod_lt _ Y),hst⟩) (by (simp only []; omega)) Ah (.keep (eR S Z) (.nil))
    ·have hi:i=k+2:=by have:=h3s.le;omega
     subst hi
     have z1:=aL h3l (j+(k+2))
     have h3v:BackR (win W2 j (k+3)) v (win W3 j (k+3)) v.length c3:=by rw [hk]; exact h3s
     obtain ⟨f4,f5⟩:=h3v.good (R:=lv (win W j (k+3)) % lv v) (x:=(W3.getD (j+(k+2)) 0+c3) % 4294967296) (by rw [lu2,hk]) (Nat.mod_lt _ g.V0) hv (by rw [hk]; exact f3) (by rw [hk,fD S])
     rw [hk, ← jd S] at f5
     refine a6 (ay (ay (aI (aa (ae (ai (Al Z (Al Z (Ak (dg Z Z S) ?_)))))))))
     refine Ak (dR 0 Z Z S) (Al Z (Ak (bR Z) (Ak (ui Z Z) (Ak (dg Z Z S) ?_))))
     (refine cy 0 Z Z Z ?_ Z ?_;omega)
     refine Ao (aa (ae (ai (Al Z (Ak (eh Z Z S Y) (Ak (bR Z) (Am Z (Ao (aa ?_)))))))))
     refine aC ?_
     have e1:(q+18446744073709551616 - 1) % 18446744073709551616 % 4294967296=lv (win W j (k+3)) / lv v:=vg f1 hq1
     refine tV (⟨W3.set (j+(k+2)) ((W3.getD (j+(k+2)) 0+c3) % 4294967296),h3o.set S,h3l.set (Nat.mod_lt _ Y),f5⟩:up W v j k) Try.results83 (.tmp Z (aq (by rw [e1]))) (.keep (eR S (by rw [Nat.mod_eq_of_lt (show c3<4294967296 by omega)])) .nil)
end Tor
end
section
namespace Tor
open Go Go.RowKit Go.Proofs
theorem nN (U:List Nat) {j m:Nat} (h:j+m≤U.length):lv (U.drop j)=lv (win U j m)+4294967296^m*lv (U.drop (j+m)):=by
 have h1:=el (U.drop j) m (by simp;omega)
 rw [List.drop_drop] at h1
 exact h1
theorem fc {U:List Nat} {j:Nat} (h:j<U.length):lv (U.drop j)=U.getD j 0+4294967296*lv (U.drop (j+1)):=by
 rw [ed h]; rfl
structure DivR (V Af n e:Nat) (p:List Nat × List Nat × Nat):Prop where
 le:p.2.2≤e+1
 lu:p.1.length=n+e+1
 lq:p.2.1.length=e+1
 limU:aW p.1
 limQ:aW p.2.1
 zero : ∀ k,k<p.2.2→p.2.1.getD k 0=0
 lt:lv (p.1.drop p.2.2)<V
 val:lv p.1+lv p.2.1*V=Af
theorem DivR.pre {V Af n e j:Nat} {U Q:List Nat} (h:DivR V Af n e (U,Q,j+1)) (hV:V<4294967296^n):j+(n+1)≤U.length∧lv (U.drop (j+(n+1)))=0∧lv (U.drop j)=lv (win U j (n+1))∧lv (win U j (n+1))<V*4294967296:=by
 have hle:j+1≤e+1:=h.le
 have hlu:U.length=n+e+1:=h.lu
 have hlt:lv (U.drop (j+1))<V:=h.lt
 have h1:j+(n+1)≤U.length:=by omega
 have h2:=fc (U:=U) (j:=j) S
 have h3:=nN U h1
 have hd:=aL (show aW U from h.limU) j
 have h4:lv (U.drop j)<V*4294967296:=by
  rw [h2]
  generalize lv (U.drop (j+1))=x at *
  generalize U.getD j 0=y at *
  omega
 have h5:lv (U.drop (j+(n+1)))=0:=by
  rcases Nat.eq_zero_or_pos (lv (U.drop (j+(n+1)))) with h | h
  ·exact h
  ·exfalso
   have h6:4294967296^(n+1)≤4294967296^(n+1)*lv (U.drop (j+(n+1))):=Nat.le_mul_of_pos_right _ h
   have h7:V*4294967296<4294967296^(n+1):=by rw [Nat.pow_succ]; exact Nat.mul_lt_mul_of_pos_right hV Y
   omega
 rw [h5,Nat.mul_zero,Nat.add_zero] at h3
 exact ⟨h1,h5,h3,h3▸h4⟩
theorem DivR.step {V Af n e j q:Nat} {U Q U':List Nat} (h:DivR V Af n e (U,Q,j+1)) (hV0:0<V) (hV:V<4294967296^n) (ho:fN U U' j (n+1)) (hl:aW U') (hr:lv (win U' j (n+1))=lv (win U j (n+1)) % V) (hq:q=lv (win U j (n+1)) / V) :
  DivR V Af n e (U',Q.set j q,j):=by
 obtain ⟨p1,p2,p3,p4⟩:=h.pre hV
 obtain ⟨o1,o2,o3⟩:=ho
 have hle:j+1≤e+1:=h.le
 have hlq:Q.length=e+1:=h.lq
 have hqB:q<4294967296:=by rw [hq]; exact Nat.div_lt_of_lt_mul p4
 have h0:Q.getD j 0=0:=h.zero j (Nat.lt_succ_self j)
 have hs:=eG (l:=Q) (k:=j) (v:=q) S
 rw [h0,Nat.mul_zero,Nat.add_zero] at hs
 have d1:=el U j S
 have d2:=el U' j S
 have e1:=nN U' (j:=j) (m:=n+1) S
 rw [o3,p2,Nat.mul_zero,Nat.add_zero] at e1
 have hm:=Nat.div_add_mod (lv (win U j (n+1))) V
 have hv:lv U+lv Q*V=Af:=h.val
 refine ⟨Nat.le_of_succ_le hle,o1.trans h.lu,by rw [List.length_set]; exact h.lq,hl,aW.set h.limQ hqB,fun k hk => ?_,?_,?_⟩
 ·simp only at hk ⊢
  rw [dh S,if_neg S]; exact h.zero k (Nat.lt_succ_of_lt hk)
 ·show lv (U'.drop j)<V
  rw [e1,hr]; exact Nat.mod_lt _ hV0
 ·show lv U'+lv (Q.set j q)*V=Af
  rw [hs, ← hv,d1,d2,o2,e1,p3,hr,hq]
  generalize lv (win U j (n+1))=w at *
  have e2:(lv Q+4294967296^j*(w / V))*V=lv Q*V+4294967296^j*(V*(w / V)):=by rw [Nat.add_mul,Nat.mul_assoc,Nat.mul_comm (w / V)]
  have e3:4294967296^j*w=4294967296^j*(V*(w / V))+4294967296^j*(w % V):=by rw [← Nat.mul_add,hm]
  rw [e2,e3]; omega
theorem DivR.start {V Af n e:Nat} {U:List Nat} (hU:aW U) (hlu:U.length=n+e+1) (hA:lv U=Af) (hlt:Af<V*4294967296^(e+1)):DivR V Af n e (U,List.replicate (e+1) 0,e+1):=by
 refine ⟨Nat.le_refl _,hlu,by simp,hU,aW.replicate _,fun k _=>bL _ _,?_,by simp [cV,hA]⟩
 show lv (U.drop (e+1))<V
 have h1:=el U (e+1) S
 have h2:lv (U.drop (e+1))*4294967296^(e+1)<V*4294967296^(e+1):=by
  rw [Nat.mul_comm]; omega
 exact Nat.lt_of_mul_lt_mul_right h2
theorem DivR.finish {a b s n e:Nat} {U Q:List Nat} (h:DivR (b*2^s) (a*2^s) n e (U,Q,0)) (hb:0<b):lv Q=a / b∧lv U=(a % b)*2^s:=by
 have hp:=Nat.two_pow_pos s
 have hlt:lv U<b*2^s:=h.lt
 have hv:lv U+lv Q*(b*2^s)=a*2^s:=h.val
 have hq:lv Q=a / b:=by
  have h1:lv Q*b≤a:=by
   refine Nat.le_of_mul_le_mul_right (c:=2^s) ?_ hp
   rw [Nat.mul_assoc]; omega
  have h2:a<(lv Q+1)*b:=by
   refine Nat.lt_of_mul_lt_mul_right (a:=2^s) ?_
   rw [Nat.mul_assoc,Nat.add_mul]; omega
  have h3:lv Q≤a / b:=(Nat.le_div_iff_mul_le hb).2 h1
  have h4:a / b<lv Q+1:=Nat.div_lt_of_lt_mul (by rw [Nat.mul_comm]; exact h2)
  omega
 refine ⟨hq,?_⟩
 have hm:=Nat.div_add_mod a b
 rw [hq] at hv
 have e1:a*2^s=(b*(a / b))*2^s+(a % b)*2^s:=by rw [← Nat.add_mul,hm]
 have e2:a / b*(b*2^s)=(b*(a / b))*2^s:=by rw [← Nat.mul_assoc,Nat.mul_comm (a / b)]
 omega
def ql (U:List Nat) (s i:Nat):Nat:=(U.getD (i+1) 0*4294967296+U.getD i 0) / 2^s % 4294967296
theorem je (Ae:Nat→Nat) : ∀ (n i:Nat) (Ab:Nat→Nat),(∀ k,i≤k→k<i+n→Ab k=Ae k+4294967296*Ab (k+1))→Ab (i+n)=0→lv ((List.range' i n).map Ae)=Ab i
 | 0, i, Ab, _, h0 => by simpa [lv] using h0.symm
 | n + 1, i, Ab, h, h0 => by
  rw [List.range'_succ,List.map_cons,lv,je Ae n (i+1) Ab (fun k h1 h2=>h k S S) (by rw [← h0]; congr 1;omega),h i (Nat.le_refl _) S]
theorem rC {U:List Nat} (hU:aW U) {s i:Nat} (hs:s<32) (hi:i+1<U.length):lv (U.drop i) / 2^s=ql U s i+4294967296*(lv (U.drop (i+1)) / 2^s):=by
 have h1:=fc (U:=U) (j:=i) S
 have h2:=fc (U:=U) (j:=i+1) hi
 have hp:=Nat.two_pow_pos s
 obtain ⟨t,ht⟩ : ∃ t,4294967296=2^s*t:=⟨2^(32 - s),by rw [← Nat.pow_add,show s+(32 - s)=32 by omega]⟩
 have hd:=aL hU i
 have e1:lv (U.drop i) / 2^s % 4294967296=ql U s i:=by
  unfold ql
  rw [h1,h2]
  generalize lv (U.drop (i+1+1))=W
  generalize U.getD (i+1) 0=x
  generalize U.getD i 0=y
  have:y+4294967296*(x+4294967296*W)=(x*4294967296+y)+2^s*(t*(4294967296*W)):=by
   rw [← Nat.mul_assoc (2^s), ← ht]; omega
  rw [this,Nat.add_mul_div_left _ _ hp]
  rw [show t*(4294967296*W)=4294967296*(t*W) by rw [Nat.mul_left_comm],Nat.add_mul_mod_self_left]
 have e2:lv (U.drop i) / 2^s / 4294967296=lv (U.drop (i+1)) / 2^s:=by
  rw [Nat.div_div_eq_div_mul,Nat.mul_comm, ← Nat.div_div_eq_div_mul]
  congr 1
  rw [h1]; omega
 have:=Nat.div_add_mod (lv (U.drop i) / 2^s) 4294967296
 rw [e1,e2] at this
 omega
def d5 (U:List Nat) (s n:Nat):List Nat:=(List.range' 0 n).map (ql U s)
theorem sW {U:List Nat} (hU:aW U) {s n:Nat} (hs:s<32) (hn:n<U.length) (h0:lv U<4294967296^n):lv (d5 U s n)=lv U / 2^s:=by
 have h1:lv (U.drop n)=0:=by
  have h2:=el U n S
  rcases Nat.eq_zero_or_pos (lv (U.drop n)) with h | h
  ·exact h
  ·have:=Nat.le_mul_of_pos_right (4294967296^n) h;omega
 have:=je (ql U s) n 0 (fun k=>lv (U.drop k) / 2^s) (fun k _ hk=>rC hU hs S) (by rw [Nat.zero_add,h1]; exact Nat.zero_div _)
 unfold d5
 rw [this]; rfl
theorem sX (U:List Nat) (s n:Nat):aW (d5 U s n):=fun d hd=>by
 obtain ⟨i,_,rfl⟩:=List.mem_map.1 hd
 exact Nat.mod_lt _ Y
theorem lM (Ae:Nat→Nat) {n i:Nat} (h:i<n):((List.range' 0 n).map Ae).getD i 0=Ae i:=by
 simp [List.getD,h]
theorem sY (U:List Nat) (s:Nat) {n i:Nat} (h:i<n):(d5 U s n).getD i 0=ql U s i:=lM _ h
theorem sZ (U:List Nat) (s n:Nat):(d5 U s n).length=n:=by unfold d5;simp
theorem s5 {l:List Nat} (h:fL l) : ∀ {k:Nat},l.length=k+1→l.getD k 0≠0:=by
 induction l with
 | nil => intro k h; simp at h
 | cons d l ih =>
  intro k hk
  cases l with
  | nil => simp at hk; subst hk; simpa using (show d ≠ 0 from h)
  | cons e l =>
   obtain ⟨j,rfl⟩ : ∃ j,k=j+1:=⟨k - 1,by simp at hk;omega⟩
   have:=ih h.tail (k:=j) (by simpa using hk)
   simpa using this
structure Shf (b:Nat) (l:List Nat) (s k:Nat):Prop where
 s32:s<32
 lim:aW l
 lo:2147483648*4294967296^(k+1)≤b*2^s
 hi:b*2^s<4294967296^(k+2)
theorem uq {b k:Nat} (hk:(ax b).length=k+2):Shf b (ax b) (32 - fB ((ax b).getD (k+1) 0)) k:=by
 have hl:=aG b
 have ht:=s5 (mM b) (k:=k+1) hk
 have hd:=aL hl (k+1)
 generalize hx:(ax b).getD (k+1) 0=x at *
 obtain ⟨j1,j2⟩:=mR (x:=x) S ht
 have j3:=mQ (x:=x) S
 have j4:=jc (x:=x) (n:=32) S Y
 have hb:b=lv ((ax b).take (k+1))+4294967296^(k+1)*x:=by
  have e:ax b=(ax b).take (k+2):=by rw [List.take_of_length_le S]
  have h1:=a8 (l:=ax b) (k:=k+1) S
  rw [← e,bh,hx] at h1;exact h1
 have hlo:=fw (hl.take (k+1))
 rw [List.length_take_of_le S] at hlo
 generalize lv ((ax b).take (k+1))=y at *
 obtain ⟨t,ht2⟩ : ∃ t,fB x=t+1:=⟨fB x - 1,by omega⟩
 rw [ht2] at j2 j3 j4 ⊢
 rw [Nat.add_sub_cancel] at j2
 have p1:2^t*2^(32 - (t+1))=2147483648:=by rw [← Nat.pow_add,show t+(32 - (t+1))=31 by omega]
 have p2:2^(t+1)*2^(32 - (t+1))=4294967296:=by rw [← Nat.pow_add,show t+1+(32 - (t+1))=32 by omega]
 have hp:=Nat.two_pow_pos (32 - (t+1))
 refine ⟨by omega,hl,?_,?_⟩
 ·rw [← p1,hb]
  calc 2^t*2^(32 - (t+1))*4294967296^(k+1)≤x*2^(32 - (t+1))*4294967296^(k+1):=Nat.mul_le_mul_right _ (Nat.mul_le_mul_right _ j2)
   _=4294967296^(k+1)*x*2^(32 - (t+1)):=by rw [Nat.mul_comm,Nat.mul_assoc]
   _≤_:=Nat.mul_le_mul_right _ (Nat.le_add_left _ _)
 ·have h1:b<4294967296^(k+1)*(x+1):=by rw [Nat.mul_add,Nat.mul_one]; omega
  calc b*2^(32 - (t+1))<4294967296^(k+1)*(x+1)*2^(32 - (t+1)):=Nat.mul_lt_mul_of_pos_right h1 hp
   _≤4294967296^(k+1)*2^(t+1)*2^(32 - (t+1)):=Nat.mul_le_mul_right _ (Nat.mul_le_mul_left _ j3)
   _=4294967296^(k+2):=by rw [Nat.mul_assoc,p2, ← Nat.pow_succ]
theorem Shf.v {b s k:Nat} {l z:List Nat} (h:Shf b l s k) (hz:aW z) (hl:z.length=k+3) (hv:lv z=b*2^s) :
  aW (z.take (k+2))∧(z.take (k+2)).length=k+2∧lv (z.take (k+2))=b*2^s∧2147483648≤(z.take (k+2)).getD (k+1) 0:=by
 have h1:=el z (k+2) S
 have h0:lv (z.drop (k+2))=0:=by
  rcases Nat.eq_zero_or_pos (lv (z.drop (k+2))) with h' | h'
  ·exact h'
  ·have:=Nat.le_mul_of_pos_right (4294967296^(k+2)) h';have:=h.hi;omega
 rw [h0,Nat.mul_zero,Nat.add_zero,hv] at h1
 have hlen:(z.take (k+2)).length=k+2:=by rw [List.length_take_of_le S]
 have hL:=hz.take (k+2)
 refine ⟨hL,hlen,h1.symm,?_⟩
 generalize z.take (k+2)=v at *
 have h2:=a8 (l:=v) (k:=k+1) S
 rw [List.take_of_length_le S] at h2
 have h3:=fw (hL.take (k+1))
 rw [List.length_take_of_le S] at h3
 have h4:=h.lo
 rw [h1,h2] at h4
 generalize lv (v.take (k+1))=y at *
 generalize v.getD (k+1) 0=x at *
 generalize 4294967296^(k+1)=B at *
 rcases Nat.lt_or_ge x 2147483648 with h5 | h5
 ·have h6:B*x+B≤B*2147483648:=by rw [← Nat.mul_succ]; exact Nat.mul_le_mul_left _ h5
  rw [Nat.mul_comm 2147483648] at h4;omega
 ·exact h5
theorem Shf.u {a b s k e:Nat} {l:List Nat} (h:Shf b l s k) (ha:(ax a).length=k+2+e):a*2^s<b*2^s*4294967296^(e+1):=by
 have h1:=cC a
 rw [ha] at h1
 have h2:2^s≤2147483648:=Nat.pow_le_pow_right (n:=2) Y (show s≤31 by have:=h.s32;omega)
 calc a*2^s<4294967296^(k+2+e)*2^s:=Nat.mul_lt_mul_of_pos_right h1 (Nat.two_pow_pos s)
  _≤4294967296^(k+2+e)*2147483648:=Nat.mul_le_mul_left _ h2
  _=2147483648*4294967296^(k+1)*4294967296^(e+1):=by rw [Nat.mul_assoc, ← Nat.pow_add,Nat.mul_comm,show k+1+(e+1)=k+2+e by omega]
  _≤b*2^s*4294967296^(e+1):=Nat.mul_le_mul_right _ h.lo
end Tor
end
section
namespace Tor
open Go Go.RowKit Go.Proofs
theorem s6:VT.le (one (.slice none 0 0)) (i8 0):=VT.le_trans hH (em (l := []) (fun _ h=>by cases h) Z)
theorem pz {a b:Nat} : (jD a b<0)=(a<b):=by unfold jD;split <;> simp_all <;> (try split) <;> omega
theorem nO {b:Nat} (h:(ax b).length=1):(ax b).getD 0 0=b:=by
 have h1:=a8 (l:=ax b) (k:=0) S
 rw [List.take_of_length_le S,bh] at h1
 simpa [lv] using h1.symm
theorem s7 {v:Nat} (h:v<4294967296):VT.le (slT .one 1 fun _=>one (.int .u32 (v:Nat))) (i8 v) :=
 VT.le_trans (bK (m := [v].length) (ψ:=fun i=>one (.int .u32 ([v].getD i 0:Nat))) Z (fun q hq=>by
  have hq:q<1:=hq
  have:q=0:=by omega
  subst this;rfl)) (em (l := [v]) (fun d hd=>by simp at hd;omega) (by simp [lv]))
def kd:Nat→Nat→List Nat
 | 0, _ => []
 | n + 1, v => v % 4294967296 :: kd n (v / 4294967296)
theorem kY : ∀ n v,(kd n v).length=n
 | 0, _ => rfl
 | n + 1, v => by rw [kd, List.length_cons, kY n]
theorem kZ : ∀ n v,aW (kd n v)
 | 0, _ => fun d hd => by cases hd
 | n + 1, v => fun d hd => by
  rw [kd] at hd
  rcases List.mem_cons.1 hd with rfl | hd
  ·exact Nat.mod_lt _ Y
  ·exact kZ n _ d hd
theorem k9 : ∀ n v,v<4294967296^n→lv (kd n v)=v
 | 0, v, h => by simp at h; subst h; rfl
 | n + 1, v, h => by
  have:v / 4294967296<4294967296^n:=Nat.div_lt_of_lt_mul (by rw [Nat.mul_comm, ← Nat.pow_succ]; exact h)
  rw [kd,lv,k9 n _ this]; omega
theorem nP : ∀ {z:List Nat},aW z→z=kd z.length (lv z)
 | [], _ => rfl
 | d :: z, h => by
  have hd:=h.head
  have ih:=nP h.tail
  rw [List.length_cons,kd,lv]
  rw [show (d+4294967296*lv z) % 4294967296=d by omega,show (d+4294967296*lv z) / 4294967296=lv z by omega, ← ih]
theorem rD {l:List Nat} {s:Nat} (hl:aW l) (hs:s<32):lv l*2^s<4294967296^(l.length+1):=by
 rw [Nat.pow_succ]
 have h1:2^s≤4294967296:=Nat.pow_le_pow_right (n:=2) Y (show s≤32 by omega)
 exact Nat.lt_of_lt_of_le (Nat.mul_lt_mul_of_pos_right (fw hl) (Nat.two_pow_pos s)) (Nat.mul_le_mul_left _ h1)
def ur (l:List Nat) (s:Nat) (hl:aW l) (hs:s<32):mU l s:=⟨(0,kd (l.length+1) (lv l*2^s)),kY _ _,kZ _ _,k9 _ _ (rD hl hs)⟩
theorem qm (l:List Nat) (s:Nat) (hl:aW l) (h1:l.length≤1099511627776) (hs:s<32):Ok Try.prog 82 [bC l,one (.int .i64 (s:Nat))] (slT .one (l.length+1) (ep (kd (l.length+1) (lv l*2^s)))) :=
 (nM l s hl h1 hs).ok fun p=>by
  have h:=nP p.2.2.1
  rw [p.2.1,p.2.2.2] at h
  rw [← h]
  exact Ent.sl List.mem_cons_self
theorem qn {z:List Nat} {q m:Nat} (h:q<m):ep z (Int.toNat 0+q)=ep (z.take m) q:=by
 have e:Int.toNat 0+q=q:=Nat.zero_add q
 rw [e]
 unfold ep
 rw [show (z.take m).getD q 0=z.getD q 0 by simp [List.getD,List.getElem?_take,h]]
theorem s8 {br:Option Nat} {T:TypeId} {n i s:Nat} {U:List Nat} (hi:i<n):Own.le (be br T .one n n (upd (fun q=>one (.int .u32 ((if q<i then (d5 U s n).getD q 0 else 0:Nat):Int))) i (one (.int .u32 (((U.getD (i+1) 0*4294967296+U.getD i 0) / 2^s % 4294967296:Nat):Int)))))
  (be br T .one n n (fun q=>one (.int .u32 ((if q<i+1 then (d5 U s n).getD q 0 else 0:Nat):Int)))):=cE (fun q hq=>by
 unfold upd
 by_cases h:q=i
 ·subst h;rw [if_pos Z,if_pos (Nat.lt_succ_self q),sY U s hi]; rfl
 ·rw [if_neg h]
  dsimp only
  by_cases h2:q<i
  ·rw [if_pos h2,if_pos (Nat.lt_succ_of_lt h2)]
  ·rw [if_neg h2,if_neg S])
attribute [local irreducible] J PJ aF one slT cS bP bZ exT cR eP bf be slV VT.le Ret cm
set_option maxRecDepth 20000 in
theorem ma (a b:Nat) (hb:b≠0) (ha:(ax a).length≤1099511627776):Ok Try.prog 70 [bC (ax a),bC (ax b)] (bZ [i8 (a / b),i8 (a % b)]):=by
 have hcl:=jb (ax a) ha
 have hcm:=iK a b
 refine Ok.enter Try.func70 Z Try.ntmps70 Z (fun w O => ?_)
 by_cases h1:a<b
 ·rw [Nat.div_eq_of_lt h1,Nat.mod_eq_of_lt h1]
  have hlt:jD a b<0:=by rw [pz]; exact h1
  refine ae (ai (Am Z (Am Z (Ao (aa (ae (aw (ae (ai ?_)))))))))
  refine Al Z (Al Z ?_)
  refine Ak (aj (hcm) Z ⟨A,A,Ap⟩) ?_
  refine Ak (sT (by assumption) (bp Z Z)) (Am Z (Ao (aa (aB Z (ae (ai (Al Z ?_)))))))
  refine Ak (aj (hcl) Z ⟨A,Ap⟩) ?_
  refine Am Z (Am Z (Ao (aa (aC (aZ (aD ?_))))))
  refine de Try.results70 (.tmp Z (s6)) (.tmp Z (bM _))
 ·have hlt : ¬ jD a b<0:=by rw [pz]; exact h1
  have hlen:=bB (Nat.le_of_not_lt h1)
  by_cases h2:(ax a).length≤2
  ·have hw1:=ko (ax a) (aG a) h2
   have hw2:=ko (ax b) (aG b) S
   rw [bh] at hw1 hw2
   have a64:a<18446744073709551616:=Nat.lt_of_lt_of_le (cC a) (Nat.pow_le_pow_right (n:=4294967296) Y h2)
   have b64:b<18446744073709551616:=by omega
   have q64:a / b<18446744073709551616:=Nat.lt_of_le_of_lt (Nat.div_le_self _ _) a64
   have r64:a % b<18446744073709551616:=Nat.lt_of_le_of_lt (Nat.mod_le _ _) a64
   have hk1:=gS (a / b) q64
   have hk2:=gS (a % b) r64
   refine ae (ai (Am Z (Am Z (Ao (aa (ae (aw (ae (ai ?_)))))))))
   refine Al Z (Al Z ?_)
   refine Ak (aj (hcm) Z ⟨A,A,Ap⟩) ?_
   refine Ak (sF (by assumption) (bp Z Z)) (Am Z (Ao (aa (az Z (ae (ai (Al Z (Ak (aM Z) (Ak (sT S (kw Z Z)) ?_)))))))))
   refine Am Z (Ao (aa (aB Z (ae (ai (Al Z ?_))))))
   refine Ak (aj (hw1) Z ⟨A,Ap⟩) ?_
   refine Al Z ?_
   refine Ak (aj (hw2) Z ⟨A,Ap⟩) ?_
   refine Am Z (Am Z (Ao (aa (ae (aU 9 aR X Y (Al Z (Al Z (Ak (gO Z Z S S) ?_))))))))
   refine Ak (aj (hk1) Z ⟨A,Ap⟩) ?_
   refine Al Z (Al Z (Ak (dW _ Z Z Z S) ?_))
   refine Ak (aj (hk2) Z ⟨A,Ap⟩) ?_
   refine Am Z (Ao (Am Z (Ao (aa (aC (aZ (aD ?_)))))))
   refine de Try.results70 (.tmp Z A) (.tmp Z A)
  ·by_cases h3:(ax b).length=1
   ·have hb1:=nO h3
    have hd:=aL (aG b) 0
    have hsh:=rA (ax a) b (aG a) ha S S
    rw [bh] at hsh
    have hr:=Nat.mod_lt a (show 0<b by omega)
    refine ae (ai (Am Z (Am Z (Ao (aa (ae (aw (ae (ai ?_)))))))))
    refine Al Z (Al Z ?_)
    refine Ak (aj (hcm) Z ⟨A,A,Ap⟩) ?_
    refine Ak (sF (by assumption) (bp Z Z)) (Am Z (Ao (aa (az Z (ae (ai (Al Z (Ak (aM Z) (Ak (sF S (kw Z Z)) ?_)))))))))
    refine Am Z (Ao (aa (az Z (ae (ai (Al Z (Ak (aM Z) (Ak (sT S (bW Z Z)) (Am Z ?_)))))))))
    refine Ao (aa (aB Z (ae (ai (Al Z (Al Z (Ak (gI Z Z S S) (Ak (aE Z) ?_))))))))
    refine Ak (aj (hsh) Z ⟨A,(aq (by rw [show (ax b).getD (Int.toNat 0) 0=b from hb1])),Ap⟩) ?_
    refine Al Z (Ak (an Z Z) (Ak (an Z Z) (Am Z (Am Z (Ao (aa (ae (ai (Al Z ?_)))))))))
    refine Al Z (kb Z Z Z Z (Am Z (Am Z (Ao (aa (aC (aZ (aD ?_))))))))
    refine de Try.results70 (.tmp Z A) (.tmp Z (s7 S))
   ·have hdb:ax b ≠ []:=fun h=>hb (by rw [← bh b,h]; rfl)
    obtain ⟨k,hk⟩ : ∃ k,(ax b).length=k+2:=⟨(ax b).length - 2,by have:=List.length_pos_iff.2 hdb;omega⟩
    obtain ⟨e,he⟩ : ∃ e,(ax a).length=k+2+e:=⟨(ax a).length - (k+2),by omega⟩
    have hx:=aL (aG b) ((ax b).length - 1)
    have S0:=uq hk
    rw [show k+1=(ax b).length - 1 by omega] at S0
    have hlz:=sS ((ax b).getD ((ax b).length - 1) 0) hx
    generalize 32 - fB ((ax b).getD ((ax b).length - 1) 0)=s at S0 hlz
    have s32:=S0.s32
    have hsv:=qm (ax b) s (aG b) S s32
    have hsu:=nM (ax a) s (aG a) ha s32
    refine ae (ai (Am Z (Am Z (Ao (aa (ae (aw (ae (ai ?_)))))))))
    refine Al Z (Al Z ?_)
    refine Ak (aj (hcm) Z ⟨A,A,Ap⟩) ?_
    refine Ak (sF (by assumption) (bp Z Z)) (Am Z (Ao (aa (az Z (ae (ai (Al Z (Ak (aM Z) (Ak (sF S (kw Z Z)) ?_)))))))))
    refine Am Z (Ao (aa (az Z (ae (ai (Al Z (Ak (aM Z) (Ak (sF S (bW Z Z)) (Am Z ?_)))))))))
    refine Ao (aa (az Z (au (aK (aa (ae (ai (Al Z (Al Z ?_)))))))))
    refine Ak (aM Z) (Ak (cM _ 1 Z Z S S) (Ak (ar Z Z S) (Ak (aE Z) ?_)))
    refine Ak (aj (hlz) Z ⟨A,Ap⟩) ?_
    refine Al Z (Ak (aM Z) (Am Z (Am Z (Ao (aa (ae (cl (Γ' := [(0,_),(1,_),(4,_),(5,_),(10,_),(11,_)]) Ag (SubM.refl _) ?_)))))))
    refine uj (σ:=mU (ax a) s) 2 (ur (ax a) s (aG a) s32) (fun p=>one (slV (some p.1.1) ((ax a).length+1) ((ax a).length+1))) (fun p => [be (some p.1.1) 54 .one ((ax a).length+1) ((ax a).length+1) (ep p.1.2)]) aR X Y ?_
    refine vx Z (fun s B=>ab Z) Z ?_
    refine vx Z (fun s B=>ab Z) Z ?_
    refine vc Z hsu (fun s=>rfl) ⟨A,A,Ap⟩ Z ?_
    refine vx Z (fun s B=>ab Z) Z ?_
    refine vx Z (fun s B=>ab Z) Z ?_
    refine vx Z (fun s B=>aj hsv Z ⟨A,A,Ap⟩) Z ?_
    refine vx Z (fun s B=>ab Z) Z ?_
    refine vx Z (fun s B=>ab Z) Z ?_
    refine vx Z (fun s B=>g8 Z Z Z Z (fun _=>rfl) S S S S) Z ?_
    refine vd Z X (fun s B=>ah Z) Z ?_
    refine vx Z (fun s B=>ah Z) Z ?_
    refine .nil (fun p => ?_)
    obtain ⟨⟨bu,U⟩,hu1,hu2,hu3⟩:=p
    dsimp only at hu1 hu2 hu3 ⊢
    rw [bh] at hu3
    rw [he] at hu1
    rw [bh,hk,he]
    obtain ⟨z,hz⟩ : ∃ z,z=kd (k+2+1) (b*2^s):=⟨_,rfl⟩
    have z1:=kY (k+2+1) (b*2^s)
    have z2:=kZ (k+2+1) (b*2^s)
    have z3:=k9 (k+2+1) (b*2^s) (Nat.lt_of_lt_of_le S0.hi (Nat.pow_le_pow_right Y S))
    rw [← hz] at z1 z2 z3 ⊢
    obtain ⟨v1,v2,v3,v4⟩:=S0.v z2 z1 z3
    refine ky (Γ' := [(0,slT .one (k+2+e) (ep (ax a))),(4,_),(5,_),(10,_),(11,one (.int .i64 ((k+2:Nat):Int))),(12,one (slV (some bu) (k+2+e+1) (k+2+e+1))),(13,bC (z.take (k+2)))]) (.cons Z (bK he (fun _ _=>rfl)) (.cons Z A (.cons Z A (.cons Z A (.cons Z A (.cons Z A (.cons Z ?_ .nil))))))) (SubM.refl _) ?_
    ·exact bK (by rw [v2]; omega) (fun q hq=>qn S)
    generalize z.take (k+2)=v at *
    have hV0:0<b*2^s:=Nat.mul_pos S (Nat.two_pow_pos s)
    have hVn:=S0.hi
    have hA:=S0.u he
    refine aa (ae (ai (Al Z (Ak (aM Z) (Al Z (Ak (cM _ _ Z Z S S) (Ak (bX _ 1 Z Z S) ?_)))))))
    refine cz (e+1) (e+1) Z Z S S (Nat.le_refl _) Z Z S Z Z (fun bz => ?_)
    refine Am Z (Ao (aa (ae (ae (ai (Al Z (Ak (aM Z) (Al Z (Ak (cM _ _ Z Z S S) ?_)))))))))
    refine Am Z (Ao (aa (aw (cl (Γ' := [(4,_),(5,_),(10,_),(11,_),(12,_),(13,_),(14,_),(15,_)]) Ag (SubM.refl _) ?_))))
    refine bA (σ:=List Nat × List Nat × Nat) (Γk := [(4,_),(5,_),(10,_),(11,_),(12,_),(13,_),(14,_)]) Ag (fun p => [(15,one (.int .i64 ((p.2.2:Nat) - 1:Int)))]) (fun p M0=>((M0.set 0 (be (some bz) 54 .one (e+1) (e+1) (ep p.2.1))).set 1 (be (some bu) 54 .one (k+2+e+1) (k+2+e+1) (ep p.1)))) (fun p=>DivR (b*2^s) (a*2^s) (k+2) e p) (fun p=>p.2.2) ((U,List.replicate (e+1) 0,e+1)) (DivR.start hu2 hu1 hu3 hA) Ah (.keep (cE (fun q _=>by unfold ep;rw [bL]; rfl)) (.keep Aj (.nil))) (fun p hp => ?_)
    refine bS (Γ' := [(15,_),(4,_),(5,_),(10,_),(11,_),(12,_),(13,_),(14,_)]) (M' := [_,_]) Z Z ?_
    obtain ⟨U1,Q,c⟩:=p
    dsimp only at hp ⊢
    have hu1:U1.length=k+2+e+1:=hp.lu
    have hq1:Q.length=e+1:=hp.lq
    have hcl:c≤e+1:=hp.le
    refine ae (ae (ai (Al Z (Ak (dC Z Z) (Ao (aa ?_))))))
    cases c with
    | zero =>
     refine iX Z S (a6 (ay (ay (aI (aa (ae (ai (Al Z ?_))))))))
     obtain ⟨f1,f2⟩:=hp.finish S
     refine cz (k+2) (k+2) Z Z Z Z (Nat.le_refl _) Z Z S Z Z (fun br => ?_)
     refine Am Z (Ao (aa (ae (ae (ai (Al Z (Al Z (Ao (aa ?_)))))))))
     refine aw (cl (Γ' := [(4,_),(5,_),(10,_),(12,_),(14,_),(16,_),(102,_),(103,_)]) Ag (SubM.refl _) ?_)
     refine bA (σ:=Nat) (Γk := [(4,_),(5,_),(10,_),(12,_),(14,_),(16,_),(102,_)]) Ag (fun i => [(103,one (.int .i64 (i:Nat)))]) (fun i M0=>(M0.set 0 (be (some br) 54 .one (k+2) (k+2) (fun q=>one (.int .u32 ((if q<i then (d5 U1 s (k+2)).getD q 0 else 0:Nat):Int)))))) (fun i=>i≤k+2) (fun i=>k+2 - i) (0) (Nat.zero_le _) Ah (.keep Aj (.keep Aj (.keep Aj (.nil)))) (fun i hi => ?_)
     refine bS (Γ' := [(103,_),(4,_),(5,_),(10,_),(12,_),(14,_),(16,_),(102,_)]) (M' := [_,_,_]) Z Z (ae (ai (Ak (bp Z Z) (Ao (aa (ae ?_))))))
     refine mE Z (fun hc => ?_) (fun hc => ?_)
     ·have hik:i<k+2:=by omega
      have g0:=aL (show aW U1 from hp.limU) i
      have g1:=aL (show aW U1 from hp.limU) (i+1)
      refine au (aa (ae (aw (ae (ai (Al Z (Am Z (Ao (aa ?_)))))))))
      refine aU 18 aR X Y (Al Z (Al Z (Al Z (Al Z (Ak (bX _ 1 Z Z S) (Ak (co Z Z S) (Ak (dR 2 Z Z S) (Ak (bc Z S) (Ak (iF (s:=32) Z Z S S) ?_)))))))))
      refine Al Z (Al Z (Ak (co Z Z S) (Ak (dR 2 Z Z S) (Ak (bc Z S) (Ak (iE Z Z S S) (Al Z ?_))))))
      refine Ak (iG Z Z (by (show _<64;omega))) ?_
      refine Ak (bR Z) (Ao (Ak (co Z Z S) ?_))
      (refine cy 0 Z Z Z ?_ Z ?_;omega)
      refine Ao (aK (aa (ai (Ak (bX _ 1 Z Z S) (Al Z (Ao ?_))))))
      refine aN (i+1) (by assumption) S Ah (.keep (s8 hik) (.keep Aj (.keep Aj (.nil))))
     ·have hik:i=k+2:=by omega
      subst hik
      refine a6 (ay (ay (aI (aa (ae (ai (Al Z (Al Z (Am Z ?_)))))))))
      refine Am Z (Ao (aa (aC ?_)))
      have hlU:lv U1<4294967296^(k+2):=Nat.lt_trans (show lv (U1.drop 0)<_ from hp.lt) hVn
      have hrv:lv (d5 U1 s (k+2))=a % b:=by rw [sW hp.limU s32 (by dsimp only;omega) hlU,f2,Nat.mul_div_cancel _ (Nat.two_pow_pos s)]
      refine dc (t:=5) (i:=0) Z Z (dc (t:=4) (i:=0) Z Z ?_)
      refine de Try.results70 (.tmp Z (VT.le_trans (bK (m:=Q.length) (ψ:=ep Q) hq1.symm (fun _ _=>rfl)) (em hp.limQ f1))) (.tmp Z (VT.le_trans (bK (m:=(d5 U1 s (k+2)).length) (ψ:=ep (d5 U1 s (k+2))) (sZ _ _ _).symm (fun q hq=>by rw [if_pos hq])) (em (sX _ _ _) hrv)))
    | succ j =>
     obtain ⟨p1,p2,p3,p4⟩:=hp.pre hVn
     have en:((j+1:Nat):Int) - 1=(j:Nat):=by omega
     rw [en]
     refine iW Z S (au (aa (ae (aw (ai (Al Z (Al Z (Al Z (Al Z ?_)))))))))
     refine Al Z (Al Z (Ak (bX _ _ Z Z S) (Ak (bX _ 1 Z Z S) (Ak (rm Z Z Z S S S) (Al Z ?_)))))
     refine sH (Min := [be (some bu) 54 .one (k+2+e+1) (k+2+e+1) (ep U1)]) (Kp := [be (some bz) 54 .one (e+1) (e+1) (ep Q)]) (rB bu (k+2+e+1) j (k+2+e+1 - j) k U1 v hp.limU v1 hu1 S v2 S v4 (by rw [v3]; exact p4)) Z ⟨aq (by rw [show j+(k+2)+1 - j=k+3 by omega]; rfl),A,Ap⟩ (List.Perm.swap _ _ _) Z Z (fun r => ?_)
     obtain ⟨U2,o1,o2,o3⟩:=r
     dsimp only
     refine rc (List.Perm.swap _ _ _) (Ak (co Z Z S) ?_)
     (refine cy 0 Z Z Z ?_ Z ?_;omega)
     refine Ao (aK (aa (ai (Al Z (Ak (dE Z Z (aT S S)) (Am Z (Ao ?_)))))))
     refine aN ((U2,Q.set j (lv (win U1 j (k+3)) / lv v),j)) (hp.step hV0 hVn o1 o2 (by rw [o3,v3]) (by rw [v3])) (by (simp only []; omega)) Ah (.keep (eR S Z) (.keep Aj (.nil)))
end Tor
end
section
namespace Tor
open Go Go.RowKit Go.Proofs
theorem pA {Af B:Nat} (hB:0<B) (h:Af % B=0):(-(Af:Int)) / B = -((Af / B:Nat):Int)∧(-(Af:Int)) % B=0:=by
 have hm:=Nat.div_add_mod Af B
 refine (Int.ediv_emod_unique S).2 ⟨?_,by omega,by omega⟩
 have e:((B*(Af / B)+Af % B:Nat):Int)=(Af:Int):=by rw [hm]
 rw [h] at e
 rw [Int.natCast_add,Int.natCast_mul] at e
 rw [Int.mul_neg]; omega
theorem pB {Af B:Nat} (hB:0<B) (h:Af % B≠0):(-(Af:Int)) / B = -((Af / B+1:Nat):Int)∧(-(Af:Int)) % B=((B - Af % B:Nat):Int):=by
 have hm:=Nat.div_add_mod Af B
 have hl:=Nat.mod_lt Af hB
 refine (Int.ediv_emod_unique S).2 ⟨?_,by omega,by omega⟩
 have e:((B*(Af / B)+Af % B:Nat):Int)=(Af:Int):=by rw [hm]
 rw [Int.natCast_add,Int.natCast_mul] at e
 rw [Int.mul_neg,Int.natCast_add,Int.mul_add]
 omega
theorem pC {a b:Int} (hb:b≠0):(0≤a→a / b=(if b<0 then -((a.natAbs / b.natAbs:Nat):Int) else ((a.natAbs / b.natAbs:Nat):Int))∧a % b=((a.natAbs % b.natAbs:Nat):Int)) ∧
  (a<0→a.natAbs % b.natAbs=0→a / b=(if b<0 then ((a.natAbs / b.natAbs:Nat):Int) else -((a.natAbs / b.natAbs:Nat):Int))∧a % b=0) ∧
  (a<0→a.natAbs % b.natAbs≠0→a / b=(if b<0 then ((a.natAbs / b.natAbs+1:Nat):Int) else -((a.natAbs / b.natAbs+1:Nat):Int))∧a % b=((b.natAbs - a.natAbs % b.natAbs:Nat):Int)):=by
 have hB:0<b.natAbs:=by omega
 generalize hA:a.natAbs=Af
 generalize hBb:b.natAbs=B at *
 have key:(0≤a→a / (B:Int)=((Af / B:Nat):Int)∧a % (B:Int)=((Af % B:Nat):Int)) ∧
   (a<0→Af % B=0→a / (B:Int) = -((Af / B:Nat):Int)∧a % (B:Int)=0) ∧
   (a<0→Af % B≠0→a / (B:Int) = -((Af / B+1:Nat):Int)∧a % (B:Int)=((B - Af % B:Nat):Int)):=by
  refine ⟨fun h => ?_,fun h h0 => ?_,fun h h0 => ?_⟩
  ·have:a=(Af:Int):=by omega
   rw [this]; exact ⟨(Int.natCast_ediv Af B).symm,(Int.natCast_emod Af B).symm⟩
  ·have:a = -(Af:Int):=by omega
   rw [this]; exact pA hB h0
  ·have:a = -(Af:Int):=by omega
   rw [this]; exact pB hB h0
 by_cases hn:b<0
 ·have e:b = -(B:Int):=by omega
  simp only [if_pos hn]
  rw [e,Int.ediv_neg,Int.emod_neg]
  refine ⟨fun h => ?_,fun h h0 => ?_,fun h h0 => ?_⟩
  ·obtain ⟨k1,k2⟩:=key.1 h;exact ⟨by rw [k1],k2⟩
  ·obtain ⟨k1,k2⟩:=key.2.1 h h0;exact ⟨by rw [k1,Int.neg_neg],k2⟩
  ·obtain ⟨k1,k2⟩:=key.2.2 h h0;exact ⟨by rw [k1,Int.neg_neg],k2⟩
 ·have e:b=(B:Int):=by omega
  simp only [if_neg hn]
  rw [e]; exact key
theorem dZ {v:Nat} (h:(ax v).length=0):v=0:=by
 rw [← bh v,List.length_eq_zero_iff.1 h]; rfl
theorem nQ:ax 1 = [1]:=by rw [fv Y]; rfl
theorem rE:VT.le (slT .one 1 fun _=>one (.int .u32 1)) (bC (ax 1)):=by
 rw [nQ]
 exact bK Z (fun q hq=>by
  have hq:q=0:=by omega
  subst hq;rfl)
theorem pD (p:Prop) [Decidable p] (x:Int):(if (!(true == decide p))=true then -x else x)=(if p then x else -x):=by by_cases h:p <;> simp [h]
theorem s9 (p:Prop) [Decidable p] (x:Int):(if (!(false == decide p))=true then -x else x)=(if p then -x else x):=by by_cases h:p <;> simp [h]
attribute [local irreducible] J PJ aF one slT cS bP bZ exT cR eP bf be slV VT.le Ret cm
set_option maxRecDepth 20000 in
theorem dA (a b:Int) (hb:b≠0) (ha:a4 a) (hbs:a4 b):Ok Try.prog 44 [aS a,aS b] (bZ [aS (a / b),aS (a % b),one (.int .i64 0)]):=by
 obtain ⟨g1,g2,g3⟩:=pC (a:=a) hb
 have hb0:(ax b.natAbs).length≠0:=fun h=>hb (by have:=dZ h;omega)
 have hB:b.natAbs≠0:=by omega
 have hdiv:=ma a.natAbs b.natAbs hB ha
 have ha':(ax a.natAbs).length≤1099511627776:=ha
 have hb':(ax b.natAbs).length≤1099511627776:=hbs
 have hlt:=Nat.mod_lt a.natAbs (Nat.pos_of_ne_zero hB)
 have hr0:(ax (a.natAbs % b.natAbs)).length=0↔a.natAbs % b.natAbs=0:=⟨dZ,fun h=>by rw [h]; rfl⟩
 have hql:(ax (a.natAbs / b.natAbs)).length≤1099511627776:=Nat.le_trans (bB (Nat.div_le_self _ _)) ha'
 have hmin:=kV b.natAbs (a.natAbs % b.natAbs) (Nat.le_of_lt hlt) hb'
 have hplus:=pv (a.natAbs / b.natAbs) 1 hql (by rw [nQ]; decide)
 have hv1:=fun n=>cN n (a.natAbs / b.natAbs)
 have hv2:=fun n=>cN n (a.natAbs % b.natAbs)
 have hv3:=fun n=>cN n (a.natAbs / b.natAbs+1)
 have hv4:=fun n=>cN n (b.natAbs - a.natAbs % b.natAbs)
 unfold aS at *
 refine Ok.enter Try.func44 Z Try.ntmps44 Z (fun w O => ?_)
 by_cases hn:a<0
 ·by_cases hr:a.natAbs % b.natAbs=0
  ·have hr1:=hr0.2 hr
   refine ae (ai ?_)
   refine aO Z Z (ltN Z) (fun b2 => ?_)
   refine aO Z Z (ltN Z) (fun b3 => ?_)
   refine av (T:=29) Z (ltN Z) (fun b4 => ?_)
   refine av (T:=29) Z (ltN Z) (fun b5 => ?_)
   refine Am Z (Ao (aa (ae (aU 7 aR X Y (Ak (am Z) (Ak (ak 3 Z Z Z) ?_))))))
   refine Ak (aj (cr _) Z ⟨(bM _),Ap⟩) ?_
   refine Ak (am Z) (Ak (ak 2 Z Z Z) ?_)
   refine Ak (aj (cr _) Z ⟨(bM _),Ap⟩) ?_
   refine Am Z (Ao (Am Z (Ao (aa (ae (ae (ai (Al Z (Ak (aM Z) ?_)))))))))
   refine Ak (sF S (bW Z Z)) (Ao (aa (az Z (au (aa (ae (ai (Al Z (Al Z ?_)))))))))
   refine Ak (aj (hdiv) Z ⟨A,A,Ap⟩) ?_
   refine Al Z (Ak (an Z Z) (Ak (an Z Z) (Am Z (Am Z (Ao (aa (ae (ai (Al Z ?_)))))))))
   refine Ak (aj (cr _) Z ⟨A,Ap⟩) ?_
   refine Am Z (Ao (aa (ae (ae (ai (Ak (am Z) (Ak (sT (by assumption) (ak 3 Z Z Z)) (Al Z (An (ab Z) ?_)))))))))
   refine An (aM Z) (An (sF S (cT Z Z)) (Ak (a9 Z Z) (Ao (aa (az Z (au (aa (ae (ai ?_)))))))))
   refine Ak (am Z) (Ak (sT (by assumption) (ak 3 Z Z Z)) (Ak (am Z) (Ak (ak 2 Z Z Z) (Ak (fj Z Z) (Al Z ?_)))))
   refine Ak (aj (hv1 _) Z ⟨A,A,Ap⟩) ?_
   refine Al Z ?_
   refine Ak (aj (hv2 _) Z ⟨A,(bM _),Ap⟩) ?_
   refine ao 1 Z Z Z Z Z (leN Z) Z (ao 0 Z Z Z Z Z (leN Z) Z (Am Z (Ao (aa (aC ?_)))))
   refine it Try.results44 (.cellB 1 Z Z Z (bm (by rw [(g2 hn hr).1]; exact pD _ _))) (.cellB 0 Z Z Z (bm (by rw [(g2 hn hr).2,hr]; rfl))) (.tmp Z A)
  ·have hr1:(ax (a.natAbs % b.natAbs)).length≠0:=fun h=>hr (hr0.1 h)
   refine ae (ai ?_)
   refine aO Z Z (ltN Z) (fun b2 => ?_)
   refine aO Z Z (ltN Z) (fun b3 => ?_)
   refine av (T:=29) Z (ltN Z) (fun b4 => ?_)
   refine av (T:=29) Z (ltN Z) (fun b5 => ?_)
   refine Am Z (Ao (aa (ae (aU 7 aR X Y (Ak (am Z) (Ak (ak 3 Z Z Z) ?_))))))
   refine Ak (aj (cr _) Z ⟨(bM _),Ap⟩) ?_
   refine Ak (am Z) (Ak (ak 2 Z Z Z) ?_)
   refine Ak (aj (cr _) Z ⟨(bM _),Ap⟩) ?_
   refine Am Z (Ao (Am Z (Ao (aa (ae (ae (ai (Al Z (Ak (aM Z) ?_)))))))))
   refine Ak (sF S (bW Z Z)) (Ao (aa (az Z (au (aa (ae (ai (Al Z (Al Z ?_)))))))))
   refine Ak (aj (hdiv) Z ⟨A,A,Ap⟩) ?_
   refine Al Z (Ak (an Z Z) (Ak (an Z Z) (Am Z (Am Z (Ao (aa (ae (ai (Al Z ?_)))))))))
   refine Ak (aj (cr _) Z ⟨A,Ap⟩) ?_
   refine Am Z (Ao (aa (ae (ae (ai (Ak (am Z) (Ak (sT (by assumption) (ak 3 Z Z Z)) (Al Z (An (ab Z) ?_)))))))))
   refine An (aM Z) (An (sT S (cT Z Z)) (Ak (a9 Z Z) (Ao (aa (aB Z (ai (Al Z ?_)))))))
   refine Ak (aj (cr _) Z ⟨A,Ap⟩) ?_
   refine kb Z Z Z Z ?_
   refine Ak (aj (hplus) Z ⟨A,(rE),Ap⟩) ?_
   refine Al Z (Al Z ?_)
   refine Ak (aj (hmin) Z ⟨A,A,Ap⟩) ?_
   refine Am Z (Am Z (Ao (aa (ae (ai (Ak (am Z) (Ak (sT (by assumption) (ak 3 Z Z Z)) (Ak (am Z) (Ak (ak 2 Z Z Z) ?_)))))))))
   refine Ak (fj Z Z) (Al Z ?_)
   refine Ak (aj (hv3 _) Z ⟨A,A,Ap⟩) ?_
   refine Al Z ?_
   refine Ak (aj (hv4 _) Z ⟨A,A,Ap⟩) ?_
   refine ao 1 Z Z Z Z Z (leN Z) Z (ao 0 Z Z Z Z Z (leN Z) Z (Am Z (Ao (aa (aC ?_)))))
   refine it Try.results44 (.cellB 1 Z Z Z (bm (by rw [(g3 hn hr).1]; exact pD _ _))) (.cellB 0 Z Z Z (bm (by rw [(g3 hn hr).2]; rfl))) (.tmp Z A)
 ·refine ae (ai ?_)
  refine aO Z Z (ltN Z) (fun b2 => ?_)
  refine aO Z Z (ltN Z) (fun b3 => ?_)
  refine av (T:=29) Z (ltN Z) (fun b4 => ?_)
  refine av (T:=29) Z (ltN Z) (fun b5 => ?_)
  refine Am Z (Ao (aa (ae (aU 7 aR X Y (Ak (am Z) (Ak (ak 3 Z Z Z) ?_))))))
  refine Ak (aj (cr _) Z ⟨(bM _),Ap⟩) ?_
  refine Ak (am Z) (Ak (ak 2 Z Z Z) ?_)
  refine Ak (aj (cr _) Z ⟨(bM _),Ap⟩) ?_
  refine Am Z (Ao (Am Z (Ao (aa (ae (ae (ai (Al Z (Ak (aM Z) ?_)))))))))
  refine Ak (sF S (bW Z Z)) (Ao (aa (az Z (au (aa (ae (ai (Al Z (Al Z ?_)))))))))
  refine Ak (aj (hdiv) Z ⟨A,A,Ap⟩) ?_
  refine Al Z (Ak (an Z Z) (Ak (an Z Z) (Am Z (Am Z (Ao (aa (ae (ai (Al Z ?_)))))))))
  refine Ak (aj (cr _) Z ⟨A,Ap⟩) ?_
  refine Am Z (Ao (aa (ae (ae (ai (Ak (am Z) (Ak (sF (by assumption) (ak 3 Z Z Z)) (Al Z (sg0 Z Z Z Z ?_)))))))))
  refine sg0 Z Z Z Z (sg0 Z Z Z Z (Ak (aY Z Z) (Ao (aa (az Z (au (aa (ae (ai ?_)))))))))
  refine Ak (am Z) (Ak (sF (by assumption) (ak 3 Z Z Z)) (Ak (am Z) (Ak (ak 2 Z Z Z) (Ak (fj Z Z) (Al Z ?_)))))
  refine Ak (aj (hv1 _) Z ⟨A,A,Ap⟩) ?_
  refine Al Z ?_
  refine Ak (aj (hv2 _) Z ⟨A,(bM _),Ap⟩) ?_
  refine ao 1 Z Z Z Z Z (leN Z) Z (ao 0 Z Z Z Z Z (leN Z) Z (Am Z (Ao (aa (aC ?_)))))
  refine it Try.results44 (.cellB 1 Z Z Z (bm (by rw [(g1 S).1]; exact s9 _ _))) (.cellB 0 Z Z Z (bm (by rw [(g1 S).2]; rfl))) (.tmp Z A)
end Tor
end
section
namespace Tor
open Go Go.RowKit Go.Proofs
theorem vh {a b:Nat} (ha:a<4294967296) (hb:b<4294967296):a*b<18446744073709551616:=by
 have:=i7 ha hb (c:=0) (d:=0) Y Y;omega
structure PowR (p v:Nat) (s:Nat × Nat × Nat):Prop where
 r:s.1<p
 a:s.2.1<p
 e:s.2.2<18446744073709551616
 v:s.1*s.2.1^s.2.2 % p=v
theorem nR (a e p:Nat):a^e % p=((a*a % p)^(e / 2)*(if e % 2=1 then a else 1)) % p:=by
 have h1:a^e=(a*a)^(e / 2)*(if e % 2=1 then a else 1):=by
  have he:=Nat.div_add_mod e 2
  conv=>lhs;rw [← he]
  rw [Nat.pow_add,Nat.pow_mul,Nat.pow_two]
  rcases Nat.mod_two_eq_zero_or_one e with h | h <;> simp [h]
 rw [h1,Nat.mul_mod,Nat.pow_mod, ← Nat.mul_mod]
theorem nS {p k:Nat} (hk:k≤p) (hp:p<4294967296):(p+18446744073709551616 - k) % 18446744073709551616=p - k:=by omega
theorem PowR.start {p a e:Nat} (hp:0<p) (ha:a<p) (he:e<18446744073709551616):PowR p (a^e % p) (1 % p,a,e) :=
 ⟨Nat.mod_lt _ hp,ha,he,by show 1 % p*a^e % p=_;rw [Nat.mod_mul_mod,Nat.one_mul]⟩
theorem PowR.odd {p v r a e:Nat} (h:PowR p v (r,a,e)) (h1:e % 2=1):PowR p v (r*a % p,a*a % p,e / 2):=by
 have hp:0<p:=Nat.lt_of_le_of_lt (Nat.zero_le _) h.r
 have he:e<18446744073709551616:=h.e
 refine ⟨Nat.mod_lt _ hp,Nat.mod_lt _ hp,by show e / 2<_;omega,?_⟩
 have hv:r*a^e % p=v:=h.v
 show r*a % p*(a*a % p)^(e / 2) % p=v
 have hR:r*a^e % p=r*((a*a % p)^(e / 2)*a) % p:=by rw [Nat.mul_mod,nR a e p,if_pos h1, ← Nat.mul_mod]
 rw [← hv,hR,Nat.mod_mul_mod,Nat.mul_assoc,Nat.mul_comm a]
theorem PowR.even {p v r a e:Nat} (h:PowR p v (r,a,e)) (h1 : ¬ e % 2=1):PowR p v (r,a*a % p,e / 2):=by
 have hp:0<p:=Nat.lt_of_le_of_lt (Nat.zero_le _) h.r
 have he:e<18446744073709551616:=h.e
 refine ⟨h.r,Nat.mod_lt _ hp,by show e / 2<_;omega,?_⟩
 have hv:r*a^e % p=v:=h.v
 show r*(a*a % p)^(e / 2) % p=v
 rw [← hv,Nat.mul_mod r (a^e),nR a e p,if_neg h1,Nat.mul_one, ← Nat.mul_mod]
theorem PowR.done {p v r a:Nat} (h:PowR p v (r,a,0)):r=v:=by
 have hv:r*a^0 % p=v:=h.v
 rw [Nat.pow_zero,Nat.mul_one,Nat.mod_eq_of_lt h.r] at hv;exact hv
theorem rF {l:List Nat} {n p r:Nat} (hn:n<l.length) (hr:r=lv (l.drop (n+1)) % p):(r*4294967296+l.getD n 0) % p=lv (l.drop n) % p:=by
 rw [fc hn,hr,Nat.add_comm (l.getD n 0),Nat.mul_comm 4294967296,Nat.add_mod,Nat.mod_mul_mod, ← Nat.add_mod]
theorem tb {a:Int} {p:Nat} (hp:0<p) (hn:a<0) (h0:0<a.natAbs % p):p - a.natAbs % p=(a % (p:Int)).toNat:=by
 have:=(pB (Af:=a.natAbs) hp S).2
 have e : -((a.natAbs:Nat):Int)=a:=by omega
 rw [e] at this;rw [this]; rfl
theorem rG {a:Int} {p:Nat} (hp:0<p) (hn:a<0) (h0 : ¬ 0<a.natAbs % p):a.natAbs % p=(a % (p:Int)).toNat:=by
 have:=(pA (Af:=a.natAbs) hp S).2
 have e : -((a.natAbs:Nat):Int)=a:=by omega
 rw [e] at this;rw [this]; show _=0;omega
theorem tc {a:Int} {p:Nat} (hn : ¬ a<0):a.natAbs % p=(a % (p:Int)).toNat:=by
 have e:a=((a.natAbs:Nat):Int):=by omega
 conv=>rhs;rw [e, ← Int.natCast_emod]
 rfl
attribute [local irreducible] J PJ aF one slT cS bP bZ exT cR eP bf be slV VT.le Ret cm
theorem mX (x p:Nat) (hx:x<18446744073709551616) (hp0:0<p) (hp:p<18446744073709551616):Ok Try.prog 57 [one (.int .u64 x),one (.int .u64 p)] (one (.int .u64 ((x % p:Nat):Int))):=by
 refine Ok.enter Try.func57 Z Try.ntmps57 Z (fun w O => ?_)
 refine ae (ai (Am Z (Ao (aa (ae (ae (ai (Al Z (Ak (sF S (bW Z Z)) ?_)))))))))
 refine Ao (aa (az Z (au (aa (ae (ai (Al Z (Al Z (Ak (dW _ Z Z Z S) ?_)))))))))
 refine Am Z (Ao (aa (aC ?_)))
 refine aJ Try.results57 (.tmp Z A)
theorem td (p a b:Nat) (hp0:0<p) (hp:p<4294967296) (ha:a<4294967296) (hb:b≤a+p):Ok Try.prog 28 [one (.int .u64 p),one (.int .u64 a),one (.int .u64 b)] (one (.int .u64 (((a+p - b) % p:Nat):Int))):=by
 have hr:=mX (a+p - b) p S hp0 S
 refine Ok.enter Try.func28 Z Try.ntmps28 Z (fun w O => ?_)
 refine ae (ai (Am Z (Ao (aa (ae (ai (Al Z (Al Z (Ak (cL Z Z S) ?_)))))))))
 refine Al Z (Ak (eh Z Z S S) (Al Z ?_))
 refine Ak (aj (hr) Z ⟨(aq (by congr 1;omega)),A,Ap⟩) ?_
 refine Am Z (Ao (aa (aC ?_)))
 refine aJ Try.results28 (.tmp Z A)
theorem ig (p a b:Nat) (hp0:0<p) (hp:p<4294967296) (ha:a<4294967296) (hb:b<4294967296):Ok Try.prog 27 [one (.int .u64 p),one (.int .u64 a),one (.int .u64 b)] (one (.int .u64 ((a*b % p:Nat):Int))):=by
 have h64:=vh ha hb
 have hr:=mX (a*b) p h64 hp0 S
 refine Ok.enter Try.func27 Z Try.ntmps27 Z (fun w O => ?_)
 refine ae (ai (Am Z (Ao (aa (ae (ai (Al Z (Al Z (Ak (dK Z Z S) ?_)))))))))
 refine Al Z ?_
 refine Ak (aj (hr) Z ⟨A,A,Ap⟩) ?_
 refine Am Z (Ao (aa (aC ?_)))
 refine aJ Try.results27 (.tmp Z A)
theorem pE (p a e:Nat) (hp:p<4294967296) (ha:a<p) (he:e<18446744073709551616):Ok Try.prog 56 [one (.int .u64 p),one (.int .u64 a),one (.int .u64 e)] (one (.int .u64 ((a^e % p:Nat):Int))):=by
 have hp0:0<p:=by omega
 have hr:=mX 1 p Y hp0 S
 refine Ok.enter Try.func56 Z Try.ntmps56 Z (fun w O => ?_)
 refine ae (ai (Am Z (Ao (aa (ae (ai (Al Z ?_)))))))
 refine Ak (aj (hr) Z ⟨A,A,Ap⟩) ?_
 refine Am Z (Ao (aa (ae (aw (cl (Γ' := [(0,_),(1,_),(2,_),(6,_),(7,_)]) Ag (SubM.refl _) ?_)))))
 refine bA (σ:=Nat × Nat × Nat) (Γk := [(0,_),(6,_)]) Ag (fun s => [(7,one (.int .u64 (s.1:Nat))),(1,one (.int .u64 (s.2.1:Nat))),(2,one (.int .u64 (s.2.2:Nat)))]) (fun s M0=>M0) (fun s=>PowR p (a^e % p) s) (fun s=>s.2.2) ((1 % p,a,e)) (PowR.start hp0 ha he) Ah (.nil) (fun s hs => ?_)
 refine bS (Γ' := [(7,_),(1,_),(2,_),(0,_),(6,_)]) (M' := []) Z Z ?_
 obtain ⟨r,b,f⟩:=s
 dsimp only at hs ⊢
 have h1:r<p:=hs.r
 have h2:b<p:=hs.a
 have h3:f<18446744073709551616:=hs.e
 by_cases hf:f=0
 ·subst hf
  have:=hs.done
  subst this
  refine ae (ae (ai (Al Z (Ak (sF S (cT Z Z)) (Ao (aa (az Z (a6 (ay ?_)))))))))
  refine ay (aI (aa (ae (ai (Al Z (Am Z (Ao (aa (aC ?_)))))))))
  refine aJ Try.results56 (.tmp Z A)
 ·by_cases ho:f % 2=1
  ·have hst:=hs.odd ho
   refine ae (ae (ai (Al Z (Ak (sT S (cT Z Z)) (Ao (aa (aB Z (au (aa ?_)))))))))
   refine ae (aw (ae (ae (ai (Al Z (Ak (rq Z S) (Ak (sT S (bW Z Z)) (Ao (aa ?_)))))))))
   refine aB Z (ai (Al Z (Al Z (Al Z ?_))))
   refine Ak (aj (ig _ _ _ (by assumption) (by assumption) S S) Z ⟨A,A,A,Ap⟩) ?_
   refine Am Z (Ao (aa (ai (Al Z (Al Z (Al Z ?_))))))
   refine Ak (aj (ig _ _ _ (by assumption) (by assumption) S S) Z ⟨A,A,A,Ap⟩) ?_
   refine Am Z (Ao (aK (aa (ai (Al Z (Ak (iG (s:=1) Z Z Y) (Am Z (Ao ?_))))))))
   refine aN ((r*b % p,b*b % p,f / 2)) (hst) (by (simp only []; omega)) Ah (.nil)
  ·have hst:=hs.even ho
   refine ae (ae (ai (Al Z (Ak (sT S (cT Z Z)) (Ao (aa (aB Z (au (aa ?_)))))))))
   refine ae (aw (ae (ae (ai (Al Z (Ak (rq Z S) (Ak (sF S (bW Z Z)) (Ao (aa ?_)))))))))
   refine az Z (au (aa (ai (Al Z (Al Z (Al Z ?_))))))
   refine Ak (aj (ig _ _ _ (by assumption) (by assumption) S S) Z ⟨A,A,A,Ap⟩) ?_
   refine Am Z (Ao (aK (aa (ai (Al Z (Ak (iG (s:=1) Z Z Y) (Am Z (Ao ?_))))))))
   refine aN ((r,b*b % p,f / 2)) (hst) (by (simp only []; omega)) Ah (.nil)
theorem te (p a:Nat) (hp2:2≤p) (hp:p<4294967296) (ha0:a≠0) (ha:a<p):Ok Try.prog 25 [one (.int .u64 p),one (.int .u64 a)] (bZ [one (.int .u64 ((a^(p - 2) % p:Nat):Int)),one (.int .i64 0)]):=by
 have hpw:=pE p a (p - 2) hp ha S
 refine Ok.enter Try.func25 Z Try.ntmps25 Z (fun w O => ?_)
 refine ae (ai (Am Z (Am Z (Ao (aa (ae (ae (ai (Al Z ?_)))))))))
 refine Ak (sF S (bW Z Z)) (Ao (aa (az Z (au (aa (ae (ai (Al Z (Al Z ?_)))))))))
 refine Al Z (Ak (eh Z Z S Y) ?_)
 refine Ak (aj (hpw) Z ⟨A,A,(aq (by rw [nS hp2 hp])),Ap⟩) ?_
 refine Am Z (Am Z (Ao (aa (aC ?_))))
 refine de Try.results25 (.tmp Z A) (.tmp Z A)
theorem iL (p:Nat) (a:Int) (hp0:0<p) (hp:p<4294967296) (ha:a4 a):Ok Try.prog 26 [one (.int .u64 p),aS a] (one (.int .u64 (((a % (p:Int)).toNat:Nat):Int))):=by
 have hva:=bh a.natAbs
 have hla:=aG a.natAbs
 have ha':(ax a.natAbs).length≤1099511627776:=ha
 unfold aS
 generalize ax a.natAbs=l at *
 refine Ok.enter Try.func26 Z Try.ntmps26 Z (fun w O => ?_)
 refine ae (ai ?_)
 refine aO Z Z (ltN Z) (fun b3 => ?_)
 refine Am Z (Ao (aa (ae (ai (Am Z (Ao (aa (ae (ae ?_)))))))))
 refine ai (Ak (am Z) (Ak (ak 0 Z Z Z) (Ak (aM Z) (Ak (dE Z Z (aT S S)) (Am Z (Ao (aa (aw (cl (Γ' := [(0,_),(3,_),(4,_),(5,_),(6,_)]) Ag (SubM.refl _) ?_)))))))))
 refine bA (σ:=Nat × Nat) (Γk := [(0,_),(3,_),(4,_)]) Ag (fun s => [(6,one (.int .i64 ((s.1:Nat) - 1:Int))),(5,one (.int .u64 (s.2:Nat)))]) (fun s M0=>M0) (fun s=>s.1≤l.length∧s.2=lv (l.drop s.1) % p) (fun s=>s.1) ((l.length,0)) (by (exact ⟨Nat.le_refl _,by rw [List.drop_length]; exact (Nat.zero_mod p).symm⟩)) Ah (.keep Aj (.nil)) (fun s hs => ?_)
 refine bS (Γ' := [(6,_),(5,_),(0,_),(3,_),(4,_)]) (M' := [_]) Z Z ?_
 obtain ⟨n,r⟩:=s
 dsimp only at hs ⊢
 obtain ⟨hn,hr⟩:=hs
 have hrp:r<p:=by rw [hr]; exact Nat.mod_lt _ hp0
 cases n with
 | zero =>
  rw [List.drop_zero,hva] at hr
  subst hr
  by_cases hneg:a<0
  ·by_cases h0:0<a.natAbs % p
   ·refine ae (ae (ai (Al Z (Ak (sF S (dC Z Z)) (Ao (aa (az Z (a6 (ay ?_)))))))))
    refine ay (aI (aa (ae (ae (ai (Ak (am Z) (Ak (sT (by assumption) (ak 0 Z Z Z)) (Al Z (An (ab Z) ?_)))))))))
    refine An (sT S (cT Z Z)) (Ak (a9 Z Z) (Ao (aa (aB Z (ai (Al Z (Al Z (Ak (eh Z Z S S) (Am Z ?_)))))))))
    refine Ao (aa (ae (ai (Al Z (Am Z (Ao (aa (aC ?_))))))))
    refine aJ Try.results26 (.tmp Z (aq (by rw [nS (Nat.le_of_lt hrp) hp,tb hp0 hneg h0])))
   ·refine ae (ae (ai (Al Z (Ak (sF S (dC Z Z)) (Ao (aa (az Z (a6 (ay ?_)))))))))
    refine ay (aI (aa (ae (ae (ai (Ak (am Z) (Ak (sT (by assumption) (ak 0 Z Z Z)) (Al Z (An (ab Z) ?_)))))))))
    refine An (sF S (cT Z Z)) (Ak (a9 Z Z) (Ao (aa (az Z (au (aa (ae (ai (Al Z ?_)))))))))
    refine Am Z (Ao (aa (aC ?_)))
    refine aJ Try.results26 (.tmp Z (aq (by rw [rG hp0 hneg h0])))
  ·refine ae (ae (ai (Al Z (Ak (sF S (dC Z Z)) (Ao (aa (az Z (a6 (ay ?_)))))))))
   refine ay (aI (aa (ae (ae (ai (Ak (am Z) (Ak (sF (by assumption) (ak 0 Z Z Z)) (Al Z (sg0 Z Z Z Z ?_)))))))))
   refine sg0 Z Z Z Z (Ak (aY Z Z) (Ao (aa (az Z (au (aa (ae (ai (Al Z ?_)))))))))
   refine Am Z (Ao (aa (aC ?_)))
   refine aJ Try.results26 (.tmp Z (aq (by rw [tc hneg])))
 | succ n =>
  have hx:=aL hla n
  have hst:=rF (p:=p) (show n<l.length by omega) hr
  have hb:r*4294967296+l.getD n 0<18446744073709551616:=by omega
  have hrm:=mX (r*4294967296+l.getD n 0) p hb hp0 S
  have en:((n+1:Nat):Int) - 1=(n:Nat):=by omega
  rw [en]
  refine ae (ae (ai (Al Z (Ak (sT S (dC Z Z)) (Ao (aa (aB Z (au (aa ?_)))))))))
  refine ae (aw (ai (Al Z (Ak (mI Z S) (Ak (am Z) (Ak (ak 0 Z Z Z) (Al Z (Ak (ar Z Z S) (Ak (aE Z) ?_)))))))))
  refine Ak (bc Z S) (Ak (iE Z Z S S) (Al Z ?_))
  refine Ak (aj (hrm) Z ⟨A,A,Ap⟩) ?_
  refine Am Z (Ao (aK (aa (ai (Al Z (Ak (dE Z Z (aT S S)) (Am Z (Ao ?_))))))))
  refine aN ((n,(r*4294967296+l.getD n 0) % p)) (⟨by omega,hst⟩) S Ah (.keep Aj (.nil))
end Tor
end
section
namespace Tor
open Go Go.RowKit Go.Proofs
def ca:Nat→Nat→Nat→Nat × Nat
 | 0, o, t => (o, t)
 | f + 1, o, t => if o % 2 = 0 then ca f (o / 2) (t + 1) else (o, t)
def sqrF (n:Nat):Nat→Nat→Bool
 | 0, _ => false
 | c + 1, x => if x * x % n = n - 1 then true else sqrF n c (x * x % n)
def er (n:Nat) (O T b:Nat):Bool:=decide (b^O % n=1) || decide (b^O % n=n - 1) || sqrF n (T - 1) (b^O % n)
def dj (j:Nat):Nat := [2,3,5,7].getD j 0
def f9 (n O T:Nat):Nat→Nat→Bool
 | 0, _ => true
 | c + 1, j => if n = dj j then true else er n O T (dj j) && f9 n O T c (j + 1)
def bT (n:Nat):Bool:=if n<2∨2147483648≤n then false else if n % 2=0 then decide (n=2) else
 f9 n (ca 32 (n - 1) 0).1 (ca 32 (n - 1) 0).2 4 0
theorem iM : ∀ (f o t:Nat),0<o→o<2^f→(ca f o t).1 % 2=1∧0<(ca f o t).1∧(ca f o t).1≤o∧(ca f o t).2≤t+f
 | 0, o, t, h1, h2 => by simp at h2; omega
 | f + 1, o, t, h1, h2 => by
  rw [ca]
  split
  ·have:=iM f (o / 2) (t+1) S (by rw [Nat.pow_succ] at h2;omega)
   omega
  ·simp only;omega
theorem jf (j:Nat):dj j≤7∧(j<4→2≤dj j):=by
 unfold dj
 match j with
 | 0 => decide
 | 1 => decide
 | 2 => decide
 | 3 => decide
 | j + 4 => simp
structure BasR (n:Nat) (O T i:Nat):Prop where
 le:i≤4
 ne : ∀ j,j<i→n≠dj j
 eq:f9 n O T 4 0=f9 n O T (4 - i) i
theorem BasR.next {n O T i:Nat} (h:BasR n O T i) (hi:i<4) (hn:n≠dj i) (hs:er n O T (dj i)=true):BasR n O T (i+1):=by
 refine ⟨hi,fun j hj => ?_,?_⟩
 ·rcases Nat.lt_or_eq_of_le (Nat.lt_succ_iff.1 hj) with h' | h'
  ·exact h.ne j h'
  ·rw [h']; exact hn
 ·rw [h.eq,show 4 - i=(4 - (i+1))+1 by omega,f9,if_neg hn,hs]; rfl
theorem BasR.hit {n O T i:Nat} (h:BasR n O T i) (hi:i<4) (hn:n=dj i):f9 n O T 4 0=true:=by
 rw [h.eq,show 4 - i=(4 - (i+1))+1 by omega,f9,if_pos hn]
theorem BasR.miss {n O T i:Nat} (h:BasR n O T i) (hi:i<4) (hn:n≠dj i) (hs:er n O T (dj i)=false):f9 n O T 4 0=false:=by
 rw [h.eq,show 4 - i=(4 - (i+1))+1 by omega,f9,if_neg hn,hs]; rfl
theorem BasR.end {n O T:Nat} (h:BasR n O T 4):f9 n O T 4 0=true:=by rw [h.eq]; rfl
theorem BasR.lt {n O T i:Nat} (h:BasR n O T i) (hi:i<4) (hn:n≠dj i) (h2:2<n) (ho:n % 2=1):dj i<n:=by
 have h0:=h.ne
 match i,hi with
 | 0, _ => show 2 < n; omega
 | 1, _ => have : n ≠ 3 := hn; show 3 < n; omega
 | 2, _ => have : n ≠ 5 := hn; have : n ≠ 3 := h0 1 S; show 5 < n; omega
 | 3, _ => have : n ≠ 7 := hn; have : n ≠ 3 := h0 1 S; have : n ≠ 5 := h0 2 S; show 7 < n; omega
attribute [local irreducible] J PJ aF one slT cS bP bZ exT cR eP bf be slV VT.le Ret cm
set_option maxRecDepth 20000 in
theorem qo (n:Nat) (hn64:n<18446744073709551616):Ok Try.prog 53 [one (.int .u64 n)] (one (.bool (bT n))):=by
 refine Ok.enter Try.func53 Z Try.ntmps53 Z (fun w O => ?_)
 unfold bT
 by_cases h1:n<2
 ·rw [if_pos (.inl h1)]
  refine ae (ai (Am Z (Ao (aa (iQ (ae (ae (ai (Al Z ?_)))))))))
  refine Ak (sT S (bp Z Z)) (Al Z (sg0 Z Z Z Z (sg0 Z Z Z Z (Ak (a9 Z Z) (Ao (aa (aB Z (ae (ai ?_)))))))))
  refine Am Z (Ao (aa (aC (aD (eN ?_)))))
  refine aJ Try.results53 (.tmp Z A)
 ·by_cases h2:2147483648≤n
  ·rw [if_pos (.inr h2)]
   refine ae (ai (Am Z (Ao (aa (iQ (ae (ae (ai (Al Z ?_)))))))))
   refine Ak (sF S (bp Z Z)) (Al Z (An (ab Z) (An (sT S (dC Z Z)) (Ak (aY Z Z) (Ao (aa (aB Z (ae (ai ?_)))))))))
   refine Am Z (Ao (aa (aC (aD (eN ?_)))))
   refine aJ Try.results53 (.tmp Z A)
  ·rw [if_neg S]
   by_cases h3:n % 2=0
   ·rw [if_pos h3]
    refine ae (ai (Am Z (Ao (aa (iQ (ae (ae (ai (Al Z ?_)))))))))
    refine Ak (sF S (bp Z Z)) (Al Z (An (ab Z) (An (sF S (dC Z Z)) (Ak (aY Z Z) (Ao (aa (az Z (au (aa ?_)))))))))
    refine ae (ae (ai (Al Z (Ak (dW 2 Z Z Z Y) (Ak (sT S (bW Z Z)) (Ao (aa (aB Z (ae ?_)))))))))
    refine ai (Al Z (Ak (bW Z Z) (Am Z (Ao (aa (aC (aD (eN ?_))))))))
    refine aJ Try.results53 (.tmp Z (aq (by congr 1;rw [decide_eq_decide]; omega)))
   ·rw [if_neg h3]
    obtain ⟨s1,s2,s3,s4⟩:=iM 32 (n - 1) 0 S S
    have hST:ca 32 (n - 1) 0=((ca 32 (n - 1) 0).1,(ca 32 (n - 1) 0).2):=rfl
    generalize (ca 32 (n - 1) 0).1=OO at *
    generalize (ca 32 (n - 1) 0).2=TT at *
    have hn1:1≤n:=by omega
    refine ae (ai (Am Z (Ao (aa (iQ (ae (ae (ai (Al Z ?_)))))))))
    refine Ak (sF S (bp Z Z)) (Al Z (An (ab Z) (An (sF S (dC Z Z)) (Ak (aY Z Z) (Ao (aa (az Z (au (aa ?_)))))))))
    refine ae (ae (ai (Al Z (Ak (dW 2 Z Z Z Y) (Ak (sF S (bW Z Z)) (Ao (aa (az Z (au ?_)))))))))
    refine aa (ae (ai (Al Z (Ak (kP 1 Z Z S S) (Am Z (Am Z (Ao (aa (ae ?_)))))))))
    refine aw (cl (Γ' := [(0,_),(2,_),(3,_),(4,_)]) Ag (SubM.refl _) ?_)
    refine bA (σ:=Nat × Nat × Nat) (Γk := [(0,_),(2,_)]) Ag (fun p => [(3,one (.int .u64 (p.1:Nat))),(4,one (.int .i64 (p.2.1:Nat)))]) (fun p M0=>M0) (fun p=>ca p.2.2 p.1 p.2.1=(OO,TT)∧0<p.1∧p.1<2^p.2.2∧p.2.1+p.2.2=32) (fun p=>p.1) ((n - 1,0,32)) (⟨hST,(by omega:0<n - 1),(by omega:n - 1<2^32),rfl⟩) Ah (.nil) (fun p hp => ?_)
    refine bS (Γ' := [(3,_),(4,_),(0,_),(2,_)]) (M' := []) Z Z ?_
    obtain ⟨o,t,f⟩:=p
    dsimp only at hp ⊢
    obtain ⟨p1,p2,p3,p4⟩:=hp
    have ho31:o<4294967296:=Nat.lt_of_lt_of_le p3 (Nat.pow_le_pow_right (n:=2) Y (show f≤32 by omega))
    by_cases ho:o % 2=0
    ·have hf0:f≠0:=fun h=>by rw [h] at p3;simp at p3;omega
     obtain ⟨g,rfl⟩ : ∃ g,f=g+1:=⟨f - 1,by omega⟩
     rw [ca,if_pos ho] at p1
     have p5:o / 2<2^g:=by rw [Nat.pow_succ] at p3;omega
     refine ae (ae (ai (Al Z (Ak (dW 2 Z Z Z Y) (Ak (sT S (bW Z Z)) (Ao (aa (aB Z (au ?_)))))))))
     refine aa (aw (ae (ai (Al Z (Ak (gO Z Z S Y) (Am Z (Ao (aa (ai ?_)))))))))
     refine Al Z (Ak (bX _ 1 Z Z S) (Am Z (Ao (aK ?_))))
     refine aN ((o / 2,t+1,g)) (⟨p1,(by omega:0<o / 2),p5,(by omega:t+1+g=32)⟩) S Ah (.nil)
    ·have e2:ca f o t=(o,t):=by cases f <;> simp [ca,ho]
     rw [e2] at p1
     obtain ⟨rfl,rfl⟩:=Prod.mk.inj p1
     refine ae (ae (ai (Al Z (Ak (dW 2 Z Z Z Y) (Ak (sF S (bW Z Z)) (Ao (aa (az Z (a6 ?_)))))))))
     refine ay (ay (aI (aa (ae (pf (aa (ae (ae (ai ?_)))))))))
     refine stB Z Z Z (BuildK.cons Z Z Z (BuildK.cons Z Z Z (BuildK.cons Z Z Z (BuildK.cons Z Z Z (BuildK.nil (Al Z (Ao (aa (aw ?_)))))))))
     refine cl (Γ' := [(0,_),(2,_),(3,_),(4,_),(28,_),(29,_)]) Ag (SubM.refl _) ?_
     refine bA (σ:=Nat) (Γk := [(0,_),(3,_),(4,_),(28,_)]) Ag (fun i => [(29,one (.int .i64 (i:Nat)))]) (fun i M0=>M0) (fun i=>BasR n o t i) (fun i=>4 - i) (0) (⟨by decide,fun j hj=>absurd hj (Nat.not_lt_zero j),rfl⟩) Ah (.nil) (fun i hi => ?_)
     refine bS (Γ' := [(29,_),(0,_),(3,_),(4,_),(28,_)]) (M' := []) Z Z ?_
     have hile:=hi.le
     refine ae (ai (Ak (bp Z Z) (Ao (aa (ae ?_)))))
     refine mE Z (fun hc => ?_) (fun hc => ?_)
     ·have hi4:i<4:=by omega
      have hbl:=jf i
      refine au (aa (ae (aw (ae (ai ?_)))))
      refine Ak (qf (fun j=>one (.int .u64 (dj j:Nat))) Z Z hi4 (fun j hj=>by rcases (show j=0∨j=1∨j=2∨j=3 by omega) with rfl | rfl | rfl | rfl <;> rfl)) ?_
      refine Am Z (Ao (aa (ae (ae (ai (Al Z (Al Z (Ak (bW Z Z) (Ao ?_)))))))))
      refine aa ?_
      refine mE Z (fun hnb => ?_) (fun hnb => ?_)
      ·rw [hi.hit hi4 S]
       refine ae (ai (Am Z (Ao (aa (aC (aD (aZ (aD (aD ?_)))))))))
       refine aZ (aD (eN ?_))
       refine aJ Try.results53 (.tmp Z A)
      ·have hnb':n≠dj i:=by omega
       have hlt:=hi.lt hi4 hnb' S S
       have hpw:=pE n (dj i) o S hlt S
       have hxl:dj i^o % n<n:=Nat.mod_lt _ S
       have hss:er n o t (dj i)=(decide (dj i^o % n=1) || decide (dj i^o % n=n - 1) || sqrF n (t - 1) (dj i^o % n)):=rfl
       generalize dj i^o % n=x0 at *
       clear p3 p4 ho31 s3 e2 p1 hST
       by_cases c1:x0=1
       ·have hst:=hi.next hi4 hnb' (by rw [hss,decide_eq_true c1]; rfl)
        refine au (aa (ae (ai (Al Z (Al Z (Al Z ?_))))))
        refine Ak (aj (hpw) Z ⟨A,A,A,Ap⟩) ?_
        refine Am Z (Ao (aa (ae (ae (ai (Al Z (Ak (sT S (bW Z Z)) (Al Z (sg0 Z Z Z Z ?_)))))))))
        refine sg0 Z Z Z Z (sg0 Z Z Z Z (sg0 Z Z Z Z (Ak (a9 Z Z) (Ao (aa (aB Z (a6 (ay (aI ?_)))))))))
        refine aa (ai (Ak (bX _ 1 Z Z S) (Al Z (Ao ?_))))
        refine aN (i+1) (hst) S Ah (.nil)
       ·by_cases c2:x0=n - 1
        ·have hst:=hi.next hi4 hnb' (by rw [hss,decide_eq_true c2,Bool.or_true]; rfl)
         refine au (aa (ae (ai (Al Z (Al Z (Al Z ?_))))))
         refine Ak (aj (hpw) Z ⟨A,A,A,Ap⟩) ?_
         refine Am Z (Ao (aa (ae (ae (ai (Al Z (Ak (sF S (bW Z Z)) (Al Z (An (ab Z) ?_)))))))))
         refine An (ab Z) (An (kP 1 Z Z S S) (An (sT S (bW Z Z)) (Ak (aY Z Z) (Ao (aa (aB Z (a6 (ay (aI ?_)))))))))
         refine aa (ai (Ak (bX _ 1 Z Z S) (Al Z (Ao ?_))))
         refine aN (i+1) (hst) S Ah (.nil)
        ·rw [decide_eq_false c1,decide_eq_false c2] at hss
         simp only [Bool.false_or] at hss
         refine au (aa (ae (ai (Al Z (Al Z (Al Z ?_))))))
         refine Ak (aj (hpw) Z ⟨A,A,A,Ap⟩) ?_
         refine Am Z (Ao (aa (ae (ae (ai (Al Z (Ak (sF S (bW Z Z)) (Al Z (An (ab Z) ?_)))))))))
         refine An (ab Z) (An (kP 1 Z Z S S) (An (sF S (bW Z Z)) (Ak (aY Z Z) (Ao (aa (az Z (au (aa (ae ?_)))))))))
         refine ae (ai (Al Z (Ak (dE Z Z (aT S S)) (Al Z (Ao (aa (aw (cl (Γ' := [(0,_),(3,_),(4,_),(7,_),(28,_),(29,_),(48,_),(49,_)]) Ag (SubM.refl _) ?_))))))))
         refine bA (σ:=Nat × Nat) (Γk := [(0,_),(3,_),(4,_),(28,_),(29,_),(48,_)]) Ag (fun q => [(49,one (.int .i64 (q.1:Nat))),(7,one (.int .u64 (q.2:Nat)))]) (fun q M0=>M0) (fun q=>q.2<n∧sqrF n (t - 1) x0=sqrF n (t - 1 - q.1) q.2) (fun q=>t - 1 - q.1) ((0,x0)) (⟨hxl,rfl⟩) Ah (.nil) (fun q hq => ?_)
         refine bS (Γ' := [(49,_),(7,_),(0,_),(3,_),(4,_),(28,_),(29,_),(48,_)]) (M' := []) Z Z ?_
         obtain ⟨j,x⟩:=q
         dsimp only at hq ⊢
         obtain ⟨q1,q2⟩:=hq
         by_cases hj:j<t - 1
         ·rw [show t - 1 - j=(t - 1 - (j+1))+1 by omega,sqrF] at q2
          have hxx:x*x % n<n:=Nat.mod_lt _ S
          by_cases c3:x*x % n=n - 1
          ·rw [if_pos c3] at q2
           have hst:=hi.next hi4 hnb' (hss.trans q2)
           have e3:((x*x % n:Nat):Int)=((n - 1:Nat):Int):=by rw [c3]
           refine ae (ai (Ak (sT S (bp Z Z)) (Ao (aa (ae (aB Z (au (aa (ae ?_)))))))))
           refine aw (ae (ai (Al Z (Al Z (Al Z ?_)))))
           refine Ak (aj (ig _ _ _ (by assumption) S S S) Z ⟨A,A,A,Ap⟩) ?_
           refine Am Z (Ao (aa (ae (ai (Al Z (Al Z (Ak (kP 1 Z Z S S) (Ak (sT (by assumption) (bW Z Z)) (Ao ?_)))))))))
           refine aa (aB Z (a6 (ea Z (ay (ay (ea Z (ay (aI (aa ?_)))))))))
           refine ai (Ak (bX _ 1 Z Z S) (Al Z (Ao ?_)))
           refine aN (i+1) (hst) S Ah (.nil)
          ·rw [if_neg c3] at q2
           refine ae (ai (Ak (sT S (bp Z Z)) (Ao (aa (ae (aB Z (au (aa (ae ?_)))))))))
           refine aw (ae (ai (Al Z (Al Z (Al Z ?_)))))
           refine Ak (aj (ig _ _ _ (by assumption) S S S) Z ⟨A,A,A,Ap⟩) ?_
           refine Am Z (Ao (aa (ae (ai (Al Z (Al Z (Ak (kP 1 Z Z S S) (Ak (sF S (bW Z Z)) (Ao ?_)))))))))
           refine aa (az Z (au (aK (aa (ai (Ak (bX _ 1 Z Z S) (Al Z (Ao ?_))))))))
           refine aN ((j+1,x*x % n)) (⟨hxx,q2⟩) S Ah (.nil)
         ·have hf:er n o t (dj i)=false:=by rw [hss,q2,show t - 1 - j=0 by omega]; rfl
          rw [hi.miss hi4 hnb' hf]
          refine ae (ai (Ak (sF S (bp Z Z)) (Ao (aa (ae (az Z (a6 (ay (ay ?_)))))))))
          refine aI (aa (ae (ai (Am Z (Ao (aa (aC (aZ (aD ?_)))))))))
          refine aD (aZ (aD (eN ?_)))
          refine aJ Try.results53 (.tmp Z A)
     ·have:i=4:=by omega
      subst this
      rw [hi.end]
      refine a6 (ay (ay (aI (aa (ae (ai (Am Z (Ao (aa ?_)))))))))
      refine aC (eN ?_)
      refine aJ Try.results53 (.tmp Z A)
end Tor
end
section
namespace Tor
def iN:Nat→Nat→Nat→Nat→Nat→Nat
 | 0, _, r, _, _ => r
 | f + 1, p, r, a, e => if e = 0 then r else iN f p (if e % 2 = 1 then r * a % p else r) (a * a % p) (e / 2)
theorem mY : ∀ (f:Nat) {p v r a e:Nat},e<2^f→PowR p v (r,a,e)→iN f p r a e=v
 | 0, p, v, r, a, e, h, hR => by
  have:e=0:=by simpa using h
  subst this;exact hR.done
 | f + 1, p, v, r, a, e, h, hR => by
  rw [iN]
  by_cases h0:e=0
  ·subst h0;rw [if_pos Z]; exact hR.done
  ·rw [if_neg h0]
   have h2:e / 2<2^f:=by rw [Nat.pow_succ] at h;omega
   by_cases h1:e % 2=1
   ·rw [if_pos h1]; exact mY f h2 (hR.odd h1)
   ·rw [if_neg h1]; exact mY f h2 (hR.even h1)
def cW (n O T b:Nat):Bool:=decide (iN 64 n (1 % n) b O=1) || decide (iN 64 n (1 % n) b O=n - 1) || sqrF n (T - 1) (iN 64 n (1 % n) b O)
theorem qp {n O T b:Nat} (hb:b<n) (hO:O<18446744073709551616):er n O T b=cW n O T b:=by
 have:=mY 64 (e:=O) hO (PowR.start (p:=n) S hb hO)
 unfold er cW
 rw [this]
def mb (n O T:Nat):Nat→Nat→Bool
 | 0, _ => true
 | c + 1, j => if n = dj j then true else cW n O T (dj j) && mb n O T c (j + 1)
theorem pF {n O T:Nat} (h7:7<n) (hO:O<18446744073709551616) : ∀ c j,f9 n O T c j=mb n O T c j
 | 0, _ => rfl
 | c + 1, j => by
  have hb:=(jf j).1
  rw [f9,mb,qp S hO,pF h7 hO c (j+1)]
def oO (n:Nat):Bool:=if n<2∨2147483648≤n then false else if n % 2=0 then decide (n=2) else
 mb n (ca 32 (n - 1) 0).1 (ca 32 (n - 1) 0).2 4 0
theorem gW {n:Nat} (h7:7<n):bT n=oO n:=by
 unfold bT oO
 by_cases h1:n<2∨2147483648≤n
 ·rw [if_pos h1,if_pos h1]
 ·rw [if_neg h1,if_neg h1]
  by_cases h2:n % 2=0
  ·rw [if_pos h2,if_pos h2]
  ·rw [if_neg h2,if_neg h2]
   have:=iM 32 (n - 1) 0 S S
   exact pF h7 S 4 0
theorem jF:bT 2147483647=true:=by rw [gW Y]; decide +kernel
theorem jG:bT 2147483629=true:=by rw [gW Y]; decide +kernel
theorem nT:bT 65537=true:=by rw [gW Y]; decide +kernel
theorem nU : ∀ p ∈ [11,13,17,19,23,29,31,37,41,43,47],bT p=true:=fun p hp=>by
 simp only [List.mem_cons,List.not_mem_nil,or_false] at hp
 rcases hp with rfl | rfl | rfl | rfl | rfl | rfl | rfl | rfl | rfl | rfl | rfl <;> (rw [gW Y]; decide +kernel)
theorem nV : ∀ p ∈ [2,3,5,7],bT p=true:=by decide +kernel
end Tor
end
section
namespace Tor
open Go Go.RowKit Go.Proofs
def jX (v:Nat):Nat:=if v=0 then 0 else 32*((ax v).length - 1)+fB ((ax v).getD ((ax v).length - 1) 0)
attribute [local irreducible] J PJ aF one slT cS bP bZ exT cR eP bf be slV VT.le Ret cm
end Tor
end
