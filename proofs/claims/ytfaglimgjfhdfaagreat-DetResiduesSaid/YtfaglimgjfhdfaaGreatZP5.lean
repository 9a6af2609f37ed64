/-
  Theorems that the proofs of laws of this seat rest on.
  No condition.
-/
import Derived.Test.YtfaglimgjfhdfaaGreatZP4
set_option maxHeartbeats 20000000
set_option linter.unusedVariables false
set_option linter.unusedSimpArgs false
set_option linter.unusedSectionVars false
section
namespace Tor
open Go Go.RowKit Go.Proofs
variable [Tor.Co.Kc]
structure RTimesR (lx ly zz:List Nat) (i:Nat):Prop where
 le:i≤lx.length
 len:zz.length=lx.length+ly.length+1
 lim:bv zz
 zero : ∀ k,i+ly.length≤k→zz.getD k 0=0
 val:lv zz=lv (lx.take i)*lv ly
structure RTimesI (lx ly z0 zz:List Nat) (i j c:Nat):Prop where
 le:j≤ly.length+1
 top:ly.length<j→c=0
 len:zz.length=lx.length+ly.length+1
 lim:bv zz
 zero : ∀ k,i+ly.length<k→zz.getD k 0=0
 zer1:j≤ly.length→zz.getD (i+ly.length) 0=0
 c1:c<4294967296
 val:lv zz+4294967296^(i+j)*c=lv z0+4294967296^i*(lx.getD i 0*lv (ly.take j))
theorem RTimesI.step {lx ly z0 zz:List Nat} {i j c:Nat} (h:RTimesI lx ly z0 zz i j c) (hx:bv lx) (hy:bv ly) (hi:i<lx.length) (hgo:j<ly.length∨0<c) :
  RTimesI lx ly z0 (zz.set (i+j) ((c+zz.getD (i+j) 0+lx.getD i 0*ly.getD j 0) % 4294967296)) i (j+1) ((c+zz.getD (i+j) 0+lx.getD i 0*ly.getD j 0) / 4294967296):=by
 have hj:j≤ly.length:=by have:=h.le;have:=h.top;omega
 have hlim:=kQ (aY hx i) (aY hy j) (aY h.lim (i+j)) h.c1
 have hlt:i+j<zz.length:=by rw [h.len]; omega
 refine ⟨by omega,fun ht => ?_,by rw [List.length_set]; exact h.len,h.lim.set X,fun k hk => ?_,fun hk => ?_,by omega,?_⟩
 ·have e:j=ly.length:=by omega
  subst e
  rw [h.zer1 (Nat.le_refl _)]
  have e2:ly.getD ly.length 0=0:=by simp
  rw [e2,Nat.mul_zero]
  have:=h.c1;omega
 ·rw [dJ hlt,if_neg X]; exact h.zero k hk
 ·rw [dJ hlt,if_neg X]; exact h.zer1 X
 ·have hs:=fL (l:=zz) (k:=i+j) (v:=(c+zz.getD (i+j) 0+lx.getD i 0*ly.getD j 0) % 4294967296) hlt
  have hv:=h.val
  rw [gG]
  generalize lx.getD i 0=x at *
  generalize ly.getD j 0=y at *
  generalize zz.getD (i+j) 0=z at *
  have e:c+z+x*y=4294967296*((c+z+x*y) / 4294967296)+(c+z+x*y) % 4294967296:=by omega
  generalize (c+z+x*y) / 4294967296=q at *
  generalize (c+z+x*y) % 4294967296=r at *
  rw [show i+(j+1)=(i+j)+1 by omega,Nat.pow_succ]
  have eB:4294967296^i*4294967296^j=4294967296^(i+j):=(Nat.pow_add _ _ _).symm
  have e3:4294967296^i*(x*(lv (ly.take j)+4294967296^j*y))=4294967296^i*(x*lv (ly.take j))+4294967296^(i+j)*(x*y):=by
   rw [Nat.mul_add,Nat.mul_add, ← eB]
   congr 1
   rw [Nat.mul_assoc]; congr 1
   rw [Nat.mul_left_comm]
  rw [e3]
  generalize 4294967296^(i+j)=B at *
  have e2:B*(c+z+x*y)=B*(4294967296*q+r):=by rw [e]
  simp only [Nat.mul_add, ← Nat.mul_assoc] at e2 ⊢ hs hv
  omega
theorem RTimesR.start {lx ly z0:List Nat} {i:Nat} (h:RTimesR lx ly z0 i):RTimesI lx ly z0 z0 i 0 0 :=
 ⟨Nat.zero_le _,fun _=>rfl,h.len,h.lim,fun k hk=>h.zero k X,fun _=>h.zero _ (Nat.le_refl _),by omega,by simp [lv]⟩
theorem RTimesI.finish {lx ly z0 zz:List Nat} {i j:Nat} (h0:RTimesR lx ly z0 i) (h:RTimesI lx ly z0 zz i j 0) (hj:ly.length≤j) (hi:i<lx.length):RTimesR lx ly zz (i+1):=by
 refine ⟨hi,h.len,h.lim,fun k hk=>h.zero k X,?_⟩
 have hv:=h.val
 rw [Nat.mul_zero,Nat.add_zero,List.take_of_length_le hj,h0.val] at hv
 rw [hv,bF hi,Nat.add_mul,Nat.mul_assoc]
attribute [local irreducible] J PJ aJ one slT bL bG bD exT cn eP aU aN slV VT.le Ret bS
attribute [local irreducible] aP
theorem zh (n1 n2:Bool) (v1 v2:Nat) (h1:(aC v1).length≤1099511627776) (h2:(aC v2).length≤1099511627776):Ok Tryz.prog 16 [sgT n1 v1,sgT n2 v2] (aP (sv n1 v1*sv n2 v2)):=by
 unfold sgT
 refine Ok.enter Tryz.func16 Z Tryz.ntmps16 Z (fun w O => ?_)
 have hx:=aX v1
 have hy:=aX v2
 have hva:=bN v1
 have hvb:=bN v2
 generalize aC v1=lx at *
 generalize aC v2=ly at *
 refine ae (ai ?_)
 refine bm Z Z (ltN Z) (fun b => ?_)
 refine bm Z Z (ltN Z) (fun b => ?_)
 refine aD (T:=28) Z (ltN Z) (fun b => ?_)
 refine CJ (aa (ae (ai (CF (aj Z) (CF (ak 2 Z Z Z) (CF (aW Z) (CF (aj Z) (CF (ak 1 Z Z Z) (CF (aW Z) ?_)))))))))
 (refine CF (cG Z Z (aO ?_ ?_)) ?_;omega;omega)
 (refine CF (cG Z Z (aO ?_ ?_)) ?_;omega;omega)
 rename_i ba bb
 refine co (lx.length+ly.length+1) (lx.length+ly.length+1) Z Z (by simp) (by simp) (Nat.le_refl _) Z Z X Z Z (fun bz => ?_)
 refine CH Z (CJ (aa (ae (ae (ai (CH Z (CJ (aa (av ?_)))))))))
 refine c8 (σ:=List Nat × Nat) (fun s => [(2,one (.pointer (some ⟨ba,0,none⟩))),(3,one (.pointer (some ⟨bb,0,none⟩))),(4,one (.pointer (some ⟨b,0,none⟩))),(5,one (slV (some bz) (lx.length+ly.length+1) (lx.length+ly.length+1))),(6,one (.int .i64 (s.2:Nat)))])
   (fun s => [aN (some bz) 83 .one (lx.length+ly.length+1) (lx.length+ly.length+1) (fun q=>one (.int .u32 (s.1.getD q 0:Nat))),aU b 28 2 [(0, .agg 2,one (.agg #[.bool false, .slice none 0 0]))],aU bb 28 2 [(0, .one,one (.bool n2)),(1, .one,cd ly)],aU ba 28 2 [(0, .one,one (.bool n1)),(1, .one,cd lx)]])
   (fun s=>RTimesR lx ly s.1 s.2) (fun s=>lx.length - s.2) (List.replicate (lx.length+ly.length+1) 0,0)
   ⟨Nat.zero_le _,by simp,bv.replicate _,fun k _=>cm _ _,by simp [dB,lv]⟩ CB (.keep (bW (fun q _=>by rw [cm]; rfl)) (SubM.refl _)) (fun s hR => ?_)
 obtain ⟨z0,i⟩:=s
 simp only at hR ⊢
 refine ae (ae (ai (CG Z (CF (aj Z) (CF (ak 3 Z Z Z) (CF (aW Z) (CF (bq Z Z) (CJ (aa ?_)))))))))
 refine bw Z (fun hc => ?_) (fun hc => ?_) <;> simp at hc
 ·have g1:=aY hx i
  refine aw (aa (ae (av (ae (ai (CH Z (CJ (aa (ae ?_)))))))))
  refine ai (CH Z (CJ (aa (av ?_))))
  refine c8 (σ:=List Nat × Nat × Nat) (fun s => [(2,one (.pointer (some ⟨ba,0,none⟩))),(3,one (.pointer (some ⟨bb,0,none⟩))),(4,one (.pointer (some ⟨b,0,none⟩))),(5,one (slV (some bz) (lx.length+ly.length+1) (lx.length+ly.length+1))),(6,one (.int .i64 (i:Nat))),(7,one (.int .u64 (s.2.2:Nat))),(8,one (.int .i64 (s.2.1:Nat)))])
   (fun s => [aN (some bz) 83 .one (lx.length+ly.length+1) (lx.length+ly.length+1) (fun q=>one (.int .u32 (s.1.getD q 0:Nat))),aU b 28 2 [(0, .agg 2,one (.agg #[.bool false, .slice none 0 0]))],aU bb 28 2 [(0, .one,one (.bool n2)),(1, .one,cd ly)],aU ba 28 2 [(0, .one,one (.bool n1)),(1, .one,cd lx)]])
   (fun s=>RTimesI lx ly z0 s.1 i s.2.1 s.2.2) (fun s=>ly.length+1 - s.2.1) (z0,0,0)
   hR.start CB (SubM.refl _) (fun s hI => ?_)
  obtain ⟨zz,j,c⟩:=s
  simp only at hI ⊢
  have g0:=hI.c1
  have gj:=hI.le
  refine ae (ae ?_)
  refine fb (σ:=Unit) (fun _ => [(2,one (.pointer (some ⟨ba,0,none⟩))),(3,one (.pointer (some ⟨bb,0,none⟩))),(4,one (.pointer (some ⟨b,0,none⟩))),(5,one (slV (some bz) (lx.length+ly.length+1) (lx.length+ly.length+1))),(6,one (.int .i64 (i:Nat))),(7,one (.int .u64 (c:Nat))),(8,one (.int .i64 (j:Nat))),(33,one (.bool (decide (j<ly.length∨0<c))))])
   (fun _ => [aN (some bz) 83 .one (lx.length+ly.length+1) (lx.length+ly.length+1) (fun q=>one (.int .u32 (zz.getD q 0:Nat))),aU b 28 2 [(0, .agg 2,one (.agg #[.bool false, .slice none 0 0]))],aU bb 28 2 [(0, .one,one (.bool n2)),(1, .one,cd ly)],aU ba 28 2 [(0, .one,one (.bool n1)),(1, .one,cd lx)]]) (fun _=>True) ?_ (fun _ _ => ?_)
  ·refine ai (CG Z (CF (aj Z) (CF (ak 2 Z Z Z) (CF (aW Z) (CF (bq Z Z) (CG Z ?_))))))
   refine mY (t:=29) Z (fun bo hb => ?_)
   rw [hb]
   cases bo
   ·simp at hb
    refine CI (ab Z) (CI (dh Z Z) (CF (bK Z Z) (CJ ?_)))
    exact cJ () trivial (.cons Z A (.cons Z A (.cons Z A (.cons Z A (.cons Z A (.cons Z A (.cons Z A (.cons Z (ao (by congr 1;rw [decide_eq_decide]; omega)) .nil)))))))) (SubM.refl _)
   ·simp at hb
    refine sg0 Z Z Z Z (sg0 Z Z Z Z (CF (bp Z Z) (CJ ?_)))
    exact cJ () trivial (.cons Z A (.cons Z A (.cons Z A (.cons Z A (.cons Z A (.cons Z A (.cons Z A (.cons Z (ao (by simp;omega)) .nil)))))))) (SubM.refl _)
  ·refine aa ?_
   refine bw Z (fun hc2 => ?_) (fun hc2 => ?_) <;> simp only [decide_eq_true_eq,decide_eq_false_iff_not] at hc2
   ·have hstep:=hI.step hx hy hc hc2
    have hjl:j≤ly.length:=by have:=hI.top;omega
    have g2:=aY hy j
    have g3:=aY hI.lim (i+j)
    have g4:=kQ g1 g2 g3 g0
    have hlt:i+j<zz.length:=by rw [hI.len]; omega
    refine aw (aa (ae (av (ae (ai (CG Z (CG Z (CG Z (CG Z ?_)))))))))
    (refine CF (cG Z Z (aO ?_ ?_)) ?_;omega;omega)
    (refine CF (ay Z Z ?_) ?_;omega)
    (refine CF (cf 0 Z Z ?_) ?_;omega)
    (refine CF (bH Z ?_) ?_;omega)
    (refine CF (di Z Z ?_) ?_;omega)
    refine CH Z (CJ (aa (ae (ae (ai (CG Z (CF (aj Z) (CF (ak 2 Z Z Z) (CF (aW Z) ?_)))))))))
    refine CF (bq Z Z) (CJ (aa ?_))
    refine fb (σ:=Unit) (fun _ => [(2,one (.pointer (some ⟨ba,0,none⟩))),(3,one (.pointer (some ⟨bb,0,none⟩))),(4,one (.pointer (some ⟨b,0,none⟩))),(5,one (slV (some bz) (lx.length+ly.length+1) (lx.length+ly.length+1))),(6,one (.int .i64 (i:Nat))),(7,one (.int .u64 (c+zz.getD (i+j) 0+lx.getD i 0*ly.getD j 0:Nat))),(8,one (.int .i64 (j:Nat)))])
     (fun _ => [aN (some bz) 83 .one (lx.length+ly.length+1) (lx.length+ly.length+1) (fun q=>one (.int .u32 (zz.getD q 0:Nat))),aU b 28 2 [(0, .agg 2,one (.agg #[.bool false, .slice none 0 0]))],aU bb 28 2 [(0, .one,one (.bool n2)),(1, .one,cd ly)],aU ba 28 2 [(0, .one,one (.bool n1)),(1, .one,cd lx)]]) (fun _=>True) ?_ (fun _ _ => ?_)
    ·refine bw Z (fun hc3 => ?_) (fun hc3 => ?_) <;> simp only [decide_eq_true_eq,decide_eq_false_iff_not] at hc3
     ·skip
      refine bh 16 a8 Y U (CG Z (CF (aj Z) (CF (ak 3 Z Z Z) (CG Z ?_))))
      (refine CF (aE Z Z ?_) ?_;omega)
      refine CF (aV Z) ?_
      (refine CF (bH Z ?_) ?_;omega)
      refine CF (aj Z) (CF (ak 2 Z Z Z) (CG Z ?_))
      (refine CF (aE Z Z ?_) ?_;omega)
      refine CF (aV Z) ?_
      (refine CF (bH Z ?_) ?_;omega)
      (refine CF (fc Z Z ?_) ?_;omega)
      (refine CF (di Z Z ?_) ?_;omega)
      refine CH Z (CJ (CJ ?_))
      exact cJ () trivial CB (SubM.refl _)
     ·have e0:ly.getD j 0=0:=by simp [List.getElem?_eq_none (show ly.length≤j by omega)]
      refine aw ?_
      refine cJ () trivial ?_ (SubM.refl _)
      rw [e0,Nat.mul_zero,Nat.add_zero]
      exact CB
    ·refine aa (ae (ai (CG Z (CG Z (CG Z ?_)))))
     (refine CF (cG Z Z (aO ?_ ?_)) ?_;omega;omega)
     refine CG Z (CF (cw Z) ?_)
     (refine CF (ay Z Z ?_) ?_;omega)
     (refine aA 0 Z Z Z ?_ Z ?_;omega)
     refine CJ (aa (ai (CG Z ?_)))
     (refine CF (t6 Z ?_) ?_;omega)
     refine CH Z (CJ (aL (aa (ai (CG Z ?_)))))
     (refine CF (cG Z Z (aO ?_ ?_)) ?_;omega;omega)
     refine CH Z (CJ ?_)
     refine cI (s:=(zz,j,c)) (zz.set (i+j) ((c+zz.getD (i+j) 0+lx.getD i 0*ly.getD j 0) % 4294967296),j+1,(c+zz.getD (i+j) 0+lx.getD i 0*ly.getD j 0) / 4294967296) hstep (by show ly.length+1 - (j+1)<ly.length+1 - j;omega) CB (.keep (bW (fun q hq => ?_)) (SubM.refl _))
     unfold upd;rw [dJ hlt]; split <;> rfl
   ·have hc0:c=0:=by omega
    subst hc0
    have hfin:=hI.finish hR X hc
    refine a6 (ax (ax (aM (aL (aa (ai (CG Z ?_)))))))
    (refine CF (cG Z Z (aO ?_ ?_)) ?_;omega;omega)
    refine CH Z (CJ ?_)
    exact cI (s:=(z0,i)) (zz,i+1) hfin (by show lx.length - (i+1)<lx.length - i;omega) CB (SubM.refl _)
 ·have hi:i=lx.length:=by have:=hR.le;omega
  refine a6 (ax (ax (aM (aa (ae (ai (CG Z (CF (aj Z) (CF (ak 3 Z Z Z) ?_)))))))))
  refine CF (aj Z) (CF (ak 2 Z Z Z) (CF (i5 Z Z) (gz (t:=74) (j:=0) Z Z ?_)))
  skip
  refine CF (am (cY _ (v1*v2)) Z ⟨VT.le_trans (ci (m:=z0.length) (ψ:=fun i=>one (.int .u32 (z0.getD i 0:Nat))) hR.len.symm (fun q hq=>rfl)) (gk (l:=z0) hR.lim ?_ ?_),A,CK⟩) ?_
  ·rw [hR.val,hi,List.take_length,hva,hvb]
  ·rw [hR.len]; omega
  refine au 0 Z Z Z Z Z (leN Z) Z (CJ (aa (aG ?_)))
  exact aQ Tryz.results16 (.cellB 0 Z Z Z (bV (by cases n1 <;> cases n2 <;> simp [sv,Int.neg_mul,Int.mul_neg])))
end Tor
end
section
namespace Tor
open Go Go.RowKit Go.Proofs
variable [Tor.Co.Kc]
def lQ (neg:Bool) (l:List Nat):VT:=bG 2 [(0, .one,one (.bool neg)),(1, .one,cd l)]
def ji (neg:Bool) (l:List Nat):Bool:=if l.length=0 then !neg else decide (l.getD (l.length - 1) 0≠0)
theorem xm (x:Int):VT.le (aP x) (lQ (decide (x<0)) (aC x.natAbs)):=VT.le_refl _
attribute [local irreducible] J PJ aJ one slT bL bG bD exT cn eP aU aN slV VT.le Ret bS
end Tor
end
section
namespace Tor
open Go Go.RowKit Go.Proofs
variable [Tor.Co.Kc]
def bO (x:Int):Prop:=(aC x.natAbs).length≤1099511627776
theorem cP {x:Int} (h:x.natAbs<2^2048):bO x:=by
 have:(aC x.natAbs).length≤64:=cz (Nat.lt_of_lt_of_le h V)
 unfold bO;omega
theorem gl (x y:Int) (hx:bO x) (hy:bO y):Ok Tryz.prog 86 [aP x,aP y] (aP (x+y)):=by
 have h:=xj (decide (x<0)) (decide (y<0)) x.natAbs y.natAbs hx hy
 rw [fl,fl] at h
 exact h.le ⟨d7 _,d7 _,CK⟩ A
theorem zi (x y:Int) (hx:bO x) (hy:bO y):Ok Tryz.prog 90 [aP x,aP y] (aP (x - y)):=by
 have h:=A4 (decide (x<0)) (decide (y<0)) x.natAbs y.natAbs hx hy
 rw [fl,fl] at h
 exact h.le ⟨d7 _,d7 _,CK⟩ A
theorem gm (x y:Int) (hx:bO x) (hy:bO y):Ok Tryz.prog 87 [aP x,aP y] (aP (x*y)):=by
 have h:=A5 (decide (x<0)) (decide (y<0)) x.natAbs y.natAbs hx hy
 rw [fl,fl] at h
 exact h.le ⟨d7 _,d7 _,CK⟩ A
theorem rh (x:Int):Ok Tryz.prog 132 [aP x] (one (.int .i64 (fm x))):=by
 have h:=pP (decide (x<0)) x.natAbs
 rw [fl] at h
 exact h.le ⟨d7 _,CK⟩ A
theorem jF (x y:Int):Ok Tryz.prog 89 [aP x,aP y] (one (.int .i64 (cK x y))):=by
 have h:=A6 (decide (x<0)) (decide (y<0)) x.natAbs y.natAbs
 rw [fl,fl] at h
 exact h.le ⟨d7 _,d7 _,CK⟩ A
theorem fp (x y:Int) (hx:bO x) (hy:bO y):Ok Tryz.prog 15 [aP x,aP y] (aP (x+y)):=by
 have h:=zg (decide (x<0)) (decide (y<0)) x.natAbs y.natAbs hx hy
 rw [fl,fl] at h
 exact h.le ⟨d7 _,d7 _,CK⟩ A
theorem fv (x y:Int) (hx:bO x) (hy:bO y):Ok Tryz.prog 16 [aP x,aP y] (aP (x*y)):=by
 have h:=zh (decide (x<0)) (decide (y<0)) x.natAbs y.natAbs hx hy
 rw [fl,fl] at h
 exact h.le ⟨d7 _,d7 _,CK⟩ A
def fZ (x:Int):Prop:=x.natAbs≤2^400
theorem ri {x y:Int} (hx:fZ x) (hy:fZ y):(x*y).natAbs≤2^800:=by
 rw [Int.natAbs_mul]
 exact Nat.le_trans (Nat.mul_le_mul hx hy) V
theorem fT {x:Int} {n:Nat} (h:x.natAbs≤n) (hn:n<2^2048):bO x:=cP (Nat.lt_of_le_of_lt h hn)
theorem cE {x:Int} (hx:fZ x):bO x:=fT hx V
def rj (x:Int):Prop:=(aC x.natAbs).length≤274877906944
theorem fZ.L {x:Int} (h:fZ x):rj x:=Nat.le_trans (cz (k:=64) (Nat.lt_of_le_of_lt h V)) U
theorem nt {x:Int} (h:rj x):bO x:=Nat.le_trans h U
theorem A7 {x:Int} {k:Nat} (h:(aC x.natAbs).length≤k):x.natAbs<4294967296^k:=Nat.lt_of_lt_of_le (dj _) (Nat.pow_le_pow_right U h)
theorem xn {x y:Int} {j k:Nat} (hx:(aC x.natAbs).length≤j) (hy:(aC y.natAbs).length≤k):(aC (x*y).natAbs).length≤j+k:=cz (by
 rw [Int.natAbs_mul,Nat.pow_add]
 have h1:=A7 hx
 have h2:=A7 hy
 exact Nat.lt_of_le_of_lt (Nat.mul_le_mul_left _ (Nat.le_of_lt h2)) (Nat.mul_lt_mul_of_pos_right h1 (Nat.pow_pos U)))
theorem rm {x y:Int} (hx:rj x) (hy:rj y):(aC (x*y).natAbs).length≤549755813888:=xn hx hy
theorem vr {x y:Int} (hx:rj x) (hy:rj y):bO (x*y):=Nat.le_trans (rm hx hy) U
theorem oL:bO 1:=cP V
theorem oM {x:Int} (h:bO x):bO (-x):=by unfold bO at *; rw [Int.natAbs_neg]; exact h
theorem pQ (φ:VT):VT.le φ bS:=fun _ _ _=>trivial
instance {neg:Bool} {l:List Nat} : Flat (lQ neg l) (.agg 2):=by unfold lQ;infer_instance
attribute [local irreducible] J PJ aJ one slT bL bG bD exT cn eP aU aN slV VT.le Ret bS
theorem xo (l:List Nat) (hl:l.length≤1099511627776):Ok Tryz.prog 167 [cd l] (cd l):=by
 unfold cd
 refine Ok.enter Tryz.func167 Z Tryz.ntmps167 Z (fun w O => ?_)
 refine ae (ai (CH Z (CJ (aa (ae (ae (ai (CG Z (CF (t9 Z) ?_)))))))))
 refine CJ (aa ?_)
 refine y4 (t:=4) Z (fun b => ?_)
 refine t3 (t:=4) Z (fun hb => ?_)
 refine bw Z (fun hc => ?_) (fun hc => ?_)
 ·have h0:=hb hc
  refine ae (ai (CH Z (CJ (aa (aG (aK ?_))))))
  refine aQ Tryz.results167 (.tmp Z (by (rw [h0]; exact gT)))
 ·refine aw (aa (ae (ai (mo (n:=0) Z Z Z Z Z ?_))))
  refine PartsK.nil (fun bl => ?_)
  refine CG Z ?_
  (refine cX 0 Z Z Z (leN Z) ?_ ?_ Z (ltN Z) (fun sv7 cap7 => ?_);omega;omega)
  refine CH Z (CJ (aa (aG (c4 (t:=2) (i:=0) Z Z ?_))))
  refine aQ Tryz.results167 (.tmp Z (ci (by simp) (fun i hi=>by simp)))
theorem cM {n:Nat} (h:(aC n).length≤1099511627776):VT.le (cd (aC n)) (np n):=gk (aX n) (bN n) X
theorem kW (x:Int) (hx:bO x):Ok Tryz.prog 31 [aP x] (aP (-x)):=by
 have hv:=(cY (!decide (x<0)) x.natAbs).le (eL _) (bV (y := -x) (by by_cases h:x<0 <;> simp [h] <;> omega))
 have hx:(aC x.natAbs).length≤1099511627776:=hx
 unfold aP at *
 refine Ok.enter Tryz.func31 Z Tryz.ntmps31 Z (fun w O => ?_)
 refine ae (ai ?_)
 refine bm Z Z (ltN Z) (fun b1 => ?_)
 refine aD (T:=28) Z (ltN Z) (fun b2 => ?_)
 refine CJ (aa (ae (ai (CF (aj Z) (CF (ak 1 Z Z Z) (CF (aj Z) (CF (ak 1 Z Z Z) (CF (cZ Z) ?_))))))))
 refine CF (am (hv) Z ⟨(cM hx),A,CK⟩) ?_
 refine au 0 Z Z Z Z Z (leN Z) Z (CJ (aa (aG ?_)))
 refine aQ Tryz.results31 (.cellB 0 Z Z Z A)
theorem dY (x:Int):Ok Tryz.prog 28 [aP x] (one (.int .i64 (fm x))):=by
 have h:=xk (decide (x<0)) x.natAbs
 rw [fl] at h
 exact h.le ⟨d7 _,CK⟩ A
theorem kX (x y:Int) (hx:bO x) (hy:bO y):Ok Tryz.prog 62 [aP x,aP y] (aP (x - y)):=by
 have hv:=(fp x (-y) hx (oM hy)).le (eL _) (bV (y:=x - y) X)
 refine Ok.enter Tryz.func62 Z Tryz.ntmps62 Z (fun w O => ?_)
 refine ae (ai ?_)
 refine bm Z Z (ltN Z) (fun b2 => ?_)
 refine bm Z Z (ltN Z) (fun b3 => ?_)
 refine aD (T:=28) Z (ltN Z) (fun b4 => ?_)
 refine CJ (aa (ae (bh 4 a8 Y U (CF (bB 2 Z Z) (CF (bB 1 Z Z) ?_)))))
 refine CF (am (kW _ (by assumption)) Z ⟨A,CK⟩) ?_
 refine CF (am (hv) Z ⟨A,A,CK⟩) ?_
 refine CJ (au 0 Z Z Z Z Z (leN Z) Z (CJ (aa (aG ?_))))
 refine aQ Tryz.results62 (.cellB 0 Z Z Z A)
theorem zj (x y:Int):fm (x - y)=cK x y:=by
 unfold fm cK
 by_cases h:x<y
 ·rw [if_neg X,if_pos X,if_pos h]
 ·by_cases h2:y<x
  ·rw [if_neg X,if_neg X,if_neg h,if_pos h2]
  ·rw [if_pos X,if_neg h,if_neg h2]
theorem nu (x y:Int) (hx:bO x) (hy:bO y):Ok Tryz.prog 37 [aP x,aP y] (one (.int .i64 (cK x y))):=by
 refine Ok.enter Tryz.func37 Z Tryz.ntmps37 Z (fun w O => ?_)
 refine ae (ai ?_)
 refine bm Z Z (ltN Z) (fun b2 => ?_)
 refine bm Z Z (ltN Z) (fun b3 => ?_)
 refine CH Z (CJ (aa (ae (ai (CF (bB 1 Z Z) (CF (bB 0 Z Z) ?_))))))
 refine CF (am (kX _ _ (by assumption) (by assumption)) Z ⟨A,A,CK⟩) ?_
 refine CF (am (dY _) Z ⟨A,CK⟩) ?_
 refine CH Z (CJ (aa (aG ?_)))
 refine aQ Tryz.results37 (.tmp Z (ao (by rw [zj])))
end Tor
end
section
namespace Tor
open Go Go.RowKit Go.Proofs
variable [Tor.Co.Kc]
def gH:Nat→Nat→Nat
 | 0, _ => 0
 | f + 1, x => if x = 0 then 0 else gH f (x / 2) + 1
def fw (x:Nat):Nat:=gH 64 x
theorem gI : ∀ (f x:Nat),x<2^f→x<2^gH f x∧(x=0→gH f x=0)∧(x≠0→0<gH f x∧2^(gH f x - 1)≤x)∧gH f x≤f
 | 0, x, h => by simp at h; subst h; simp [gH]
 | f + 1, x, h => by
  rw [gH]
  split
  ·rename_i h0;subst h0;simp
  ·rename_i h0
   have h1:x / 2<2^f:=by rw [Nat.pow_succ] at h;omega
   obtain ⟨i1,i2,i3,i4⟩:=gI f (x / 2) h1
   refine ⟨by rw [Nat.pow_succ]; omega,fun h=>absurd h h0,fun _=>⟨by omega,?_⟩,by omega⟩
   rw [Nat.add_sub_cancel]
   by_cases h2:x / 2=0
   ·rw [i2 h2]; simp;omega
   ·obtain ⟨j1,j2⟩:=i3 h2
    obtain ⟨m,hm⟩ : ∃ m,gH f (x / 2)=m+1:=⟨gH f (x / 2) - 1,by omega⟩
    rw [hm] at j2 ⊢
    rw [Nat.add_sub_cancel] at j2
    rw [Nat.pow_succ]; omega
theorem mI {x:Nat} (h:x<2^64):x<2^fw x:=(gI 64 x h).1
theorem pR {x:Nat} (h:x<2^64) (h0:x≠0):0<fw x∧2^(fw x - 1)≤x:=(gI 64 x h).2.2.1 h0
theorem vt {x n:Nat} (h:x<2^64) (h1:x<2^n) (h2:n=0∨2^(n - 1)≤x):fw x=n:=by
 obtain ⟨i1,i2,i3,_⟩:=gI 64 x h
 show gH 64 x=n
 by_cases h0:x=0
 ·rw [i2 h0]
  rcases h2 with h2 | h2
  ·exact h2.symm
  ·subst h0;have:=Nat.two_pow_pos (n - 1);omega
 ·obtain ⟨j1,j2⟩:=i3 h0
  rcases Nat.lt_trichotomy (gH 64 x) n with h3 | h3 | h3
  ·have:=Nat.pow_le_pow_right (n:=2) U (show gH 64 x≤n - 1 by omega)
   rcases h2 with h2 | h2
   ·omega
   ·omega
  ·exact h3
  ·have:=Nat.pow_le_pow_right (n:=2) U (show n≤gH 64 x - 1 by omega)
   omega
theorem gV {x n:Nat} (h:x<2^n) (hn:n≤64):fw x≤n:=by
 have hx:x<2^64:=Nat.lt_of_lt_of_le h (Nat.pow_le_pow_right U hn)
 by_cases h0:x=0
 ·have:=(gI 64 x hx).2.1 h0
  unfold fw;omega
 ·obtain ⟨j1,j2⟩:=pR hx h0
  rcases Nat.lt_or_ge n (fw x) with h3 | h3
  ·have:=Nat.pow_le_pow_right (n:=2) U (show n≤fw x - 1 by omega)
   omega
  ·exact h3
theorem nv {x k:Nat} (h:x<2^64) (hk:2^k≤x):fw x=k+fw (x / 2^k):=by
 have hp:=Nat.two_pow_pos k
 have hy:x / 2^k<2^64:=Nat.lt_of_le_of_lt (Nat.div_le_self _ _) h
 have hy0:x / 2^k≠0:=by
  have:=(Nat.le_div_iff_mul_le hp (x:=1) (y:=x)).2 X;omega
 obtain ⟨j1,j2⟩:=pR hy hy0
 have j3:=mI hy
 refine vt h ?_ (.inr ?_)
 ·rw [Nat.pow_add]
  have:=Nat.lt_mul_div_succ x hp
  exact Nat.lt_of_lt_of_le this (Nat.mul_le_mul_left _ j3)
 ·have e:k+fw (x / 2^k) - 1=(fw (x / 2^k) - 1)+k:=by omega
  rw [e,Nat.pow_add]
  exact Nat.le_trans (Nat.mul_le_mul_right _ j2) (Nat.div_mul_le_self x (2^k))
theorem nx {s:ByteArray} (h:((List.range 256).all fun i=>(s[i]?).map UInt8.toNat == some (fw i))=true) {i:Nat} (hi:i<256):(s[i]?).map UInt8.toNat=some (fw i):=by
 have:=List.all_eq_true.1 h i (List.mem_range.2 hi)
 simpa using this
attribute [local irreducible] J PJ aJ one slT bL bG bD exT cn eP aU aN slV VT.le Ret bS
theorem rn (x:Nat) (hx:x<4294967296):Ok Tryz.prog 154 [one (.int .u32 x)] (one (.int .i64 (fw x))):=by
 refine Ok.enter Tryz.func154 Z Tryz.ntmps154 Z (fun w O => ?_)
 have key : ∀ y:Nat,y<256→fw y≤8:=fun y hy=>gV (n:=8) X U
 by_cases h1:65536≤x
 ·have e1:=nv (k:=16) (x:=x) X X
  by_cases h2:256≤x / 2^16
  ·have e2:=nv (k:=8) (x:=x / 2^16) X X
   have k2:=key (x / 2^16 / 2^8) X
   refine ae (ai (CH Z (CJ (aa (ae (ae (ai (CG Z (CF (sT X (dF Z Z)) ?_)))))))))
   refine CJ (aa (aI Z (ae (ai (CG Z (CF (iB (s:=16) Z Z U) (CH Z (CJ (aa ?_)))))))))
   refine ai (CH Z (CJ (aa (ae (ae (ai (CG Z (CF (sT X (dF Z Z)) (CJ ?_)))))))))
   refine aa (aI Z (ae (ai (CG Z (CF (iB (s:=8) Z Z U) (CH Z (CJ (aa (ai ?_)))))))))
   refine CG Z (CF (cG Z Z (aO X X)) (CH Z (CJ (aa (ae (ai (CG Z (CG Z (CF (kM Z X X) ?_)))))))))
   refine CF (gB Y Z Z (nx V X)) (CF (db Z X X) (CF (cG Z Z (aO X X)) (CH Z (CJ (aa (aG ?_))))))
   refine aQ Tryz.results154 (.tmp Z (ao (by congr 1;omega)))
  ·have k2:=key (x / 2^16) X
   refine ae (ai (CH Z (CJ (aa (ae (ae (ai (CG Z (CF (sT X (dF Z Z)) ?_)))))))))
   refine CJ (aa (aI Z (ae (ai (CG Z (CF (iB (s:=16) Z Z U) (CH Z (CJ (aa ?_)))))))))
   refine ai (CH Z (CJ (aa (ae (ae (ai (CG Z (CF (sF X (dF Z Z)) (CJ ?_)))))))))
   refine aa (aB Z (aw (aa (ae (ai (CG Z (CG Z (CF (kM Z X X) (CF (gB Y Z Z (nx V X)) ?_)))))))))
   refine CF (db Z X X) (CF (cG Z Z (aO X X)) (CH Z (CJ (aa (aG ?_)))))
   refine aQ Tryz.results154 (.tmp Z (ao (by congr 1;omega)))
 ·by_cases h2:256≤x
  ·have e2:=nv (k:=8) (x:=x) X X
   have k2:=key (x / 2^8) X
   refine ae (ai (CH Z (CJ (aa (ae (ae (ai (CG Z (CF (sF X (dF Z Z)) ?_)))))))))
   refine CJ (aa (aB Z (aw (aa (ae (ae (ai (CG Z (CF (sT X (dF Z Z)) ?_)))))))))
   refine CJ (aa (aI Z (ae (ai (CG Z (CF (iB (s:=8) Z Z U) (CH Z (CJ (aa ?_)))))))))
   refine ai (CG Z (CF (cG Z Z (aO X X)) (CH Z (CJ (aa (ae (ai (CG Z (CG Z ?_)))))))))
   refine CF (kM Z X X) (CF (gB Y Z Z (nx V X)) (CF (db Z X X) (CF (cG Z Z (aO X X)) (CH Z (CJ (aa (aG ?_)))))))
   refine aQ Tryz.results154 (.tmp Z (ao (by congr 1;omega)))
  ·have k2:=key x X
   refine ae (ai (CH Z (CJ (aa (ae (ae (ai (CG Z (CF (sF X (dF Z Z)) ?_)))))))))
   refine CJ (aa (aB Z (aw (aa (ae (ae (ai (CG Z (CF (sF X (dF Z Z)) ?_)))))))))
   refine CJ (aa (aB Z (aw (aa (ae (ai (CG Z (CG Z (CF (kM Z X X) ?_)))))))))
   refine CF (gB Y Z Z (nx V X)) (CF (db Z X X) (CF (cG Z Z (aO X X)) (CH Z (CJ (aa (aG ?_))))))
   refine aQ Tryz.results154 (.tmp Z (ao (by congr 1;omega)))
theorem zk (x:Nat) (hx:x<4294967296):Ok Tryz.prog 170 [one (.int .u32 x)] (one (.int .i64 ((32 - fw x:Nat):Int))):=by
 have h:=gV (n:=32) (x:=x) X U
 refine Ok.enter Tryz.func170 Z Tryz.ntmps170 Z (fun w O => ?_)
 refine ae (ai (CH Z (CJ (aa (ae (ai (CG Z ?_)))))))
 refine CF (am (rn _ (by assumption)) Z ⟨A,CK⟩) ?_
 refine CF (dx Z Z (aO X X)) (CH Z (CJ (aa (aG ?_))))
 refine aQ Tryz.results170 (.tmp Z (ao (by congr 1;omega)))
theorem ro (i:Nat):4294967296^i=2^(32*i):=by rw [Nat.pow_mul]
theorem kb {l:List Nat} (h:bv l) (i:Nat):lv (l.take i)<2^(32*i):=by
 have h1:=gE (h.take i)
 rw [← ro]
 exact Nat.lt_of_lt_of_le h1 (Nat.pow_le_pow_right U (by simp;omega))
theorem sY {d e i:Nat} (hd:d<4294967296) (hb:e<2^(32*i)) (hi:i≤1):d*2^(32*i)+e<18446744073709551616:=by
 rcases (show i=0∨i=1 by omega) with rfl | rfl
 ·rw [show 2^(32*0)=1 by simp] at hb ⊢; omega
 ·rw [show 2^(32*1)=4294967296 by simp] at hb ⊢
  have h1:d*4294967296+e<(d+1)*4294967296:=by rw [Nat.add_mul]; exact Nat.add_lt_add_left (by rw [Nat.one_mul]; exact hb) _
  exact Nat.lt_of_lt_of_le h1 (Nat.le_trans (Nat.mul_le_mul_right _ hd) (Nat.le_of_eq Z))
theorem up (l:List Nat) (hl:bv l) (h2:l.length≤2):Ok Tryz.prog 168 [cd l] (one (.int .u64 (lv l))):=by
 refine Ok.enter Tryz.func168 Z Tryz.ntmps168 Z (fun w O => ?_)
 refine ae (ai (CH Z (CJ (aa (ae (ai (CH Z (CJ (aa ?_)))))))))
 refine ae (ae (ai (CG Z (CF (aW Z) (CG Z (CJ (aa (av (ch (Γ' := [(2,_),(3,_),(6,_),(7,_),(8,_)]) Cz (SubM.refl _) ?_)))))))))
 refine bE (σ:=Nat) (Γk := [(2,_),(6,_),(7,_)]) Cz (fun i => [(8,one (.int .i64 (i:Nat))),(3,one (.int .u64 (lv (l.take i))))]) (fun i M0=>M0) (fun i=>i≤l.length) (fun i=>l.length - i) (0) (Nat.zero_le _) CA (.nil) (fun i hi => ?_)
 refine bR (Γ' := [(8,_),(3,_),(2,_),(6,_),(7,_)]) (M' := []) Z Z (ae (ai (CF (bq Z Z) (CJ (aa (ae ?_))))))
 refine mq Z (fun hc => ?_) (fun hc => ?_)
 ·have hi1:i≤1:=by omega
  have hd:=aY hl i
  have hb:=kb hl i
  have hab:=sY hd hb hi1
  have ha:l.getD i 0*2^(32*i)<18446744073709551616:=Nat.lt_of_le_of_lt (Nat.le_add_right _ _) hab
  have hn:lv (l.take i)+l.getD i 0*2^(32*i)=lv (l.take (i+1)):=by
   rw [bF X,ro,Nat.mul_comm]
  refine aw (aa (ae (av (ae (ai (CG Z (CF (aE Z Z X) (CF (aV Z) (CH Z ?_)))))))))
  refine CH Z (CJ (aa (ai (CG Z (CG Z (CF (bH Z X) (CG Z (CF (ni 32 _ Z Z X) (CF (j5 Z Z X X) ?_)))))))))
  refine CF (AD Z Z X X) (CH Z (CJ (aL (aa (ai (CF (bQ _ 1 Z Z X) (CG Z (CJ ?_))))))))
  rw [hn]
  refine aR (i+1) X X CA (.nil)
 ·have e:i=l.length:=by omega
  subst e
  rw [List.take_length]
  refine a6 (ax (ax (aM (aa (ae (ai (CG Z (CH Z (CJ ?_)))))))))
  refine aa (aG ?_)
  refine aQ Tryz.results168 (.tmp Z A)
end Tor
end
section
namespace Tor
open Go Go.RowKit Go.Proofs
variable [Tor.Co.Kc]
structure ShortR (l:List Nat) (d:Nat) (s:List Nat × Nat × Nat):Prop where
 le:s.2.1≤l.length
 len:s.1.length=l.length
 lim:bv s.1
 r:s.2.2<d
 zero : ∀ k,k<s.2.1→s.1.getD k 0=0
 val:lv l=lv (l.take s.2.1)+(lv s.1*d+4294967296^s.2.1*s.2.2)
theorem ShortR.start {l:List Nat} {d:Nat} (hd:0<d):ShortR l d (List.replicate l.length 0,l.length,0) :=
 ⟨Nat.le_refl _,by simp,bv.replicate _,hd,fun k _=>cm _ _,by simp [dB]⟩
theorem ShortR.bound {x r d:Nat} (hx:x<4294967296) (hr:r<d) (hd:d<4294967296):r*4294967296+x<18446744073709551616∧(r*4294967296+x) / d<4294967296:=by
 have h1:r*4294967296+x<d*4294967296:=by omega
 exact ⟨by omega,Nat.div_lt_of_lt_mul h1⟩
theorem ShortR.step {l:List Nat} {d:Nat} {z:List Nat} {n r:Nat} (h:ShortR l d (z,n+1,r)) (hl:bv l) (hd:d<4294967296) :
  ShortR l d (z.set n ((r*4294967296+l.getD n 0) / d),n,(r*4294967296+l.getD n 0) % d):=by
 have hn:n<l.length:=h.le
 have hz:n<z.length:=by have:=h.len;simp only at this;omega
 have hx:=aY hl n
 have hr:r<d:=h.r
 have hb:=ShortR.bound hx hr hd
 have h0:z.getD n 0=0:=h.zero n (Nat.lt_succ_self n)
 have hs:=fL (l:=z) (v:=(r*4294967296+l.getD n 0) / d) hz
 rw [h0,Nat.mul_zero,Nat.add_zero] at hs
 refine ⟨Nat.le_of_lt hn,by rw [List.length_set]; exact h.len,bv.set h.lim hb.2,Nat.mod_lt _ X,fun k hk => ?_,?_⟩
 ·simp only at hk ⊢
  rw [dJ hz,if_neg X]; exact h.zero k (Nat.lt_succ_of_lt hk)
 ·have hv:lv l=lv (l.take (n+1))+(lv z*d+4294967296^(n+1)*r):=h.val
  simp only
  rw [hs,hv,bF hn]
  have e:=Nat.div_add_mod (r*4294967296+l.getD n 0) d
  generalize (r*4294967296+l.getD n 0) / d=q at *
  generalize (r*4294967296+l.getD n 0) % d=m at *
  generalize l.getD n 0=x at *
  rw [Nat.pow_succ]
  generalize 4294967296^n=B at *
  have e2:B*(d*q+m)=B*(r*4294967296+x):=by rw [e]
  have e3:(lv z+B*q)*d=lv z*d+B*(d*q):=by rw [Nat.add_mul,Nat.mul_assoc,Nat.mul_comm q d]
  have e4:B*4294967296*r=B*(r*4294967296):=by rw [Nat.mul_assoc,Nat.mul_comm r]
  rw [e3,e4]
  rw [Nat.mul_add,Nat.mul_add] at e2
  omega
theorem ShortR.finish {l:List Nat} {d:Nat} {z:List Nat} {r:Nat} (h:ShortR l d (z,0,r)):lv z=lv l / d∧r=lv l % d:=by
 have hv:lv l=lv (l.take 0)+(lv z*d+4294967296^0*r):=h.val
 have hr:r<d:=h.r
 have e:lv l=lv z*d+r:=by simpa [lv] using hv
 rw [e]
 constructor
 ·rw [Nat.mul_comm,Nat.mul_add_div X,Nat.div_eq_of_lt hr]; rfl
 ·rw [Nat.mul_comm,Nat.mul_add_mod,Nat.mod_eq_of_lt hr]
theorem pS {b:Option Nat} {T:TypeId} {n cap:Nat} {z:List Nat} {k v v':Nat} (hk:k<z.length) (hv:v'=v):Own.le (aN b T .one n cap (upd (fun q=>one (.int .u32 (z.getD q 0:Nat))) k (one (.int .u32 (v':Nat))))) (aN b T .one n cap (fun q=>one (.int .u32 ((z.set k v).getD q 0:Nat)))):=by
 subst hv
 exact bW (fun q _=>by unfold upd;rw [dJ hk]; split <;> rfl)
attribute [local irreducible] J PJ aJ one slT bL bG bD exT cn eP aU aN slV VT.le Ret bS
theorem xp (l:List Nat) (d:Nat) (hl:bv l) (h1:l.length≤1099511627776) (hd0:0<d) (hd:d<4294967296):Ok Tryz.prog 169 [cd l,one (.int .u32 (d:Nat))] (bD [kR (lv l / d),one (.int .u32 ((lv l % d:Nat):Int))]):=by
 refine Ok.enter Tryz.func169 Z Tryz.ntmps169 Z (fun w O => ?_)
 refine ae (ai (CH Z (CH Z (CJ (aa (ae (ai (CG Z (CF (aW Z) ?_)))))))))
 refine co l.length l.length Z Z Z Z (Nat.le_refl _) Z Z X Z Z (fun bz => ?_)
 refine CH Z (CJ (aa (ae (ai (CH Z (CJ (aa (ae (ae ?_)))))))))
 refine ai (CG Z (CF (aW Z) (CF (dx Z Z (aO X X)) (CH Z (CJ (aa (av (ch (Γ' := [(0,_),(1,_),(4,_),(5,_),(6,_),(7,_),(8,_)]) Cz (SubM.refl _) ?_))))))))
 refine bE (σ:=List Nat × Nat × Nat) (Γk := [(0,_),(1,_),(4,_),(5,_),(6,_)]) Cz (fun s => [(8,one (.int .i64 ((s.2.1:Nat) - 1:Int))),(7,one (.int .u64 (s.2.2:Nat)))]) (fun s M0=>(M0.set 0 (aN (some bz) 83 .one l.length l.length (fun q=>one (.int .u32 (s.1.getD q 0:Nat)))))) (fun s=>ShortR l d s) (fun s=>s.2.1) ((List.replicate l.length 0,l.length,0)) (ShortR.start hd0) CA (.keep (bW (fun q _=>by rw [cm]; rfl)) (.nil)) (fun s hs => ?_)
 refine bR (Γ' := [(8,_),(7,_),(0,_),(1,_),(4,_),(5,_),(6,_)]) (M' := [_]) Z Z ?_
 obtain ⟨z,n,r⟩:=s
 dsimp only at hs ⊢
 refine ae (ae (ai (CG Z (CF (dF Z Z) (CJ (aa ?_))))))
 cases n with
 | zero =>
  obtain ⟨f1,f2⟩:=hs.finish
  have hlen:z.length=l.length:=hs.len
  have hr:r<d:=hs.r
  rw [← f1, ← f2]
  refine kL Z X (a6 (ax (ax (aM (aa (ae (ai (CG Z (CG Z ?_)))))))))
  refine CF (cw Z) (CH Z (CH Z (CJ (aa (aG (c4 (t:=4) (i:=0) Z Z ?_))))))
  refine cW Tryz.results169 (.tmp Z (VT.le_trans (ci (m:=z.length) (ψ:=fun i=>one (.int .u32 (z.getD i 0:Nat))) hlen.symm (fun q hq=>rfl)) (fk (l:=z) hs.lim Z))) (.tmp Z (ao (by congr 1;omega)))
 | succ n =>
  have hx:=aY hl n
  have hr:r<d:=hs.r
  have hb:=ShortR.bound hx hr hd
  have hst:=hs.step hl hd
  have hn:n<l.length:=hs.le
  have hzn:n<z.length:=by have:=hs.len;dsimp only at this;omega
  have en:((n+1:Nat):Int) - 1=(n:Nat):=by omega
  rw [en]
  refine kK Z X (aw (aa (ae (av (ae (ai (CG Z (CF (j5 (s:=32) Z Z X X) (CG Z ?_)))))))))
  refine CG Z (CF (aE Z Z X) (CF (aV Z) (CF (bH Z X) (CF (jZ Z Z X X) (CH Z (CJ (aa (ae (ai ?_)))))))))
  refine CG Z (CG Z (CG Z (CG Z (CF (bH Z X) (CF (ja Z Z X X) (CF (cw Z) (CF (ay Z Z X) ?_)))))))
  (refine aA 0 Z Z Z ?_ Z ?_;omega)
  refine CJ (aa (ai (CG Z (CG Z (CF (bH Z X) (CF (ef _ Z Z Z X) (CH Z (CJ (aL ?_)))))))))
  refine aa (ai (CG Z (CF (dx Z Z (aO X X)) (CH Z (CJ ?_)))))
  refine aR ((z.set n ((r*4294967296+l.getD n 0) / d),n,(r*4294967296+l.getD n 0) % d)) (hst) (by (simp only []; omega)) CA (.keep (pS hzn (Nat.mod_eq_of_lt hb.2)) (.nil))
end Tor
end
section
namespace Tor
open Go Go.RowKit Go.Proofs
variable [Tor.Co.Kc]
structure ShiftR (l:List Nat) (s:Nat) (p:List Nat × Nat × Nat):Prop where
 le:p.2.1≤l.length
 len:p.1.length=l.length+1
 lim:bv p.1
 c:p.2.2<2^s
 zero : ∀ k,p.2.1≤k→p.1.getD k 0=0
 val:lv p.1+4294967296^p.2.1*p.2.2=lv (l.take p.2.1)*2^s
theorem ShiftR.start (l:List Nat) (s:Nat):ShiftR l s (List.replicate (l.length+1) 0,0,0) :=
 ⟨Nat.zero_le _,by simp,bv.replicate _,Nat.two_pow_pos s,fun k _=>cm _ _,by simp [dB,lv]⟩
theorem ShiftR.bound {d c s:Nat} (hd:d<4294967296) (hc:c<2^s) (hs:s<32):d*2^s+c<4294967296*2^s∧d*2^s+c<18446744073709551616∧d*2^s<18446744073709551616∧2^s<4294967296:=by
 have h1:(d+1)*2^s≤4294967296*2^s:=Nat.mul_le_mul_right _ hd
 have h2:2^s≤2^31:=Nat.pow_le_pow_right U X
 rw [Nat.add_mul,Nat.one_mul] at h1
 have h3:(2:Nat)^31=2147483648:=rfl
 generalize d*2^s=x at *
 generalize 2^s=y at *
 omega
theorem ShiftR.step {l:List Nat} {s:Nat} {z:List Nat} {i c:Nat} (h:ShiftR l s (z,i,c)) (hl:bv l) (hs:s<32) (hi:i<l.length) :
  ShiftR l s (z.set i ((c+l.getD i 0*2^s) % 4294967296),i+1,(c+l.getD i 0*2^s) / 4294967296):=by
 have hlen:z.length=l.length+1:=h.len
 have hz:i<z.length:=by omega
 have hc:c<2^s:=h.c
 have hb:=ShiftR.bound (aY hl i) hc hs
 have h0:z.getD i 0=0:=h.zero i (Nat.le_refl _)
 have hv:lv z+4294967296^i*c=lv (l.take i)*2^s:=h.val
 have hse:=fL (l:=z) (v:=(c+l.getD i 0*2^s) % 4294967296) hz
 rw [h0,Nat.mul_zero,Nat.add_zero] at hse
 refine ⟨hi,by rw [List.length_set]; exact hlen,bv.set h.lim (Nat.mod_lt _ U),?_,fun k hk => ?_,?_⟩
 ·show (c+l.getD i 0*2^s) / 4294967296<2^s
  exact Nat.div_lt_of_lt_mul X
 ·simp only at hk ⊢
  rw [dJ hz,if_neg X]; exact h.zero k (by show i≤k;omega)
 ·show lv (z.set i _)+4294967296^(i+1)*_=lv (l.take (i+1))*2^s
  dsimp only
  rw [hse,bF hi,Nat.pow_succ,Nat.add_mul, ← hv]
  generalize l.getD i 0=x at *
  generalize 2^s=p at *
  have e:=Nat.div_add_mod (c+x*p) 4294967296
  generalize (c+x*p) / 4294967296=q at *
  generalize (c+x*p) % 4294967296=m at *
  generalize 4294967296^i=B at *
  have e2:B*(4294967296*q+m)=B*(c+x*p):=by rw [e]
  rw [Nat.mul_add,Nat.mul_add, ← Nat.mul_assoc, ← Nat.mul_assoc] at e2
  omega
theorem ShiftR.finish {l:List Nat} {s:Nat} {z:List Nat} {c:Nat} (h:ShiftR l s (z,l.length,c)) (hs:s<32) :
  (z.set l.length c).length=l.length+1∧bv (z.set l.length c)∧lv (z.set l.length c)=lv l*2^s∧c<4294967296∧l.length<z.length:=by
 have hlen:z.length=l.length+1:=h.len
 have hc:c<2^s:=h.c
 have hb:=ShiftR.bound (d:=0) U hc hs
 have h0:z.getD l.length 0=0:=h.zero _ (Nat.le_refl _)
 have hv:lv z+4294967296^l.length*c=lv (l.take l.length)*2^s:=h.val
 have hse:=fL (l:=z) (k:=l.length) (v:=c) X
 rw [h0,Nat.mul_zero,Nat.add_zero] at hse
 rw [List.take_length] at hv
 exact ⟨by rw [List.length_set]; exact hlen,bv.set h.lim X,by rw [hse,hv],by omega,by omega⟩
abbrev fx (z:List Nat):Nat→VT:=fun q=>one (.int .u32 (z.getD q 0:Nat))
theorem fU {b:Option Nat} {T:TypeId} {n cap:Nat} {z:List Nat} {k v v':Nat} (hk:k<z.length) (hv:v'=v):Own.le (aN b T .one n cap (upd (fx z) k (one (.int .u32 (v':Nat))))) (aN b T .one n cap (fx (z.set k v))):=pS hk hv
abbrev pT (l:List Nat) (s:Nat):Type := {p:Nat × List Nat // p.2.length=l.length+1∧bv p.2∧lv p.2=lv l*2^s}
attribute [local irreducible] J PJ aJ one slT bL bG bD exT cn eP aU aN slV VT.le Ret bS
theorem rp (l:List Nat) (s:Nat) (hl:bv l) (h1:l.length≤1099511627776) (hs:s<32):OkM Tryz.prog 171 [cd l,one (.int .i64 (s:Nat))] (fun p:pT l s=>one (slV (some p.1.1) (l.length+1) (l.length+1))) (fun p => [aN (some p.1.1) 83 .one (l.length+1) (l.length+1) (fx p.1.2)]):=by
 refine OkM.enter Tryz.func171 Z Tryz.ntmps171 Z (fun w O => ?_)
 refine ae (ai (CH Z (CJ (aa (ae (ai (CG Z (CF (aW Z) (CF (bQ _ 1 Z Z X) ?_)))))))))
 refine co (l.length+1) (l.length+1) Z Z (by simp) (by simp) (Nat.le_refl _) Z Z X Z Z (fun bz => ?_)
 refine CH Z (CJ (aa (ae (ai (CH Z (CJ (aa (ae (ae ?_)))))))))
 refine ai (CG Z (CF (aW Z) (CG Z (CJ (aa (av (ch (Γ' := [(0,_),(1,_),(4,_),(5,_),(6,_),(13,_),(14,_),(15,_)]) Cz (SubM.refl _) ?_)))))))
 refine bE (σ:=List Nat × Nat × Nat) (Γk := [(0,_),(1,_),(4,_),(5,_),(13,_),(14,_)]) Cz (fun p => [(15,one (.int .i64 (p.2.1:Nat))),(6,one (.int .u64 (p.2.2:Nat)))]) (fun p M0=>(M0.set 0 (aN (some bz) 83 .one (l.length+1) (l.length+1) (fx p.1)))) (fun p=>ShiftR l s p) (fun p=>l.length - p.2.1) ((List.replicate (l.length+1) 0,0,0)) (ShiftR.start l s) CA (.keep (bW (fun q _=>by unfold fx;rw [cm]; rfl)) (.nil)) (fun p hp => ?_)
 refine bR (Γ' := [(15,_),(6,_),(0,_),(1,_),(4,_),(5,_),(13,_),(14,_)]) (M' := [_]) Z Z ?_
 obtain ⟨z,i,c⟩:=p
 dsimp only at hp ⊢
 refine ae (ai (CF (bq Z Z) (CJ (aa (ae ?_)))))
 refine mq Z (fun hcc => ?_) (fun hcc => ?_)
 ·have hc:c<2^s:=hp.c
  have hi:i<l.length:=by omega
  have hb:=ShiftR.bound (aY hl i) hc hs
  have hst:=hp.step hl hs hi
  have hx:=aY hl i
  have hzn:i<z.length:=by have:=hp.len;dsimp only at this;omega
  refine aw (aa (ae (av (ae (ai (CG Z (CF (aE Z Z X) (CF (aV Z) (CH Z ?_)))))))))
  refine CH Z (CJ (aa (ae (ai (CG Z (CG Z (CF (bH Z X) (CG Z (CF (j5 Z Z X X) ?_)))))))))
  refine CF (AD Z Z X X) (CH Z (CJ (aa (ae (ai (CG Z (CG Z (CG Z (CF (cw Z) ?_)))))))))
  refine CF (ay Z Z X) ?_
  (refine aA 0 Z Z Z ?_ Z ?_;omega)
  refine CJ (aa (ai (CG Z (CF (fe Z) (CH Z (CJ (aL (aa (ai ?_)))))))))
  refine CF (bQ _ 1 Z Z X) (CG Z (CJ ?_))
  refine aR ((z.set i ((c+l.getD i 0*2^s) % 4294967296),i+1,(c+l.getD i 0*2^s) / 4294967296)) (hst) (by (simp only []; omega)) CA (.keep (fU hzn Z) (.nil))
 ·have e:i=l.length:=by have:=hp.le;dsimp only at this;omega
  subst e
  obtain ⟨f1,f2,f3,f4,f5⟩:=hp.finish hs
  have hc:c<2^s:=hp.c
  refine a6 (ax (ax (aM (aa (ae (ai (CG Z (CG Z (CF (aW Z) ?_)))))))))
  refine CG Z (CF (cw Z) (CF (ay Z Z X) ?_))
  (refine aA 0 Z Z Z ?_ Z ?_;omega)
  refine CJ (aa (ae (ai (CG Z (CH Z (CJ (aa (aG ?_))))))))
  refine qI (⟨(bz,z.set l.length c),f1,f2,f3⟩:pT l s) Tryz.results171 (.tmp Z A) (.keep (fU f5 (Nat.mod_eq_of_lt f4)) .nil)
end Tor
end
section
namespace Tor
variable [Tor.Co.Kc]
def win (W:List Nat) (j m:Nat):List Nat:=(W.drop j).take m
theorem uq {W:List Nat} {j m:Nat} (h:j+m≤W.length):(win W j m).length=m:=by unfold win;simp;omega
theorem gJ {W:List Nat} {j m i:Nat} (h:i<m):(win W j m).getD i 0=W.getD (j+i) 0:=by
 unfold win;simp [List.getD,List.getElem?_take,h]
theorem kY {W:List Nat} {j m i x:Nat} (h:i<m):win (W.set (j+i) x) j m=(win W j m).set i x:=by
 unfold win;rw [List.drop_set,if_neg X,Nat.add_sub_cancel_left,List.take_set]
theorem bv.win {W:List Nat} (h:bv W) (j m:Nat):bv (win W j m):=fun d hd=>h d (List.mem_of_mem_drop (List.mem_of_mem_take hd))
theorem zm {l:List Nat} {k:Nat} (h:l.length=k+2):lv l=lv (l.take k)+4294967296^k*(l.getD k 0+4294967296*l.getD (k+1) 0):=by
 have e:l=l.take (k+2):=by rw [List.take_of_length_le X]
 conv=>lhs;rw [e]
 rw [bF X,bF X,Nat.pow_succ,Nat.mul_add,Nat.mul_assoc]; omega
theorem zn {l:List Nat} {k:Nat} (h:l.length=k+3):lv l=lv (l.take k)+4294967296^k*(l.getD k 0+4294967296*(l.getD (k+1) 0+4294967296*l.getD (k+2) 0)):=by
 have e:l=l.take (k+3):=by rw [List.take_of_length_le X]
 conv=>lhs;rw [e]
 rw [bF X,bF X,bF X]
 simp only [Nat.pow_succ,Nat.mul_add,Nat.mul_assoc]; omega
structure Gss (Cw Cx B P h v2 top u2:Nat):Prop where
 P0:0<P
 iv1:(h*B+v2)*P≤Cx
 iv2:Cx<(h*B+v2+1)*P
 iu1:(top*B+u2)*P≤Cw
 iu2:Cw<(top*B+u2+1)*P
 l2:v2<B
 m2:u2<B
 h0:0<h
 lt:Cw<Cx*B
theorem Gss.V0 {Cw Cx B P h v2 top u2:Nat} (g:Gss Cw Cx B P h v2 top u2):0<Cx:=by
 rcases Nat.eq_zero_or_pos Cx with h | h
 ·have:=g.lt;rw [h] at this;simp at this
 ·exact h
theorem Gss.top {Cw Cx B P h v2 top u2:Nat} (g:Gss Cw Cx B P h v2 top u2):top<(h+1)*B:=by
 have h1:top*(B*P)<(h+1)*B*(B*P):=by
  calc top*(B*P)=top*B*P:=(Nat.mul_assoc _ _ _).symm
   _≤(top*B+u2)*P:=Nat.mul_le_mul_right _ (Nat.le_add_right _ _)
   _≤Cw:=g.iu1
   _<Cx*B:=g.lt
   _≤(h*B+v2+1)*P*B:=Nat.mul_le_mul_right _ (Nat.le_of_lt g.iv2)
   _≤((h+1)*B)*P*B:=Nat.mul_le_mul_right _ (Nat.mul_le_mul_right _ (by rw [Nat.add_mul,Nat.one_mul]; have:=g.l2;omega))
   _=(h+1)*B*(B*P):=by rw [Nat.mul_assoc,Nat.mul_comm P B]
 exact Nat.lt_of_mul_lt_mul_right h1
theorem Gss.q_lt {Cw Cx B P h v2 top u2:Nat} (g:Gss Cw Cx B P h v2 top u2):Cw / Cx<B:=Nat.div_lt_of_lt_mul g.lt
theorem Gss.start {Cw Cx B P h v2 top u2:Nat} (g:Gss Cw Cx B P h v2 top u2):Cw / Cx≤top / h:=by
 rw [Nat.le_div_iff_mul_le g.h0]
 have h1:(Cw / Cx*h)*(B*P)<(top+1)*(B*P):=by
  calc (Cw / Cx*h)*(B*P)=Cw / Cx*(h*B*P):=by rw [Nat.mul_assoc,Nat.mul_assoc]
   _≤Cw / Cx*((h*B+v2)*P):=Nat.mul_le_mul_left _ (Nat.mul_le_mul_right _ (Nat.le_add_right _ _))
   _≤Cw / Cx*Cx:=Nat.mul_le_mul_left _ g.iv1
   _≤Cw:=Nat.div_mul_le_self _ _
   _<(top*B+u2+1)*P:=g.iu2
   _≤((top+1)*B)*P:=Nat.mul_le_mul_right _ (by rw [Nat.add_mul,Nat.one_mul]; have:=g.m2;omega)
   _=(top+1)*(B*P):=Nat.mul_assoc _ _ _
 exact Nat.lt_succ_iff.1 (Nat.lt_of_mul_lt_mul_right h1)
theorem Gss.low {Cw Cx B P h v2 top u2:Nat} (g:Gss Cw Cx B P h v2 top u2) {q r:Nat} (e:q*h+r=top) (hc:r*B+u2<q*v2):Cw / Cx<q:=by
 have h1:(Cw / Cx*(h*B+v2))*P<(top*B+u2+1)*P:=by
  calc (Cw / Cx*(h*B+v2))*P=Cw / Cx*((h*B+v2)*P):=Nat.mul_assoc _ _ _
   _≤Cw / Cx*Cx:=Nat.mul_le_mul_left _ g.iv1
   _≤Cw:=Nat.div_mul_le_self _ _
   _<(top*B+u2+1)*P:=g.iu2
 have h2:=Nat.lt_of_mul_lt_mul_right h1
 have h3:top*B+u2<q*(h*B+v2):=by
  rw [← e,Nat.add_mul,Nat.mul_add,Nat.mul_assoc]; omega
 exact Nat.lt_of_mul_lt_mul_right (Nat.lt_of_lt_of_le h2 h3)
theorem Gss.done {Cw Cx B P h v2 top u2:Nat} (g:Gss Cw Cx B P h v2 top u2) {q r:Nat} (e:q*h+r=top) (hq:q<B) (hc:q*v2≤r*B+u2∨B≤r):q≤Cw / Cx+1:=by
 rcases Nat.eq_zero_or_pos q with h0 | h0
 ·rw [h0]; exact Nat.zero_le _
 obtain ⟨p,rfl⟩ : ∃ p,q=p+1:=⟨q - 1,by omega⟩
 have hh:(p+1)*v2≤r*B+u2:=by
  rcases hc with hc | hc
  ·exact hc
  ·have h1:(p+1)*v2≤B*B:=Nat.mul_le_mul (Nat.le_of_lt hq) (Nat.le_of_lt g.l2)
   have h2:B*B≤r*B:=Nat.mul_le_mul_right _ hc
   omega
 have h3:(p+1)*(h*B+v2)≤top*B+u2:=by
  rw [← e,Nat.add_mul _ r,Nat.mul_add,Nat.mul_assoc]; omega
 have h4:p*(h*B+v2+1)≤top*B+u2:=by
  refine Nat.le_trans ?_ h3
  rw [Nat.add_mul p 1,Nat.mul_add p (h*B+v2) 1,Nat.one_mul,Nat.mul_one]
  have:B≤h*B:=Nat.le_mul_of_pos_left _ g.h0
  omega
 have h5:p*Cx≤Cw:=by
  calc p*Cx≤p*((h*B+v2+1)*P):=Nat.mul_le_mul_left _ (Nat.le_of_lt g.iv2)
   _=p*(h*B+v2+1)*P:=(Nat.mul_assoc _ _ _).symm
   _≤(top*B+u2)*P:=Nat.mul_le_mul_right _ h4
   _≤Cw:=g.iu1
 have:=(Nat.le_div_iff_mul_le g.V0).2 h5
 omega
theorem A8 {u v:List Nat} {k:Nat} (hu:bv u) (hv:bv v) (lu:u.length=k+3) (lw:v.length=k+2) (hh:0<v.getD (k+1) 0) (hlt:lv u<lv v*4294967296) :
  Gss (lv u) (lv v) 4294967296 (4294967296^k) (v.getD (k+1) 0) (v.getD k 0) (u.getD (k+2) 0*4294967296+u.getD (k+1) 0) (u.getD k 0):=by
 have e1:=zn lu
 have e2:=zm lw
 have h1:=gE (hu.take k)
 have h2:=gE (hv.take k)
 rw [List.length_take_of_le X] at h1 h2
 have g1:=aY hu k
 have g2:=aY hv k
 refine ⟨Nat.pow_pos U,?_,?_,?_,?_,g2,g1,hh,hlt⟩
 ·rw [e2,Nat.mul_comm _ (4294967296^k),show v.getD (k+1) 0*4294967296+v.getD k 0=v.getD k 0+4294967296*v.getD (k+1) 0 by omega]; omega
 ·rw [e2,Nat.mul_comm _ (4294967296^k),show v.getD (k+1) 0*4294967296+v.getD k 0+1=v.getD k 0+4294967296*v.getD (k+1) 0+1 by omega,Nat.mul_add (4294967296^k) _ 1]; omega
 ·rw [e1,Nat.mul_comm _ (4294967296^k),show (u.getD (k+2) 0*4294967296+u.getD (k+1) 0)*4294967296+u.getD k 0=u.getD k 0+4294967296*(u.getD (k+1) 0+4294967296*u.getD (k+2) 0) by omega]; omega
 ·rw [e1,Nat.mul_comm _ (4294967296^k),show (u.getD (k+2) 0*4294967296+u.getD (k+1) 0)*4294967296+u.getD k 0+1=u.getD k 0+4294967296*(u.getD (k+1) 0+4294967296*u.getD (k+2) 0)+1 by omega,Nat.mul_add (4294967296^k) _ 1]; omega
structure GuessR (h top Q:Nat) (p:Nat × Nat):Prop where
 e:p.1*h+p.2=top
 r:p.2<4294967296
 q:Q≤p.1
 m:p.1≤4294967297
structure SubR (u v:List Nat) (q:Nat) (z:List Nat) (i b c:Nat):Prop where
 le:i≤v.length
 len:z.length=u.length
 lim:bv z
 hb:b≤1
 hc:c<4294967296
 val:lv z+q*lv (v.take i)=lv u+4294967296^i*(b+c)
theorem pU {x y b d:Nat} (hx:x<4294967296) (hy:y<4294967296) (hb:b≤1) (hd:d=((x+18446744073709551616 - y) % 18446744073709551616+18446744073709551616 - b) % 18446744073709551616) :
  d % 4294967296+y+b=x+4294967296*(d / 9223372036854775808)∧d / 9223372036854775808≤1:=by
 rcases Nat.lt_or_ge x (y+b) with h | h
 ·have h1:d=x+18446744073709551616 - (y+b):=by omega
  omega
 ·have h1:d=x - (y+b):=by omega
  omega
theorem SubR.start {u v:List Nat} {q:Nat} (hu:bv u):SubR u v q u 0 0 0:=⟨Nat.zero_le _,rfl,hu,by decide,by decide,by simp [lv]⟩
theorem pV {q y c:Nat} (hq:q<4294967296) (hy:y<4294967296) (hc:c<4294967296):q*y<18446744073709551616∧c+q*y<18446744073709551616∧(c+q*y) / 4294967296<4294967296:=by
 have h1:q*y≤4294967295*4294967295:=Nat.mul_le_mul X X
 omega
theorem SubR.step {u v z:List Nat} {q i b c d:Nat} (h:SubR u v q z i b c) (hv:bv v) (hq:q<4294967296) (hi:i<v.length) (hl:v.length≤u.length)
  (hd:d=((z.getD i 0+18446744073709551616 - (c+q*v.getD i 0) % 4294967296) % 18446744073709551616+18446744073709551616 - b) % 18446744073709551616) :
  SubR u v q (z.set i (d % 4294967296)) (i+1) (d / 9223372036854775808) ((c+q*v.getD i 0) / 4294967296):=by
 have hlim:=pV hq (aY hv i) h.hc
 obtain ⟨h1,h2⟩:=pU (aY h.lim i) (Nat.mod_lt _ U) h.hb hd
 have hz:i<z.length:=by rw [h.len]; omega
 have hs:=fL (l:=z) (v:=d % 4294967296) hz
 have hvv:=h.val
 refine ⟨hi,by rw [List.length_set]; exact h.len,h.lim.set (Nat.mod_lt _ U),h2,hlim.2.2,?_⟩
 rw [bF hi,Nat.pow_succ,Nat.mul_add q]
 have e:=Nat.div_add_mod (c+q*v.getD i 0) 4294967296
 have e5:q*(4294967296^i*v.getD i 0)=4294967296^i*(q*v.getD i 0):=Nat.mul_left_comm _ _ _
 rw [e5]
 clear hd
 generalize z.getD i 0=x at *
 generalize q*v.getD i 0=y at *
 generalize 4294967296^i=B at *
 generalize (c+y) / 4294967296=t1 at *
 generalize (c+y) % 4294967296=t2 at *
 generalize d % 4294967296=r at *
 generalize d / 9223372036854775808=q' at *
 have e2:B*(r+t2+b)=B*(x+4294967296*q'):=by rw [h1]
 have e3:B*(4294967296*t1+t2)=B*(c+y):=by rw [e]
 simp only [Nat.mul_add,Nat.mul_assoc] at e2 e3 hvv ⊢
 omega
structure BackR (u v:List Nat) (z:List Nat) (i c:Nat):Prop where
 le:i≤v.length
 len:z.length=u.length
 lim:bv z
 hc:c≤1
 val:lv z+4294967296^i*c=lv u+lv (v.take i)
theorem BackR.start {u v:List Nat} (hu:bv u):BackR u v u 0 0:=⟨Nat.zero_le _,rfl,hu,by decide,by simp [lv]⟩
theorem BackR.step {u v z:List Nat} {i c:Nat} (h:BackR u v z i c) (hv:bv v) (hi:i<v.length) (hl:v.length≤u.length) :
  BackR u v (z.set i ((c+(z.getD i 0+v.getD i 0)) % 4294967296)) (i+1) ((c+(z.getD i 0+v.getD i 0)) / 4294967296):=by
 have hz:i<z.length:=by rw [h.len]; omega
 have hs:=fL (l:=z) (v:=(c+(z.getD i 0+v.getD i 0)) % 4294967296) hz
 have hvv:=h.val
 have g1:=aY h.lim i
 have g2:=aY hv i
 have hc:=h.hc
 refine ⟨hi,by rw [List.length_set]; exact h.len,h.lim.set (Nat.mod_lt _ U),by omega,?_⟩
 rw [bF hi,Nat.pow_succ]
 generalize z.getD i 0=x at *
 generalize v.getD i 0=y at *
 generalize 4294967296^i=B at *
 have e:4294967296*((c+(x+y)) / 4294967296)+(c+(x+y)) % 4294967296=c+(x+y):=by omega
 generalize (c+(x+y)) / 4294967296=t1 at *
 generalize (c+(x+y)) % 4294967296=t2 at *
 have e3:B*(4294967296*t1+t2)=B*(c+(x+y)):=by rw [e]
 simp only [Nat.mul_add,Nat.mul_assoc] at e3 hvv ⊢
 omega
theorem SubR.good {u v z:List Nat} {q b c d:Nat} (h:SubR u v q z v.length b c) (hl:u.length=v.length+1) (hV:0<lv v)
  (hQ:lv u / lv v≤q) (hd:d=((z.getD v.length 0+18446744073709551616 - c) % 18446744073709551616+18446744073709551616 - b) % 18446744073709551616) (h0:d / 9223372036854775808=0) :
  q=lv u / lv v∧bv (z.set v.length (d % 4294967296))∧lv (z.set v.length (d % 4294967296))=lv u % lv v:=by
 obtain ⟨h1,h2⟩:=pU (aY h.lim v.length) h.hc h.hb hd
 have hz:v.length<z.length:=by rw [h.len]; omega
 have hs:=fL (l:=z) (v:=d % 4294967296) hz
 have hvv:=h.val
 rw [List.take_length] at hvv
 have e:lv (z.set v.length (d % 4294967296))+q*lv v=lv u:=by
  rw [h0] at h1
  generalize z.getD v.length 0=x at *
  clear hd
  generalize d % 4294967296=r at *
  generalize 4294967296^v.length=B at *
  have e2:B*(r+c+b)=B*(x+4294967296*0):=by rw [h1]
  simp only [Nat.mul_add] at e2 hvv
  omega
 have e4:lv (z.set v.length (d % 4294967296))=lv u - q*lv v:=by omega
 have hle:q≤lv u / lv v:=(Nat.le_div_iff_mul_le hV).2 X
 have eq:q=lv u / lv v:=by omega
 refine ⟨eq,h.lim.set (Nat.mod_lt _ U),?_⟩
 have:=Nat.div_add_mod (lv u) (lv v)
 rw [e4,eq,Nat.mul_comm]; omega
theorem SubR.bad {u v z:List Nat} {q b c d:Nat} (h:SubR u v q z v.length b c) (hl:u.length=v.length+1) (hV:0<lv v)
  (hQ:lv u / lv v≤q) (hq:q≤lv u / lv v+1) (hd:d=((z.getD v.length 0+18446744073709551616 - c) % 18446744073709551616+18446744073709551616 - b) % 18446744073709551616) (h0:d / 9223372036854775808≠0) :
  q=lv u / lv v+1∧bv (z.set v.length (d % 4294967296))∧lv (z.set v.length (d % 4294967296))+lv v=lv u % lv v+4294967296^(v.length+1):=by
 obtain ⟨h1,h2⟩:=pU (aY h.lim v.length) h.hc h.hb hd
 have hz:v.length<z.length:=by rw [h.len]; omega
 have hs:=fL (l:=z) (v:=d % 4294967296) hz
 have hvv:=h.val
 rw [List.take_length] at hvv
 have hL:bv (z.set v.length (d % 4294967296)):=h.lim.set (Nat.mod_lt _ U)
 have hlt:=gE hL
 rw [List.length_set,h.len,hl] at hlt
 have h3:d / 9223372036854775808=1:=by omega
 have e:lv (z.set v.length (d % 4294967296))+q*lv v=lv u+4294967296^(v.length+1):=by
  rw [h3] at h1
  generalize z.getD v.length 0=x at *
  clear hd hL hlt h0 h2 h3
  generalize lv (z.set v.length (d % 4294967296))=y at *
  generalize d % 4294967296=r at *
  rw [Nat.pow_succ]
  generalize 4294967296^v.length=B at *
  have e2:B*(r+c+b)=B*(x+4294967296*1):=by rw [h1]
  simp only [Nat.mul_add] at e2 hvv
  omega
 have hm:=Nat.div_add_mod (lv u) (lv v)
 have hne:q≠lv u / lv v:=fun hx=>by
  rw [hx,Nat.mul_comm] at e;omega
 have eq:q=lv u / lv v+1:=by omega
 refine ⟨eq,hL,?_⟩
 rw [eq,Nat.add_mul,Nat.one_mul,Nat.mul_comm] at e
 omega
theorem BackR.good {u v z:List Nat} {c R x:Nat} (h:BackR u v z v.length c) (hl:u.length=v.length+1) (hV:R<lv v) (hv:bv v)
  (hu:lv u+lv v=R+4294967296^(v.length+1)) (hx:x=(z.getD v.length 0+c) % 4294967296):bv (z.set v.length x)∧lv (z.set v.length x)=R:=by
 have hz:v.length<z.length:=by rw [h.len]; omega
 have hs:=fL (l:=z) (v:=x) hz
 have hvv:=h.val
 rw [List.take_length] at hvv
 have hL:bv (z.set v.length x):=h.lim.set (by rw [hx]; exact Nat.mod_lt _ U)
 have hlt:=gE hL
 rw [List.length_set,h.len,hl] at hlt
 have hzl:=aY h.lim v.length
 have hc:=h.hc
 have hvl:=gE hv
 refine ⟨hL,?_⟩
 rcases Nat.lt_or_ge (z.getD v.length 0+c) 4294967296 with h5 | h5
 ·have h6:x=z.getD v.length 0+c:=by omega
  have e:lv (z.set v.length x)=lv u+lv v:=by
   rw [h6] at hs
   rw [h6]
   rw [Nat.mul_add] at hs
   omega
  omega
 ·have h6:x+4294967296=z.getD v.length 0+c:=by omega
  have e:lv (z.set v.length x)+4294967296^(v.length+1)=lv u+lv v:=by
   generalize lv (z.set v.length x)=y at *
   clear hlt
   rw [hu,Nat.pow_succ]
   generalize z.getD v.length 0=t at *
   rw [hu,Nat.pow_succ] at hvv
   generalize 4294967296^v.length=B at *
   have e2:B*(x+4294967296)=B*(t+c):=by rw [h6]
   simp only [Nat.mul_add] at e2
   omega
  omega
end Tor
end
section
namespace Tor
open Go Go.RowKit Go.Proofs
variable [Tor.Co.Kc]
def gW (W0 W:List Nat) (j m:Nat):Prop:=W.length=W0.length∧W.take j=W0.take j∧W.drop (j+m)=W0.drop (j+m)
theorem gW.refl (W:List Nat) (j m:Nat):gW W W j m:=⟨rfl,rfl,rfl⟩
theorem gW.set {W0 W:List Nat} {j m i x:Nat} (h:gW W0 W j m) (hi:i<m):gW W0 (W.set (j+i) x) j m :=
 ⟨by rw [List.length_set]; exact h.1,by rw [List.take_set_of_le X]; exact h.2.1,by rw [List.drop_set_of_lt X]; exact h.2.2⟩
theorem B7 {q Q:Nat} (h:q=Q+1) (hq:q<4294967296):(q+18446744073709551616 - 1) % 18446744073709551616 % 4294967296=Q:=by omega
structure DgS (W0 v:List Nat) (j k q:Nat) (s:List Nat × Nat × Nat × Nat):Prop where
 out:gW W0 s.1 j (k+3)
 lim:bv s.1
 sub:SubR (win W0 j (k+3)) v q (win s.1 j (k+3)) s.2.1 s.2.2.1 s.2.2.2
structure DgB (W0 W1 v:List Nat) (j k:Nat) (s:List Nat × Nat × Nat):Prop where
 out:gW W0 s.1 j (k+3)
 lim:bv s.1
 back:BackR (win W1 j (k+3)) v (win s.1 j (k+3)) s.2.1 s.2.2
abbrev A9 (W v:List Nat) (j k:Nat):Type := {W':List Nat // gW W W' j (k+3)∧bv W'∧lv (win W' j (k+3))=lv (win W j (k+3)) % lv v}
theorem GuessR.aux {top h:Nat} (ht:top<(h+1)*4294967296) (hh:2147483648≤h):top<h*4294967298:=by
 have e1:h*4294967298=h*4294967296+h*2:=by rw [← Nat.mul_add]
 have e2:(h+1)*4294967296=h*4294967296+4294967296:=by rw [Nat.add_mul]
 have e3:4294967296≤h*2:=Nat.mul_le_mul_right 2 hh
 rw [e1]; rw [e2] at ht
 exact Nat.lt_of_lt_of_le ht (Nat.add_le_add_left e3 _)
theorem GuessR.start {Cw Cx P h v2 top u2:Nat} (g:Gss Cw Cx 4294967296 P h v2 top u2) (hh:2147483648≤h) (hl:h<4294967296):GuessR h top (Cw / Cx) (top / h,top % h):=by
 have hm:=Nat.mod_lt top (show 0<h by omega)
 refine ⟨?_,?_,g.start,?_⟩
 ·show top / h*h+top % h=top
  rw [Nat.mul_comm]; exact Nat.div_add_mod top h
 ·show top % h<_;omega
 ·have ht:=g.top
  have h1:top<h*4294967298:=GuessR.aux ht hh
  exact Nat.lt_succ_iff.1 (Nat.div_lt_of_lt_mul h1)
theorem GuessR.next {h top Q q r:Nat} (s:GuessR h top Q (q,r)) (hQ:Q<q) (hr:r+h<4294967296):GuessR h top Q (q - 1,r+h):=by
 obtain ⟨p,rfl⟩ : ∃ p,q=p+1:=⟨q - 1,by omega⟩
 have e:(p+1)*h+r=top:=s.e
 have m:p+1≤4294967297:=s.m
 refine ⟨?_,hr,?_,?_⟩
 ·show (p+1 - 1)*h+(r+h)=top
  rw [Nat.add_mul,Nat.one_mul] at e
  rw [Nat.add_sub_cancel]; omega
 ·show Q≤p+1 - 1;omega
 ·show p+1 - 1≤_;omega
theorem GuessR.last {Cw Cx P h v2 top u2 q r:Nat} (g:Gss Cw Cx 4294967296 P h v2 top u2) (s:GuessR h top (Cw / Cx) (q,r)) (hQ:Cw / Cx<q) (hr:4294967296≤r+h):q - 1<4294967296∧Cw / Cx≤q - 1∧q - 1≤Cw / Cx+1:=by
 obtain ⟨p,rfl⟩ : ∃ p,q=p+1:=⟨q - 1,by have:=Nat.lt_of_le_of_lt (Nat.zero_le _) hQ;omega⟩
 have e:(p+1)*h+r=top:=s.e
 have ht:=g.top
 have e2:p*h+(r+h)=top:=by rw [Nat.add_mul,Nat.one_mul] at e;omega
 have h1:p<4294967296:=by
  rcases Nat.lt_or_ge p 4294967296 with h1 | h1
  ·exact h1
  ·have:=Nat.mul_le_mul_right h h1
   omega
 rw [Nat.add_sub_cancel]
 exact ⟨h1,Nat.lt_succ_iff.1 hQ,g.done e2 h1 (.inr hr)⟩
attribute [local irreducible] J PJ aJ one slT bL bG bD exT cn eP aU aN slV VT.le Ret bS
set_option maxRecDepth 20000 in
theorem xq (b N j cap k:Nat) (W v:List Nat) (hW:bv W) (hv:bv v) (hN:W.length=N) (hj:j+(k+3)≤N) (hk:v.length=k+2) (hb31:v.length≤1099511627776) (hh:2147483648≤v.getD (k+1) 0) (hlt:lv (win W j (k+3))<lv v*4294967296) :
  OkI Tryz.prog 172 [one (w6 b j 1 (k+3) cap),cd v] [aN (some b) 83 .one N N (fx W)] (fun _:A9 W v j k=>one (.int .u32 ((lv (win W j (k+3)) / lv v:Nat):Int))) (fun s => [aN (some b) 83 .one N N (fx s.1)]):=by
 unfold cd
 rw [hk]
 refine OkI.enter Tryz.func172 Z Tryz.ntmps172 Z (fun w O => ?_)
 have lw:=uq (W:=W) (j:=j) (m:=k+3) X
 have g:=A8 (hW.win j (k+3)) hv lw hk X hlt
 rw [gJ X,gJ X,gJ X] at g
 have x0:=aY hW (j+k)
 have x1:=aY hW (j+(k+1))
 have x2:=aY hW (j+(k+2))
 have y1:=aY hv (k+1)
 have y0:=aY hv k
 rw [hk] at hb31
 have y1':v.getD (k+2 - 1) 0<4294967296:=y1
 have y0':v.getD (k+2 - 2) 0<4294967296:=y0
 have yh':2147483648≤v.getD (k+2 - 1) 0:=hh
 have x1':W.getD (j+(k+2 - 1)) 0<4294967296:=x1
 have x0':W.getD (j+(k+2 - 2)) 0<4294967296:=x0
 refine ae (ai (CH Z (CJ (aa (ae (ai (CG Z (CF (aW Z) (CH Z ?_)))))))))
 refine CJ (aa (ae (ai (CG Z (CG Z (CF (bT _ 1 Z Z X X) (CF (aE Z Z X) (CF (aV Z) (CF (bH Z X) ?_)))))))))
 refine CH Z (CJ (aa (ae (bh 13 a8 Y U (CG Z (CG Z (CF (dA Z Z X) (CF (cf 0 Z Z X) (CF (bH Z X) ?_)))))))))
 refine CF (j5 (s:=32) Z Z X X) (CG Z (CG Z (CF (bT _ 1 Z Z X X) (CF (dA Z Z X) (CF (cf 0 Z Z X) (CF (bH Z X) (CF (jZ Z Z X X) (CJ (CH Z ?_)))))))))
 refine CJ (aa (ae (bh 7 a8 Y U (CG Z (CG Z (CF (ja Z Z X X) (CG Z (CG Z (CF (ef _ Z Z Z X) ?_)))))))))
 refine CH Z (CJ (CH Z (CJ (aa (ae (av (ch (Γ' := [(0,_),(1,_),(4,_),(5,_),(6,_),(8,_),(9,_)]) Cz (SubM.refl _) ?_)))))))
 refine zd (σ:=Nat) (Γk := [(0,_),(1,_),(4,_),(5,_)]) (dR.cons Z A (dR.cons Z A (dR.cons Z A (dR.cons Z A dR.nil)))) (fun q => [(8,one (.int .u64 (q:Nat)))]) (fun _ M0=>M0) (fun q=>q<4294967296∧lv (win W j (k+3)) / lv v≤q∧q≤lv (win W j (k+3)) / lv v+1) ?_ (fun q hq => ?_)
 ·refine ch (Γ' := [(0,_),(1,_),(4,_),(5,_),(6,_),(8,_),(9,_)]) Cz (SubM.refl _) ?_
  refine bE (σ:=Nat × Nat) (Γk := [(0,_),(1,_),(4,_),(5,_),(6,_)]) Cz (fun p => [(8,one (.int .u64 (p.1:Nat))),(9,one (.int .u64 (p.2:Nat)))]) (fun p M0=>M0) (fun p=>GuessR (v.getD (k+1) 0) (W.getD (j+(k+2)) 0*4294967296+W.getD (j+(k+1)) 0) (lv (win W j (k+3)) / lv v) p) (fun p=>p.1) (((W.getD (j+(k+2)) 0*4294967296+W.getD (j+(k+1)) 0) / v.getD (k+1) 0,(W.getD (j+(k+2)) 0*4294967296+W.getD (j+(k+1)) 0) % v.getD (k+1) 0)) (GuessR.start g hh y1) CA (.keep CE (.nil)) (fun p hp => ?_)
  refine bR (Γ' := [(8,_),(9,_),(0,_),(1,_),(4,_),(5,_),(6,_)]) (M' := [_]) Z Z ?_
  obtain ⟨q,r⟩:=p
  dsimp only at hp ⊢
  have hr:r<4294967296:=hp.r
  have hqm:q≤4294967297:=hp.m
  by_cases hA:4294967295<q
  ·have hQ:lv (win W j (k+3)) / lv v<q:=Nat.lt_of_lt_of_le g.q_lt hA
   have hq1:1≤q:=Nat.lt_of_le_of_lt (Nat.zero_le _) hQ
   have hq2:(q+18446744073709551616 - 1) % 18446744073709551616=q - 1:=by omega
   by_cases hC:4294967296≤r+v.getD (k+2 - 1) 0
   ·refine ae (ae (bh 22 a8 Y U (CG Z (CF (sT X (dh Z Z)) (CG Z (sg0 Z Z Z Z (sg0 Z Z Z Z (sg0 Z Z Z Z (sg0 Z Z Z Z ?_)))))))))
    refine sg0 Z Z Z Z (sg0 Z Z Z Z (sg0 Z Z Z Z (sg0 Z Z Z Z (sg0 Z Z Z Z (sg0 Z Z Z Z (sg0 Z Z Z Z (sg0 Z Z Z Z (sg0 Z Z Z Z (sg0 Z Z Z Z ?_)))))))))
    refine sg0 Z Z Z Z (sg0 Z Z Z Z (sg0 Z Z Z Z (sg0 Z Z Z Z (CF (bp Z Z) (CJ (CJ (aa (aI Z (aw ?_)))))))))
    refine aa (av (ae (ai (CG Z (CF (fd Z Z X U) (CH Z (CJ (aa (ae ?_)))))))))
    refine ai (CG Z (CG Z (CF (di Z Z X) (CH Z (CJ (aa (ae (ai (CG Z ?_)))))))))
    refine CF (sT X (dh Z Z)) (CJ (aa (aI Z (a6 (dK Z (ax (aM ?_)))))))
    rw [hq2]
    refine cJ (q - 1) (hp.last g hQ hC) CA (.keep CE (.nil))
   ·refine ae (ae (bh 22 a8 Y U (CG Z (CF (sT X (dh Z Z)) (CG Z (sg0 Z Z Z Z (sg0 Z Z Z Z (sg0 Z Z Z Z (sg0 Z Z Z Z ?_)))))))))
    refine sg0 Z Z Z Z (sg0 Z Z Z Z (sg0 Z Z Z Z (sg0 Z Z Z Z (sg0 Z Z Z Z (sg0 Z Z Z Z (sg0 Z Z Z Z (sg0 Z Z Z Z (sg0 Z Z Z Z (sg0 Z Z Z Z ?_)))))))))
    refine sg0 Z Z Z Z (sg0 Z Z Z Z (sg0 Z Z Z Z (sg0 Z Z Z Z (CF (bp Z Z) (CJ (CJ (aa (aI Z (aw ?_)))))))))
    refine aa (av (ae (ai (CG Z (CF (fd Z Z X U) (CH Z (CJ (aa (ae ?_)))))))))
    refine ai (CG Z (CG Z (CF (di Z Z X) (CH Z (CJ (aa (ae (ai (CG Z ?_)))))))))
    refine CF (sF X (dh Z Z)) (CJ (aa (aB Z (aw (aL ?_)))))
    rw [hq2]
    refine aR ((q - 1,r+v.getD (k+1) 0)) (hp.next hQ (Nat.lt_of_not_le hC)) X CA (.keep CE (.nil))
  ·have hqv:=pV (q:=q) (c:=0) X y0 U
   have hqv1:q*v.getD (k+2 - 2) 0<18446744073709551616:=hqv.1
   by_cases hB:r*4294967296+W.getD (j+(k+2 - 2)) 0<q*v.getD (k+2 - 2) 0
   ·have hQ:lv (win W j (k+3)) / lv v<q:=g.low hp.e hB
    have hq1:1≤q:=Nat.lt_of_le_of_lt (Nat.zero_le _) hQ
    have hq2:(q+18446744073709551616 - 1) % 18446744073709551616=q - 1:=by omega
    by_cases hC:4294967296≤r+v.getD (k+2 - 1) 0
    ·refine ae (ae (bh 22 a8 Y U (CG Z (CF (sF X (dh Z Z)) (CG Z (CI (ab Z) (CI (ab Z) (CI (ab Z) (CI (bT _ 2 Z Z X X) ?_)))))))))
     refine CI (aE Z Z X) (CI (aV Z) (CI (bH Z X) (CI (fc Z Z X) (CI (ab Z) (CI (pH Z X) (CI (ab Z) (CI (ab Z) (CI (bT _ 2 Z Z X X) (CI (dA Z Z X) ?_)))))))))
     refine CI (cf 0 Z Z X) (CI (bH Z X) (CI (jZ Z Z X X) (CI (sT X (dh Z Z)) (CF (bK Z Z) (CJ (CJ (aa (aI Z (aw ?_)))))))))
     refine aa (av (ae (ai (CG Z (CF (fd Z Z X U) (CH Z (CJ (aa (ae ?_)))))))))
     refine ai (CG Z (CG Z (CF (di Z Z X) (CH Z (CJ (aa (ae (ai (CG Z ?_)))))))))
     refine CF (sT X (dh Z Z)) (CJ (aa (aI Z (a6 (dK Z (ax (aM ?_)))))))
     rw [hq2]
     refine cJ (q - 1) (hp.last g hQ hC) CA (.keep CE (.nil))
    ·refine ae (ae (bh 22 a8 Y U (CG Z (CF (sF X (dh Z Z)) (CG Z (CI (ab Z) (CI (ab Z) (CI (ab Z) (CI (bT _ 2 Z Z X X) ?_)))))))))
     refine CI (aE Z Z X) (CI (aV Z) (CI (bH Z X) (CI (fc Z Z X) (CI (ab Z) (CI (pH Z X) (CI (ab Z) (CI (ab Z) (CI (bT _ 2 Z Z X X) (CI (dA Z Z X) ?_)))))))))
     refine CI (cf 0 Z Z X) (CI (bH Z X) (CI (jZ Z Z X X) (CI (sT X (dh Z Z)) (CF (bK Z Z) (CJ (CJ (aa (aI Z (aw ?_)))))))))
     refine aa (av (ae (ai (CG Z (CF (fd Z Z X U) (CH Z (CJ (aa (ae ?_)))))))))
     refine ai (CG Z (CG Z (CF (di Z Z X) (CH Z (CJ (aa (ae (ai (CG Z ?_)))))))))
     refine CF (sF X (dh Z Z)) (CJ (aa (aB Z (aw (aL ?_)))))
     rw [hq2]
     refine aR ((q - 1,r+v.getD (k+1) 0)) (hp.next hQ (Nat.lt_of_not_le hC)) X CA (.keep CE (.nil))
   ·refine ae (ae (bh 22 a8 Y U (CG Z (CF (sF X (dh Z Z)) (CG Z (CI (ab Z) (CI (ab Z) (CI (ab Z) (CI (bT _ 2 Z Z X X) ?_)))))))))
    refine CI (aE Z Z X) (CI (aV Z) (CI (bH Z X) (CI (fc Z Z X) (CI (ab Z) (CI (j5 (s:=32) Z Z X X) (CI (ab Z) (CI (ab Z) (CI (bT _ 2 Z Z X X) (CI (dA Z Z X) ?_)))))))))
    refine CI (cf 0 Z Z X) (CI (bH Z X) (CI (jZ Z Z X X) (CI (sF X (dh Z Z)) (CF (bK Z Z) (CJ (CJ (aa (aB Z (a6 ?_)))))))))
    refine ax (ax (aM ?_))
    have hqB:q<4294967296:=by omega
    refine cJ (q) (⟨hqB,hp.q,g.done hp.e hqB (.inl (Nat.le_of_not_lt hB))⟩) CA (.keep CE (.nil))
 ·obtain ⟨hq1,hq2,hq3⟩:=hq
  have lu:=lw
  refine aa (ae (ai (CH Z (CH Z (CJ (aa (ae (ae (ai ?_)))))))))
  refine CG Z (CF (aW Z) (CG Z (CJ (aa (av (ch (Γ' := [(0,_),(1,_),(4,_),(5,_),(8,_),(10,_),(11,_),(74,_),(75,_),(76,_)]) Cz (SubM.refl _) ?_))))))
  refine bE (σ:=List Nat × Nat × Nat × Nat) (Γk := [(0,_),(1,_),(4,_),(5,_),(8,_),(74,_),(75,_)]) Cz (fun s => [(76,one (.int .i64 (s.2.1:Nat))),(10,one (.int .u64 (s.2.2.1:Nat))),(11,one (.int .u64 (s.2.2.2:Nat)))]) (fun s M0=>(M0.set 0 (aN (some b) 83 .one N N (fx s.1)))) (fun s=>DgS W v j k q s) (fun s=>k+2 - s.2.1) ((W,0,0,0)) (⟨gW.refl _ _ _,hW,SubR.start (hW.win _ _)⟩) CA (.keep CE (.nil)) (fun s hs => ?_)
  refine bR (Γ' := [(76,_),(10,_),(11,_),(0,_),(1,_),(4,_),(5,_),(8,_),(74,_),(75,_)]) (M' := [_]) Z Z ?_
  obtain ⟨W1,i,br,c⟩:=s
  dsimp only at hs ⊢
  have h1o:=hs.out
  have h1l:=hs.lim
  have h1s:=hs.sub
  dsimp only at h1o h1l h1s
  have hbr:=h1s.hb
  have hcr:=h1s.hc
  have hN1:W1.length=N:=h1o.1.trans hN
  refine ae (ai (CF (bq Z Z) (CJ (aa (ae ?_)))))
  refine mq Z (fun hc => ?_) (fun hc => ?_)
  ·have hi:i<k+2:=by omega
   have z1:=aY h1l (j+i)
   have v1:=aY hv i
   have sl:=pV hq1 v1 hcr
   have sl1:=sl.1
   have sl2:=sl.2.1
   have sl3:=sl.2.2
   obtain ⟨d,hd⟩ : ∃ d,d=((W1.getD (j+i) 0+18446744073709551616 - (c+q*v.getD i 0) % 4294967296) % 18446744073709551616+18446744073709551616 - br) % 18446744073709551616:=⟨_,rfl⟩
   have hst:=h1s.step hv hq1 X (by rw [lu,hk]; omega) (d:=d) (by rw [gJ X]; exact hd)
   rw [← kY X] at hst
   refine aw (aa (ae (av (ae (ai (CG Z (CF (aE Z Z X) (CF (aV Z) (CH Z ?_)))))))))
   refine CH Z (CJ (aa (ae (ai (CG Z (CG Z (CG Z (CF (bH Z X) (CF (fc Z Z X) ?_)))))))))
   refine CF (di Z Z X) (CH Z (CJ (aa (ae (ai (CG Z (CG Z (CF (dA Z Z X) (CF (cf 0 Z Z X) ?_)))))))))
   refine CF (bH Z X) (CG Z (CF (sS Z X) (CF (fd Z Z X X) (CG Z (CF (fd Z Z X X) (CH Z (CJ (aa (ae ?_)))))))))
   refine ai (CG Z (CG Z (CG Z (CF (cw Z) (CF (dA Z Z X) ?_)))))
   (refine aA 0 Z Z Z ?_ Z ?_;omega)
   refine CJ (aa (ae (ai (CG Z (CF (pw Z) (CH Z (CJ (aa (ai ?_)))))))))
   refine CG Z (CF (fe Z) (CH Z (CJ (aL (aa (ai (CF (bQ _ 1 Z Z X) (CG Z (CJ ?_)))))))))
   rw [← hd]
   refine aR ((W1.set (j+i) (d % 4294967296),i+1,d / 9223372036854775808,(c+q*v.getD i 0) / 4294967296)) (⟨h1o.set X,h1l.set (Nat.mod_lt _ U),hst⟩) (by (simp only []; omega)) CA (.keep (fU X Z) (.nil))
  ·have hi:i=k+2:=by have:=h1s.le;omega
   subst hi
   have z1:=aY h1l (j+(k+2))
   obtain ⟨d,hd⟩ : ∃ d,d=((W1.getD (j+(k+2)) 0+18446744073709551616 - c) % 18446744073709551616+18446744073709551616 - br) % 18446744073709551616:=⟨_,rfl⟩
   have h1v:SubR (win W j (k+3)) v q (win W1 j (k+3)) v.length br c:=by rw [hk]; exact h1s
   have hdw:d=(((win W1 j (k+3)).getD v.length 0+18446744073709551616 - c) % 18446744073709551616+18446744073709551616 - br) % 18446744073709551616:=by rw [hk,gJ X]; exact hd
   refine a6 (ax (ax (aM (aa (ae (ai (CG Z (CG Z (CF (dA Z Z X) ?_)))))))))
   refine CF (cf 0 Z Z X) (CF (bH Z X) (CG Z (CF (fd Z Z X X) (CG Z (CF (fd Z Z X X) (CH Z (CJ (aa (ae ?_)))))))))
   refine ai (CG Z (CG Z (CG Z (CF (cw Z) (CF (dA Z Z X) ?_)))))
   (refine aA 0 Z Z Z ?_ Z ?_;omega)
   refine CJ (aa (ae (ae (ai (CG Z (CF (pw Z) (CF (cq Z Z) (CJ (aa ?_)))))))))
   rw [← hd]
   refine mq Z (fun h0 => ?_) (fun h0 => ?_)
   ·obtain ⟨f1,f2,f3⟩:=h1v.good (by rw [lu,hk]) g.V0 hq2 hdw X
    rw [hk, ← kY X] at f3
    refine ae (ai (CG Z (CF (cw Z) (CH Z (CJ (aa (aG (aK ?_))))))))
    refine ui (⟨W1.set (j+(k+2)) (d % 4294967296),h1o.set X,h1l.set (Nat.mod_lt _ U),f3⟩:A9 W v j k) Tryz.results172 (.tmp Z (ao (by rw [← f1,Nat.mod_eq_of_lt hq1]))) (.keep (fU X Z) .nil)
   ·obtain ⟨f1,f2,f3⟩:=h1v.bad (by rw [lu,hk]) g.V0 hq2 hq3 hdw X
    rw [hk, ← kY X] at f3
    obtain ⟨W2,hW2⟩ : ∃ W2,W2=W1.set (j+(k+2)) (d % 4294967296):=⟨_,rfl⟩
    have h2o:gW W W2 j (k+3):=hW2▸h1o.set X
    have h2l:bv W2:=hW2▸h1l.set (Nat.mod_lt _ U)
    have hN2:W2.length=N:=h2o.1.trans hN
    rw [← hW2] at f3
    refine aw (aa (ae (ai (CH Z (CJ (aa (ae (ae (ai ?_)))))))))
    refine CG Z (CF (aW Z) (CG Z (CJ (aa (av (ch (Γ' := [(0,_),(4,_),(5,_),(8,_),(11,_),(126,_),(127,_),(128,_)]) Cz (SubM.refl _) ?_))))))
    refine bE (σ:=List Nat × Nat × Nat) (Γk := [(0,_),(4,_),(5,_),(8,_),(126,_),(127,_)]) Cz (fun s => [(128,one (.int .i64 (s.2.1:Nat))),(11,one (.int .u64 (s.2.2:Nat)))]) (fun s M0=>(M0.set 0 (aN (some b) 83 .one N N (fx s.1)))) (fun s=>DgB W W2 v j k s) (fun s=>k+2 - s.2.1) ((W2,0,0)) (⟨h2o,h2l,BackR.start (h2l.win _ _)⟩) CA (.keep (by (subst hW2;exact fU X Z)) (.nil)) (fun s hs => ?_)
    refine bR (Γ' := [(128,_),(11,_),(0,_),(4,_),(5,_),(8,_),(126,_),(127,_)]) (M' := [_]) Z Z ?_
    obtain ⟨W3,i,c3⟩:=s
    dsimp only at hs ⊢
    have h3o:=hs.out
    have h3l:=hs.lim
    have h3s:=hs.back
    dsimp only at h3o h3l h3s
    have hcr:=h3s.hc
    have hN3:W3.length=N:=h3o.1.trans hN
    have lu2:(win W2 j (k+3)).length=k+3:=uq X
    refine ae (ai (CF (bq Z Z) (CJ (aa (ae ?_)))))
    refine mq Z (fun hc => ?_) (fun hc => ?_)
    ·have hi:i<k+2:=by omega
     have z1:=aY h3l (j+i)
     have v1:=aY hv i
     have hst:=h3s.step hv X (by rw [lu2,hk]; omega)
     rw [gJ X, ← kY X] at hst
     refine aw (aa (ae (av (ae (ai (CG Z (CF (aE Z Z X) (CF (aV Z) (CH Z ?_)))))))))
     refine CH Z (CJ (aa (ae (ai (CG Z (CG Z (CG Z (CF (dA Z Z X) (CF (cf 0 Z Z X) ?_)))))))))
     refine CF (bH Z X) (CG Z (CF (bH Z X) (CF (di Z Z X) (CF (di Z Z X) (CH Z (CJ (aa (ae (ai ?_)))))))))
     refine CG Z (CG Z (CG Z (CF (cw Z) (CF (dA Z Z X) ?_))))
     (refine aA 0 Z Z Z ?_ Z ?_;omega)
     refine CJ (aa (ai (CG Z (CF (fe Z) (CH Z (CJ (aL (aa (ai ?_)))))))))
     refine CF (bQ _ 1 Z Z X) (CG Z (CJ ?_))
     refine aR ((W3.set (j+i) ((c3+(W3.getD (j+i) 0+v.getD i 0)) % 4294967296),i+1,(c3+(W3.getD (j+i) 0+v.getD i 0)) / 4294967296)) (⟨h3o.set X,h3l.set (Nat.mod_lt _ U),hst⟩) (by (simp only []; omega)) CA (.keep (fU X Z) (.nil))
    ·have hi:i=k+2:=by have:=h3s.le;omega
     subst hi
     have z1:=aY h3l (j+(k+2))
     have h3v:BackR (win W2 j (k+3)) v (win W3 j (k+3)) v.length c3:=by rw [hk]; exact h3s
     obtain ⟨f4,f5⟩:=h3v.good (R:=lv (win W j (k+3)) % lv v) (x:=(W3.getD (j+(k+2)) 0+c3) % 4294967296) (by rw [lu2,hk]) (Nat.mod_lt _ g.V0) hv (by rw [hk]; exact f3) (by rw [hk,gJ X])
     rw [hk, ← kY X] at f5
     refine a6 (ax (ax (aM (aa (ae (ai (CG Z (CG Z (CF (dA Z Z X) ?_)))))))))
     refine CF (cf 0 Z Z X) (CG Z (CF (cw Z) (CF (AX Z Z) (CF (dA Z Z X) ?_))))
     (refine aA 0 Z Z Z ?_ Z ?_;omega)
     refine CJ (aa (ae (ai (CG Z (CF (fd Z Z X U) (CF (cw Z) (CH Z (CJ (aa ?_)))))))))
     refine aG ?_
     have e1:(q+18446744073709551616 - 1) % 18446744073709551616 % 4294967296=lv (win W j (k+3)) / lv v:=B7 f1 hq1
     refine ui (⟨W3.set (j+(k+2)) ((W3.getD (j+(k+2)) 0+c3) % 4294967296),h3o.set X,h3l.set (Nat.mod_lt _ U),f5⟩:A9 W v j k) Tryz.results172 (.tmp Z (ao (by rw [e1]))) (.keep (fU X (by rw [Nat.mod_eq_of_lt (show c3<4294967296 by omega)])) .nil)
end Tor
end
section
namespace Tor
open Go Go.RowKit Go.Proofs
variable [Tor.Co.Kc]
theorem rq (Cw:List Nat) {j m:Nat} (h:j+m≤Cw.length):lv (Cw.drop j)=lv (win Cw j m)+4294967296^m*lv (Cw.drop (j+m)):=by
 have h1:=fj (Cw.drop j) m (by simp;omega)
 rw [List.drop_drop] at h1
 exact h1
theorem gp {Cw:List Nat} {j:Nat} (h:j<Cw.length):lv (Cw.drop j)=Cw.getD j 0+4294967296*lv (Cw.drop (j+1)):=by
 rw [eU h]; rfl
structure DivR (Cx Cy n e:Nat) (p:List Nat × List Nat × Nat):Prop where
 le:p.2.2≤e+1
 lu:p.1.length=n+e+1
 lq:p.2.1.length=e+1
 limU:bv p.1
 limQ:bv p.2.1
 zero : ∀ k,k<p.2.2→p.2.1.getD k 0=0
 lt:lv (p.1.drop p.2.2)<Cx
 val:lv p.1+lv p.2.1*Cx=Cy
theorem DivR.pre {Cx Cy n e j:Nat} {Cw Q:List Nat} (h:DivR Cx Cy n e (Cw,Q,j+1)) (hV:Cx<4294967296^n):j+(n+1)≤Cw.length∧lv (Cw.drop (j+(n+1)))=0∧lv (Cw.drop j)=lv (win Cw j (n+1))∧lv (win Cw j (n+1))<Cx*4294967296:=by
 have hle:j+1≤e+1:=h.le
 have hlu:Cw.length=n+e+1:=h.lu
 have hlt:lv (Cw.drop (j+1))<Cx:=h.lt
 have h1:j+(n+1)≤Cw.length:=by omega
 have h2:=gp (Cw:=Cw) (j:=j) X
 have h3:=rq Cw h1
 have hd:=aY (show bv Cw from h.limU) j
 have h4:lv (Cw.drop j)<Cx*4294967296:=by
  rw [h2]
  generalize lv (Cw.drop (j+1))=x at *
  generalize Cw.getD j 0=y at *
  omega
 have h5:lv (Cw.drop (j+(n+1)))=0:=by
  rcases Nat.eq_zero_or_pos (lv (Cw.drop (j+(n+1)))) with h | h
  ·exact h
  ·exfalso
   have h6:4294967296^(n+1)≤4294967296^(n+1)*lv (Cw.drop (j+(n+1))):=Nat.le_mul_of_pos_right _ h
   have h7:Cx*4294967296<4294967296^(n+1):=by rw [Nat.pow_succ]; exact Nat.mul_lt_mul_of_pos_right hV U
   omega
 rw [h5,Nat.mul_zero,Nat.add_zero] at h3
 exact ⟨h1,h5,h3,h3▸h4⟩
theorem DivR.step {Cx Cy n e j q:Nat} {Cw Q U':List Nat} (h:DivR Cx Cy n e (Cw,Q,j+1)) (hV0:0<Cx) (hV:Cx<4294967296^n) (ho:gW Cw U' j (n+1)) (hl:bv U') (hr:lv (win U' j (n+1))=lv (win Cw j (n+1)) % Cx) (hq:q=lv (win Cw j (n+1)) / Cx) :
  DivR Cx Cy n e (U',Q.set j q,j):=by
 obtain ⟨p1,p2,p3,p4⟩:=h.pre hV
 obtain ⟨o1,o2,o3⟩:=ho
 have hle:j+1≤e+1:=h.le
 have hlq:Q.length=e+1:=h.lq
 have hqB:q<4294967296:=by rw [hq]; exact Nat.div_lt_of_lt_mul p4
 have h0:Q.getD j 0=0:=h.zero j (Nat.lt_succ_self j)
 have hs:=fL (l:=Q) (k:=j) (v:=q) X
 rw [h0,Nat.mul_zero,Nat.add_zero] at hs
 have d1:=fj Cw j X
 have d2:=fj U' j X
 have e1:=rq U' (j:=j) (m:=n+1) X
 rw [o3,p2,Nat.mul_zero,Nat.add_zero] at e1
 have hm:=Nat.div_add_mod (lv (win Cw j (n+1))) Cx
 have hv:lv Cw+lv Q*Cx=Cy:=h.val
 refine ⟨Nat.le_of_succ_le hle,o1.trans h.lu,by rw [List.length_set]; exact h.lq,hl,bv.set h.limQ hqB,fun k hk => ?_,?_,?_⟩
 ·simp only at hk ⊢
  rw [dJ X,if_neg X]; exact h.zero k (Nat.lt_succ_of_lt hk)
 ·show lv (U'.drop j)<Cx
  rw [e1,hr]; exact Nat.mod_lt _ hV0
 ·show lv U'+lv (Q.set j q)*Cx=Cy
  rw [hs, ← hv,d1,d2,o2,e1,p3,hr,hq]
  generalize lv (win Cw j (n+1))=w at *
  have e2:(lv Q+4294967296^j*(w / Cx))*Cx=lv Q*Cx+4294967296^j*(Cx*(w / Cx)):=by rw [Nat.add_mul,Nat.mul_assoc,Nat.mul_comm (w / Cx)]
  have e3:4294967296^j*w=4294967296^j*(Cx*(w / Cx))+4294967296^j*(w % Cx):=by rw [← Nat.mul_add,hm]
  rw [e2,e3]; omega
theorem DivR.start {Cx Cy n e:Nat} {Cw:List Nat} (hU:bv Cw) (hlu:Cw.length=n+e+1) (hA:lv Cw=Cy) (hlt:Cy<Cx*4294967296^(e+1)):DivR Cx Cy n e (Cw,List.replicate (e+1) 0,e+1):=by
 refine ⟨Nat.le_refl _,hlu,by simp,hU,bv.replicate _,fun k _=>cm _ _,?_,by simp [dB,hA]⟩
 show lv (Cw.drop (e+1))<Cx
 have h1:=fj Cw (e+1) X
 have h2:lv (Cw.drop (e+1))*4294967296^(e+1)<Cx*4294967296^(e+1):=by
  rw [Nat.mul_comm]; omega
 exact Nat.lt_of_mul_lt_mul_right h2
theorem DivR.finish {a b s n e:Nat} {Cw Q:List Nat} (h:DivR (b*2^s) (a*2^s) n e (Cw,Q,0)) (hb:0<b):lv Q=a / b∧lv Cw=(a % b)*2^s:=by
 have hp:=Nat.two_pow_pos s
 have hlt:lv Cw<b*2^s:=h.lt
 have hv:lv Cw+lv Q*(b*2^s)=a*2^s:=h.val
 have hq:lv Q=a / b:=by
  have h1:lv Q*b≤a:=by
   refine Nat.le_of_mul_le_mul_right (c:=2^s) ?_ hp
   rw [Nat.mul_assoc]; omega
  have h2:a<(lv Q+1)*b:=by
   refine Nat.lt_of_mul_lt_mul_right (a:=2^s) ?_
   rw [Nat.mul_assoc,Nat.add_mul]; omega
  have h3:lv Q≤a / b:=(Nat.le_div_iff_mul_le hb).2 h1
  have h4:a / b<lv Q+1:=Nat.div_lt_of_lt_mul (by rw [Nat.mul_comm]; exact h2)
  omega
 refine ⟨hq,?_⟩
 have hm:=Nat.div_add_mod a b
 rw [hq] at hv
 have e1:a*2^s=(b*(a / b))*2^s+(a % b)*2^s:=by rw [← Nat.add_mul,hm]
 have e2:a / b*(b*2^s)=(b*(a / b))*2^s:=by rw [← Nat.mul_assoc,Nat.mul_comm (a / b)]
 omega
def vu (Cw:List Nat) (s i:Nat):Nat:=(Cw.getD (i+1) 0*4294967296+Cw.getD i 0) / 2^s % 4294967296
theorem kZ (F:Nat→Nat) : ∀ (n i:Nat) (S:Nat→Nat),(∀ k,i≤k→k<i+n→S k=F k+4294967296*S (k+1))→S (i+n)=0→lv ((List.range' i n).map F)=S i
 | 0, i, S, _, h0 => by simpa [lv] using h0.symm
 | n + 1, i, S, h, h0 => by
  rw [List.range'_succ,List.map_cons,lv,kZ F n (i+1) S (fun k h1 h2=>h k X X) (by rw [← h0]; congr 1;omega),h i (Nat.le_refl _) X]
theorem xr {Cw:List Nat} (hU:bv Cw) {s i:Nat} (hs:s<32) (hi:i+1<Cw.length):lv (Cw.drop i) / 2^s=vu Cw s i+4294967296*(lv (Cw.drop (i+1)) / 2^s):=by
 have h1:=gp (Cw:=Cw) (j:=i) X
 have h2:=gp (Cw:=Cw) (j:=i+1) hi
 have hp:=Nat.two_pow_pos s
 obtain ⟨t,ht⟩ : ∃ t,4294967296=2^s*t:=⟨2^(32 - s),by rw [← Nat.pow_add,show s+(32 - s)=32 by omega]⟩
 have hd:=aY hU i
 have e1:lv (Cw.drop i) / 2^s % 4294967296=vu Cw s i:=by
  unfold vu
  rw [h1,h2]
  generalize lv (Cw.drop (i+1+1))=W
  generalize Cw.getD (i+1) 0=x
  generalize Cw.getD i 0=y
  have:y+4294967296*(x+4294967296*W)=(x*4294967296+y)+2^s*(t*(4294967296*W)):=by
   rw [← Nat.mul_assoc (2^s), ← ht]; omega
  rw [this,Nat.add_mul_div_left _ _ hp]
  rw [show t*(4294967296*W)=4294967296*(t*W) by rw [Nat.mul_left_comm],Nat.add_mul_mod_self_left]
 have e2:lv (Cw.drop i) / 2^s / 4294967296=lv (Cw.drop (i+1)) / 2^s:=by
  rw [Nat.div_div_eq_div_mul,Nat.mul_comm, ← Nat.div_div_eq_div_mul]
  congr 1
  rw [h1]; omega
 have:=Nat.div_add_mod (lv (Cw.drop i) / 2^s) 4294967296
 rw [e1,e2] at this
 omega
def eD (Cw:List Nat) (s n:Nat):List Nat:=(List.range' 0 n).map (vu Cw s)
theorem zp {Cw:List Nat} (hU:bv Cw) {s n:Nat} (hs:s<32) (hn:n<Cw.length) (h0:lv Cw<4294967296^n):lv (eD Cw s n)=lv Cw / 2^s:=by
 have h1:lv (Cw.drop n)=0:=by
  have h2:=fj Cw n X
  rcases Nat.eq_zero_or_pos (lv (Cw.drop n)) with h | h
  ·exact h
  ·have:=Nat.le_mul_of_pos_right (4294967296^n) h;omega
 have:=kZ (vu Cw s) n 0 (fun k=>lv (Cw.drop k) / 2^s) (fun k _ hk=>xr hU hs X) (by rw [Nat.zero_add,h1]; exact Nat.zero_div _)
 unfold eD
 rw [this]; rfl
theorem zq (Cw:List Nat) (s n:Nat):bv (eD Cw s n):=fun d hd=>by
 obtain ⟨i,_,rfl⟩:=List.mem_map.1 hd
 exact Nat.mod_lt _ U
theorem od (F:Nat→Nat) {n i:Nat} (h:i<n):((List.range' 0 n).map F).getD i 0=F i:=by
 simp [List.getD,h]
theorem zr (Cw:List Nat) (s:Nat) {n i:Nat} (h:i<n):(eD Cw s n).getD i 0=vu Cw s i:=od _ h
theorem zt (Cw:List Nat) (s n:Nat):(eD Cw s n).length=n:=by unfold eD;simp
theorem zu {l:List Nat} (h:gi l) : ∀ {k:Nat},l.length=k+1→l.getD k 0≠0:=by
 induction l with
 | nil => intro k h; simp at h
 | cons d l ih =>
  intro k hk
  cases l with
  | nil => simp at hk; subst hk; simpa using (show d ≠ 0 from h)
  | cons e l =>
   obtain ⟨j,rfl⟩ : ∃ j,k=j+1:=⟨k - 1,by simp at hk;omega⟩
   have:=ih h.tail (k:=j) (by simpa using hk)
   simpa using this
structure Shf (b:Nat) (l:List Nat) (s k:Nat):Prop where
 s32:s<32
 lim:bv l
 lo:2147483648*4294967296^(k+1)≤b*2^s
 hi:b*2^s<4294967296^(k+2)
theorem Ba {b k:Nat} (hk:(aC b).length=k+2):Shf b (aC b) (32 - fw ((aC b).getD (k+1) 0)) k:=by
 have hl:=aX b
 have ht:=zu (kP b) (k:=k+1) hk
 have hd:=aY hl (k+1)
 generalize hx:(aC b).getD (k+1) 0=x at *
 obtain ⟨j1,j2⟩:=pR (x:=x) X ht
 have j3:=mI (x:=x) X
 have j4:=gV (x:=x) (n:=32) X U
 have hb:b=lv ((aC b).take (k+1))+4294967296^(k+1)*x:=by
  have e:aC b=(aC b).take (k+2):=by rw [List.take_of_length_le X]
  have h1:=bF (l:=aC b) (k:=k+1) X
  rw [← e,bN,hx] at h1;exact h1
 have hlo:=gE (hl.take (k+1))
 rw [List.length_take_of_le X] at hlo
 generalize lv ((aC b).take (k+1))=y at *
 obtain ⟨t,ht2⟩ : ∃ t,fw x=t+1:=⟨fw x - 1,by omega⟩
 rw [ht2] at j2 j3 j4 ⊢
 rw [Nat.add_sub_cancel] at j2
 have p1:2^t*2^(32 - (t+1))=2147483648:=by rw [← Nat.pow_add,show t+(32 - (t+1))=31 by omega]
 have p2:2^(t+1)*2^(32 - (t+1))=4294967296:=by rw [← Nat.pow_add,show t+1+(32 - (t+1))=32 by omega]
 have hp:=Nat.two_pow_pos (32 - (t+1))
 refine ⟨by omega,hl,?_,?_⟩
 ·rw [← p1,hb]
  calc 2^t*2^(32 - (t+1))*4294967296^(k+1)≤x*2^(32 - (t+1))*4294967296^(k+1):=Nat.mul_le_mul_right _ (Nat.mul_le_mul_right _ j2)
   _=4294967296^(k+1)*x*2^(32 - (t+1)):=by rw [Nat.mul_comm,Nat.mul_assoc]
   _≤_:=Nat.mul_le_mul_right _ (Nat.le_add_left _ _)
 ·have h1:b<4294967296^(k+1)*(x+1):=by rw [Nat.mul_add,Nat.mul_one]; omega
  calc b*2^(32 - (t+1))<4294967296^(k+1)*(x+1)*2^(32 - (t+1)):=Nat.mul_lt_mul_of_pos_right h1 hp
   _≤4294967296^(k+1)*2^(t+1)*2^(32 - (t+1)):=Nat.mul_le_mul_right _ (Nat.mul_le_mul_left _ j3)
   _=4294967296^(k+2):=by rw [Nat.mul_assoc,p2, ← Nat.pow_succ]
theorem Shf.v {b s k:Nat} {l z:List Nat} (h:Shf b l s k) (hz:bv z) (hl:z.length=k+3) (hv:lv z=b*2^s) :
  bv (z.take (k+2))∧(z.take (k+2)).length=k+2∧lv (z.take (k+2))=b*2^s∧2147483648≤(z.take (k+2)).getD (k+1) 0:=by
 have h1:=fj z (k+2) X
 have h0:lv (z.drop (k+2))=0:=by
  rcases Nat.eq_zero_or_pos (lv (z.drop (k+2))) with h' | h'
  ·exact h'
  ·have:=Nat.le_mul_of_pos_right (4294967296^(k+2)) h';have:=h.hi;omega
 rw [h0,Nat.mul_zero,Nat.add_zero,hv] at h1
 have hlen:(z.take (k+2)).length=k+2:=by rw [List.length_take_of_le X]
 have hL:=hz.take (k+2)
 refine ⟨hL,hlen,h1.symm,?_⟩
 generalize z.take (k+2)=v at *
 have h2:=bF (l:=v) (k:=k+1) X
 rw [List.take_of_length_le X] at h2
 have h3:=gE (hL.take (k+1))
 rw [List.length_take_of_le X] at h3
 have h4:=h.lo
 rw [h1,h2] at h4
 generalize lv (v.take (k+1))=y at *
 generalize v.getD (k+1) 0=x at *
 generalize 4294967296^(k+1)=B at *
 rcases Nat.lt_or_ge x 2147483648 with h5 | h5
 ·have h6:B*x+B≤B*2147483648:=by rw [← Nat.mul_succ]; exact Nat.mul_le_mul_left _ h5
  rw [Nat.mul_comm 2147483648] at h4;omega
 ·exact h5
theorem Shf.u {a b s k e:Nat} {l:List Nat} (h:Shf b l s k) (ha:(aC a).length=k+2+e):a*2^s<b*2^s*4294967296^(e+1):=by
 have h1:=dj a
 rw [ha] at h1
 have h2:2^s≤2147483648:=Nat.pow_le_pow_right (n:=2) U (show s≤31 by have:=h.s32;omega)
 calc a*2^s<4294967296^(k+2+e)*2^s:=Nat.mul_lt_mul_of_pos_right h1 (Nat.two_pow_pos s)
  _≤4294967296^(k+2+e)*2147483648:=Nat.mul_le_mul_left _ h2
  _=2147483648*4294967296^(k+1)*4294967296^(e+1):=by rw [Nat.mul_assoc, ← Nat.pow_add,Nat.mul_comm,show k+1+(e+1)=k+2+e by omega]
  _≤b*2^s*4294967296^(e+1):=Nat.mul_le_mul_right _ h.lo
end Tor
end
section
namespace Tor
open Go Go.RowKit Go.Proofs
variable [Tor.Co.Kc]
theorem zv:VT.le (one (.slice none 0 0)) (kR 0):=VT.le_trans gT (fk (l := []) (fun _ h=>by cases h) Z)
theorem ur {a b:Nat} : (lP a b<0)=(a<b):=by unfold lP;split <;> simp_all <;> (try split) <;> omega
theorem ru {b:Nat} (h:(aC b).length=1):(aC b).getD 0 0=b:=by
 have h1:=bF (l:=aC b) (k:=0) X
 rw [List.take_of_length_le X,bN] at h1
 simpa [lv] using h1.symm
theorem zw {v:Nat} (h:v<4294967296):VT.le (slT .one 1 fun _=>one (.int .u32 (v:Nat))) (kR v) :=
 VT.le_trans (ci (m := [v].length) (ψ:=fun i=>one (.int .u32 ([v].getD i 0:Nat))) Z (fun q hq=>by
  have hq:q<1:=hq
  have:q=0:=by omega
  subst this;rfl)) (fk (l := [v]) (fun d hd=>by simp at hd;omega) (by simp [lv]))
def mr:Nat→Nat→List Nat
 | 0, _ => []
 | n + 1, v => v % 4294967296 :: mr n (v / 4294967296)
theorem ny : ∀ n v,(mr n v).length=n
 | 0, _ => rfl
 | n + 1, v => by rw [mr, List.length_cons, ny n]
theorem nz : ∀ n v,bv (mr n v)
 | 0, _ => fun d hd => by cases hd
 | n + 1, v => fun d hd => by
  rw [mr] at hd
  rcases List.mem_cons.1 hd with rfl | hd
  ·exact Nat.mod_lt _ U
  ·exact nz n _ d hd
theorem nA : ∀ n v,v<4294967296^n→lv (mr n v)=v
 | 0, v, h => by simp at h; subst h; rfl
 | n + 1, v, h => by
  have:v / 4294967296<4294967296^n:=Nat.div_lt_of_lt_mul (by rw [Nat.mul_comm, ← Nat.pow_succ]; exact h)
  rw [mr,lv,nA n _ this]; omega
theorem rv : ∀ {z:List Nat},bv z→z=mr z.length (lv z)
 | [], _ => rfl
 | d :: z, h => by
  have hd:=h.head
  have ih:=rv h.tail
  rw [List.length_cons,mr,lv]
  rw [show (d+4294967296*lv z) % 4294967296=d by omega,show (d+4294967296*lv z) / 4294967296=lv z by omega, ← ih]
theorem xt {l:List Nat} {s:Nat} (hl:bv l) (hs:s<32):lv l*2^s<4294967296^(l.length+1):=by
 rw [Nat.pow_succ]
 have h1:2^s≤4294967296:=Nat.pow_le_pow_right (n:=2) U (show s≤32 by omega)
 exact Nat.lt_of_lt_of_le (Nat.mul_lt_mul_of_pos_right (gE hl) (Nat.two_pow_pos s)) (Nat.mul_le_mul_left _ h1)
def Bb (l:List Nat) (s:Nat) (hl:bv l) (hs:s<32):pT l s:=⟨(0,mr (l.length+1) (lv l*2^s)),ny _ _,nz _ _,nA _ _ (xt hl hs)⟩
theorem vv (l:List Nat) (s:Nat) (hl:bv l) (h1:l.length≤1099511627776) (hs:s<32):Ok Tryz.prog 171 [cd l,one (.int .i64 (s:Nat))] (slT .one (l.length+1) (fx (mr (l.length+1) (lv l*2^s)))) :=
 (rp l s hl h1 hs).ok fun p=>by
  have h:=rv p.2.2.1
  rw [p.2.1,p.2.2.2] at h
  rw [← h]
  exact Ent.sl List.mem_cons_self
theorem vy {z:List Nat} {q m:Nat} (h:q<m):fx z (Int.toNat 0+q)=fx (z.take m) q:=by
 have e:Int.toNat 0+q=q:=Nat.zero_add q
 rw [e]
 unfold fx
 rw [show (z.take m).getD q 0=z.getD q 0 by simp [List.getD,List.getElem?_take,h]]
theorem zx {br:Option Nat} {T:TypeId} {n i s:Nat} {Cw:List Nat} (hi:i<n):Own.le (aN br T .one n n (upd (fun q=>one (.int .u32 ((if q<i then (eD Cw s n).getD q 0 else 0:Nat):Int))) i (one (.int .u32 (((Cw.getD (i+1) 0*4294967296+Cw.getD i 0) / 2^s % 4294967296:Nat):Int)))))
  (aN br T .one n n (fun q=>one (.int .u32 ((if q<i+1 then (eD Cw s n).getD q 0 else 0:Nat):Int)))):=bW (fun q hq=>by
 unfold upd
 by_cases h:q=i
 ·subst h;rw [if_pos Z,if_pos (Nat.lt_succ_self q),zr Cw s hi]; rfl
 ·rw [if_neg h]
  dsimp only
  by_cases h2:q<i
  ·rw [if_pos h2,if_pos (Nat.lt_succ_of_lt h2)]
  ·rw [if_neg h2,if_neg X])
attribute [local irreducible] J PJ aJ one slT bL bG bD exT cn eP aU aN slV VT.le Ret bS
set_option maxRecDepth 20000 in
theorem vz (a b:Nat) (hb:b≠0) (ha:(aC a).length≤1099511627776):Ok Tryz.prog 155 [cd (aC a),cd (aC b)] (bD [kR (a / b),kR (a % b)]):=by
 have hcl:=xo (aC a) ha
 have hcm:=j9 a b
 refine Ok.enter Tryz.func155 Z Tryz.ntmps155 Z (fun w O => ?_)
 by_cases h1:a<b
 ·rw [Nat.div_eq_of_lt h1,Nat.mod_eq_of_lt h1]
  have hlt:lP a b<0:=by rw [ur]; exact h1
  refine ae (ai (CH Z (CH Z (CJ (aa (ae (av (ae (ai ?_)))))))))
  refine CG Z (CG Z ?_)
  refine CF (am (hcm) Z ⟨A,A,CK⟩) ?_
  refine CF (sT (by assumption) (bq Z Z)) (CH Z (CJ (aa (aI Z (ae (ai (CG Z ?_)))))))
  refine CF (am (hcl) Z ⟨A,CK⟩) ?_
  refine CH Z (CH Z (CJ (aa (aG (a9 (aK ?_))))))
  refine cW Tryz.results155 (.tmp Z (zv)) (.tmp Z (cH _))
 ·have hlt : ¬ lP a b<0:=by rw [ur]; exact h1
  have hlen:=cj (Nat.le_of_not_lt h1)
  by_cases h2:(aC a).length≤2
  ·have hw1:=up (aC a) (aX a) h2
   have hw2:=up (aC b) (aX b) X
   rw [bN] at hw1 hw2
   have a64:a<18446744073709551616:=Nat.lt_of_lt_of_le (dj a) (Nat.pow_le_pow_right (n:=4294967296) U h2)
   have b64:b<18446744073709551616:=by omega
   have q64:a / b<18446744073709551616:=Nat.lt_of_le_of_lt (Nat.div_le_self _ _) a64
   have r64:a % b<18446744073709551616:=Nat.lt_of_le_of_lt (Nat.mod_le _ _) a64
   have hk1:=kT (a / b) q64
   have hk2:=kT (a % b) r64
   refine ae (ai (CH Z (CH Z (CJ (aa (ae (av (ae (ai ?_)))))))))
   refine CG Z (CG Z ?_)
   refine CF (am (hcm) Z ⟨A,A,CK⟩) ?_
   refine CF (sF (by assumption) (bq Z Z)) (CH Z (CJ (aa (aB Z (ae (ai (CG Z (CF (aW Z) (CF (sT X (po Z Z)) ?_)))))))))
   refine CH Z (CJ (aa (aI Z (ae (ai (CG Z ?_))))))
   refine CF (am (hw1) Z ⟨A,CK⟩) ?_
   refine CG Z ?_
   refine CF (am (hw2) Z ⟨A,CK⟩) ?_
   refine CH Z (CH Z (CJ (aa (ae (bh 9 a8 Y U (CG Z (CG Z (CF (ja Z Z X X) ?_))))))))
   refine CF (am (hk1) Z ⟨A,CK⟩) ?_
   refine CG Z (CG Z (CF (ef _ Z Z Z X) ?_))
   refine CF (am (hk2) Z ⟨A,CK⟩) ?_
   refine CH Z (CJ (CH Z (CJ (aa (aG (a9 (aK ?_)))))))
   refine cW Tryz.results155 (.tmp Z A) (.tmp Z A)
  ·by_cases h3:(aC b).length=1
   ·have hb1:=ru h3
    have hd:=aY (aX b) 0
    have hsh:=xp (aC a) b (aX a) ha X X
    rw [bN] at hsh
    have hr:=Nat.mod_lt a (show 0<b by omega)
    refine ae (ai (CH Z (CH Z (CJ (aa (ae (av (ae (ai ?_)))))))))
    refine CG Z (CG Z ?_)
    refine CF (am (hcm) Z ⟨A,A,CK⟩) ?_
    refine CF (sF (by assumption) (bq Z Z)) (CH Z (CJ (aa (aB Z (ae (ai (CG Z (CF (aW Z) (CF (sF X (po Z Z)) ?_)))))))))
    refine CH Z (CJ (aa (aB Z (ae (ai (CG Z (CF (aW Z) (CF (sT X (cq Z Z)) (CH Z ?_)))))))))
    refine CJ (aa (aI Z (ae (ai (CG Z (CG Z (CF (ek Z Z X X) (CF (aV Z) ?_))))))))
    refine CF (am (hsh) Z ⟨A,(ao (by rw [show (aC b).getD (Int.toNat 0) 0=b from hb1])),CK⟩) ?_
    refine CG Z (CF (az Z Z) (CF (az Z Z) (CH Z (CH Z (CJ (aa (ae (ai (CG Z ?_)))))))))
    refine CG Z (jW Z Z Z Z (CH Z (CH Z (CJ (aa (aG (a9 (aK ?_))))))))
    refine cW Tryz.results155 (.tmp Z A) (.tmp Z (zw X))
   ·have hdb:aC b ≠ []:=fun h=>hb (by rw [← bN b,h]; rfl)
    obtain ⟨k,hk⟩ : ∃ k,(aC b).length=k+2:=⟨(aC b).length - 2,by have:=List.length_pos_iff.2 hdb;omega⟩
    obtain ⟨e,he⟩ : ∃ e,(aC a).length=k+2+e:=⟨(aC a).length - (k+2),by omega⟩
    have hx:=aY (aX b) ((aC b).length - 1)
    have S0:=Ba hk
    rw [show k+1=(aC b).length - 1 by omega] at S0
    have hlz:=zk ((aC b).getD ((aC b).length - 1) 0) hx
    generalize 32 - fw ((aC b).getD ((aC b).length - 1) 0)=s at S0 hlz
    have s32:=S0.s32
    have hsv:=vv (aC b) s (aX b) X s32
    have hsu:=rp (aC a) s (aX a) ha s32
    refine ae (ai (CH Z (CH Z (CJ (aa (ae (av (ae (ai ?_)))))))))
    refine CG Z (CG Z ?_)
    refine CF (am (hcm) Z ⟨A,A,CK⟩) ?_
    refine CF (sF (by assumption) (bq Z Z)) (CH Z (CJ (aa (aB Z (ae (ai (CG Z (CF (aW Z) (CF (sF X (po Z Z)) ?_)))))))))
    refine CH Z (CJ (aa (aB Z (ae (ai (CG Z (CF (aW Z) (CF (sF X (cq Z Z)) (CH Z ?_)))))))))
    refine CJ (aa (aB Z (aw (aL (aa (ae (ai (CG Z (CG Z ?_)))))))))
    refine CF (aW Z) (CF (bT _ 1 Z Z X X) (CF (aE Z Z X) (CF (aV Z) ?_)))
    refine CF (am (hlz) Z ⟨A,CK⟩) ?_
    refine CG Z (CF (aW Z) (CH Z (CH Z (CJ (aa (ae (ch (Γ' := [(0,_),(1,_),(4,_),(5,_),(10,_),(11,_)]) Cz (SubM.refl _) ?_)))))))
    refine AY (σ:=pT (aC a) s) 2 (Bb (aC a) s (aX a) s32) (fun p=>one (slV (some p.1.1) ((aC a).length+1) ((aC a).length+1))) (fun p => [aN (some p.1.1) 83 .one ((aC a).length+1) ((aC a).length+1) (fx p.1.2)]) a8 Y U ?_
    refine vx Z (fun s B=>ab Z) Z ?_
    refine vx Z (fun s B=>ab Z) Z ?_
    refine vc Z hsu (fun s=>rfl) ⟨A,A,CK⟩ Z ?_
    refine vx Z (fun s B=>ab Z) Z ?_
    refine vx Z (fun s B=>ab Z) Z ?_
    refine vx Z (fun s B=>am hsv Z ⟨A,A,CK⟩) Z ?_
    refine vx Z (fun s B=>ab Z) Z ?_
    refine vx Z (fun s B=>ab Z) Z ?_
    refine vx Z (fun s B=>gc Z Z Z Z (fun _=>rfl) X X X X) Z ?_
    refine vd Z Y (fun s B=>ah Z) Z ?_
    refine vx Z (fun s B=>ah Z) Z ?_
    refine .nil (fun p => ?_)
    obtain ⟨⟨bu,Cw⟩,hu1,hu2,hu3⟩:=p
    dsimp only at hu1 hu2 hu3 ⊢
    rw [bN] at hu3
    rw [he] at hu1
    rw [bN,hk,he]
    obtain ⟨z,hz⟩ : ∃ z,z=mr (k+2+1) (b*2^s):=⟨_,rfl⟩
    have z1:=ny (k+2+1) (b*2^s)
    have z2:=nz (k+2+1) (b*2^s)
    have z3:=nA (k+2+1) (b*2^s) (Nat.lt_of_lt_of_le S0.hi (Nat.pow_le_pow_right U X))
    rw [← hz] at z1 z2 z3 ⊢
    obtain ⟨v1,v2,v3,v4⟩:=S0.v z2 z1 z3
    refine pp (Γ' := [(0,slT .one (k+2+e) (fx (aC a))),(4,_),(5,_),(10,_),(11,one (.int .i64 ((k+2:Nat):Int))),(12,one (slV (some bu) (k+2+e+1) (k+2+e+1))),(13,cd (z.take (k+2)))]) (.cons Z (ci he (fun _ _=>rfl)) (.cons Z A (.cons Z A (.cons Z A (.cons Z A (.cons Z A (.cons Z ?_ .nil))))))) (SubM.refl _) ?_
    ·exact ci (by rw [v2]; omega) (fun q hq=>vy X)
    generalize z.take (k+2)=v at *
    have hV0:0<b*2^s:=Nat.mul_pos X (Nat.two_pow_pos s)
    have hVn:=S0.hi
    have hA:=S0.u he
    refine aa (ae (ai (CG Z (CF (aW Z) (CG Z (CF (bT _ _ Z Z X X) (CF (bQ _ 1 Z Z X) ?_)))))))
    refine co (e+1) (e+1) Z Z X X (Nat.le_refl _) Z Z X Z Z (fun bz => ?_)
    refine CH Z (CJ (aa (ae (ae (ai (CG Z (CF (aW Z) (CG Z (CF (bT _ _ Z Z X X) ?_)))))))))
    refine CH Z (CJ (aa (av (ch (Γ' := [(4,_),(5,_),(10,_),(11,_),(12,_),(13,_),(14,_),(15,_)]) Cz (SubM.refl _) ?_))))
    refine bE (σ:=List Nat × List Nat × Nat) (Γk := [(4,_),(5,_),(10,_),(11,_),(12,_),(13,_),(14,_)]) Cz (fun p => [(15,one (.int .i64 ((p.2.2:Nat) - 1:Int)))]) (fun p M0=>((M0.set 0 (aN (some bz) 83 .one (e+1) (e+1) (fx p.2.1))).set 1 (aN (some bu) 83 .one (k+2+e+1) (k+2+e+1) (fx p.1)))) (fun p=>DivR (b*2^s) (a*2^s) (k+2) e p) (fun p=>p.2.2) ((Cw,List.replicate (e+1) 0,e+1)) (DivR.start hu2 hu1 hu3 hA) CA (.keep (bW (fun q _=>by unfold fx;rw [cm]; rfl)) (.keep CE (.nil))) (fun p hp => ?_)
    refine bR (Γ' := [(15,_),(4,_),(5,_),(10,_),(11,_),(12,_),(13,_),(14,_)]) (M' := [_,_]) Z Z ?_
    obtain ⟨U1,Q,c⟩:=p
    dsimp only at hp ⊢
    have hu1:U1.length=k+2+e+1:=hp.lu
    have hq1:Q.length=e+1:=hp.lq
    have hcl:c≤e+1:=hp.le
    refine ae (ae (ai (CG Z (CF (dF Z Z) (CJ (aa ?_))))))
    cases c with
    | zero =>
     refine kL Z X (a6 (ax (ax (aM (aa (ae (ai (CG Z ?_))))))))
     obtain ⟨f1,f2⟩:=hp.finish X
     refine co (k+2) (k+2) Z Z Z Z (Nat.le_refl _) Z Z X Z Z (fun br => ?_)
     refine CH Z (CJ (aa (ae (ae (ai (CG Z (CG Z (CJ (aa ?_)))))))))
     refine av (ch (Γ' := [(4,_),(5,_),(10,_),(12,_),(14,_),(16,_),(102,_),(103,_)]) Cz (SubM.refl _) ?_)
     refine bE (σ:=Nat) (Γk := [(4,_),(5,_),(10,_),(12,_),(14,_),(16,_),(102,_)]) Cz (fun i => [(103,one (.int .i64 (i:Nat)))]) (fun i M0=>(M0.set 0 (aN (some br) 83 .one (k+2) (k+2) (fun q=>one (.int .u32 ((if q<i then (eD U1 s (k+2)).getD q 0 else 0:Nat):Int)))))) (fun i=>i≤k+2) (fun i=>k+2 - i) (0) (Nat.zero_le _) CA (.keep CE (.keep CE (.keep CE (.nil)))) (fun i hi => ?_)
     refine bR (Γ' := [(103,_),(4,_),(5,_),(10,_),(12,_),(14,_),(16,_),(102,_)]) (M' := [_,_,_]) Z Z (ae (ai (CF (bq Z Z) (CJ (aa (ae ?_))))))
     refine mq Z (fun hc => ?_) (fun hc => ?_)
     ·have hik:i<k+2:=by omega
      have g0:=aY (show bv U1 from hp.limU) i
      have g1:=aY (show bv U1 from hp.limU) (i+1)
      refine aw (aa (ae (av (ae (ai (CG Z (CH Z (CJ (aa ?_)))))))))
      refine bh 18 a8 Y U (CG Z (CG Z (CG Z (CG Z (CF (bQ _ 1 Z Z X) (CF (ay Z Z X) (CF (cf 2 Z Z X) (CF (bH Z X) (CF (j5 (s:=32) Z Z X X) ?_)))))))))
      refine CG Z (CG Z (CF (ay Z Z X) (CF (cf 2 Z Z X) (CF (bH Z X) (CF (jZ Z Z X X) (CG Z ?_))))))
      refine CF (iB Z Z (by (show _<64;omega))) ?_
      refine CF (cw Z) (CJ (CF (ay Z Z X) ?_))
      (refine aA 0 Z Z Z ?_ Z ?_;omega)
      refine CJ (aL (aa (ai (CF (bQ _ 1 Z Z X) (CG Z (CJ ?_))))))
      refine aR (i+1) (by assumption) X CA (.keep (zx hik) (.keep CE (.keep CE (.nil))))
     ·have hik:i=k+2:=by omega
      subst hik
      refine a6 (ax (ax (aM (aa (ae (ai (CG Z (CG Z (CH Z ?_)))))))))
      refine CH Z (CJ (aa (aG ?_)))
      have hlU:lv U1<4294967296^(k+2):=Nat.lt_trans (show lv (U1.drop 0)<_ from hp.lt) hVn
      have hrv:lv (eD U1 s (k+2))=a % b:=by rw [zp hp.limU s32 (by dsimp only;omega) hlU,f2,Nat.mul_div_cancel _ (Nat.two_pow_pos s)]
      refine c4 (t:=5) (i:=0) Z Z (c4 (t:=4) (i:=0) Z Z ?_)
      refine cW Tryz.results155 (.tmp Z (VT.le_trans (ci (m:=Q.length) (ψ:=fx Q) hq1.symm (fun _ _=>rfl)) (fk hp.limQ f1))) (.tmp Z (VT.le_trans (ci (m:=(eD U1 s (k+2)).length) (ψ:=fx (eD U1 s (k+2))) (zt _ _ _).symm (fun q hq=>by rw [if_pos hq])) (fk (zq _ _ _) hrv)))
    | succ j =>
     obtain ⟨p1,p2,p3,p4⟩:=hp.pre hVn
     have en:((j+1:Nat):Int) - 1=(j:Nat):=by omega
     rw [en]
     refine kK Z X (aw (aa (ae (av (ai (CG Z (CG Z (CG Z (CG Z ?_)))))))))
     refine CG Z (CG Z (CF (bQ _ _ Z Z X) (CF (bQ _ 1 Z Z X) (CF (w7 Z Z Z X X X) (CG Z ?_)))))
     refine iA (Min := [aN (some bu) 83 .one (k+2+e+1) (k+2+e+1) (fx U1)]) (Kp := [aN (some bz) 83 .one (e+1) (e+1) (fx Q)]) (xq bu (k+2+e+1) j (k+2+e+1 - j) k U1 v hp.limU v1 hu1 X v2 X v4 (by rw [v3]; exact p4)) Z ⟨ao (by rw [show j+(k+2)+1 - j=k+3 by omega]; rfl),A,CK⟩ (List.Perm.swap _ _ _) Z Z (fun r => ?_)
     obtain ⟨U2,o1,o2,o3⟩:=r
     dsimp only
     refine wO (List.Perm.swap _ _ _) (CF (ay Z Z X) ?_)
     (refine aA 0 Z Z Z ?_ Z ?_;omega)
     refine CJ (aL (aa (ai (CG Z (CF (dx Z Z (aO X X)) (CH Z (CJ ?_)))))))
     refine aR ((U2,Q.set j (lv (win U1 j (k+3)) / lv v),j)) (hp.step hV0 hVn o1 o2 (by rw [o3,v3]) (by rw [v3])) (by (simp only []; omega)) CA (.keep (fU X Z) (.keep CE (.nil)))
end Tor
end
section
namespace Tor
open Go Go.RowKit Go.Proofs
variable [Tor.Co.Kc]
theorem ut {Cy B:Nat} (hB:0<B) (h:Cy % B=0):(-(Cy:Int)) / B = -((Cy / B:Nat):Int)∧(-(Cy:Int)) % B=0:=by
 have hm:=Nat.div_add_mod Cy B
 refine (Int.ediv_emod_unique X).2 ⟨?_,by omega,by omega⟩
 have e:((B*(Cy / B)+Cy % B:Nat):Int)=(Cy:Int):=by rw [hm]
 rw [h] at e
 rw [Int.natCast_add,Int.natCast_mul] at e
 rw [Int.mul_neg]; omega
theorem uu {Cy B:Nat} (hB:0<B) (h:Cy % B≠0):(-(Cy:Int)) / B = -((Cy / B+1:Nat):Int)∧(-(Cy:Int)) % B=((B - Cy % B:Nat):Int):=by
 have hm:=Nat.div_add_mod Cy B
 have hl:=Nat.mod_lt Cy hB
 refine (Int.ediv_emod_unique X).2 ⟨?_,by omega,by omega⟩
 have e:((B*(Cy / B)+Cy % B:Nat):Int)=(Cy:Int):=by rw [hm]
 rw [Int.natCast_add,Int.natCast_mul] at e
 rw [Int.mul_neg,Int.natCast_add,Int.mul_add]
 omega
theorem uv {a b:Int} (hb:b≠0):(0≤a→a / b=(if b<0 then -((a.natAbs / b.natAbs:Nat):Int) else ((a.natAbs / b.natAbs:Nat):Int))∧a % b=((a.natAbs % b.natAbs:Nat):Int)) ∧
  (a<0→a.natAbs % b.natAbs=0→a / b=(if b<0 then ((a.natAbs / b.natAbs:Nat):Int) else -((a.natAbs / b.natAbs:Nat):Int))∧a % b=0) ∧
  (a<0→a.natAbs % b.natAbs≠0→a / b=(if b<0 then ((a.natAbs / b.natAbs+1:Nat):Int) else -((a.natAbs / b.natAbs+1:Nat):Int))∧a % b=((b.natAbs - a.natAbs % b.natAbs:Nat):Int)):=by
 have hB:0<b.natAbs:=by omega
 generalize hA:a.natAbs=Cy
 generalize hBb:b.natAbs=B at *
 have key:(0≤a→a / (B:Int)=((Cy / B:Nat):Int)∧a % (B:Int)=((Cy % B:Nat):Int)) ∧
   (a<0→Cy % B=0→a / (B:Int) = -((Cy / B:Nat):Int)∧a % (B:Int)=0) ∧
   (a<0→Cy % B≠0→a / (B:Int) = -((Cy / B+1:Nat):Int)∧a % (B:Int)=((B - Cy % B:Nat):Int)):=by
  refine ⟨fun h => ?_,fun h h0 => ?_,fun h h0 => ?_⟩
  ·have:a=(Cy:Int):=by omega
   rw [this]; exact ⟨(Int.natCast_ediv Cy B).symm,(Int.natCast_emod Cy B).symm⟩
  ·have:a = -(Cy:Int):=by omega
   rw [this]; exact ut hB h0
  ·have:a = -(Cy:Int):=by omega
   rw [this]; exact uu hB h0
 by_cases hn:b<0
 ·have e:b = -(B:Int):=by omega
  simp only [if_pos hn]
  rw [e,Int.ediv_neg,Int.emod_neg]
  refine ⟨fun h => ?_,fun h h0 => ?_,fun h h0 => ?_⟩
  ·obtain ⟨k1,k2⟩:=key.1 h;exact ⟨by rw [k1],k2⟩
  ·obtain ⟨k1,k2⟩:=key.2.1 h h0;exact ⟨by rw [k1,Int.neg_neg],k2⟩
  ·obtain ⟨k1,k2⟩:=key.2.2 h h0;exact ⟨by rw [k1,Int.neg_neg],k2⟩
 ·have e:b=(B:Int):=by omega
  simp only [if_neg hn]
  rw [e]; exact key
theorem er {v:Nat} (h:(aC v).length=0):v=0:=by
 rw [← bN v,List.length_eq_zero_iff.1 h]; rfl
theorem rx:aC 1 = [1]:=by rw [gD U]; rfl
theorem xu:VT.le (slT .one 1 fun _=>one (.int .u32 1)) (cd (aC 1)):=by
 rw [rx]
 exact ci Z (fun q hq=>by
  have hq:q=0:=by omega
  subst hq;rfl)
theorem uw (p:Prop) [Decidable p] (x:Int):(if (!(true == decide p))=true then -x else x)=(if p then x else -x):=by by_cases h:p <;> simp [h]
theorem zy (p:Prop) [Decidable p] (x:Int):(if (!(false == decide p))=true then -x else x)=(if p then -x else x):=by by_cases h:p <;> simp [h]
attribute [local irreducible] J PJ aJ one slT bL bG bD exT cn eP aU aN slV VT.le Ret bS
set_option maxRecDepth 20000 in
theorem oN (a b:Int) (hb:b≠0) (ha:bO a) (hbs:bO b):Ok Tryz.prog 145 [aP a,aP b] (bD [aP (a / b),aP (a % b),one (.int .i64 0)]):=by
 obtain ⟨g1,g2,g3⟩:=uv (a:=a) hb
 have hb0:(aC b.natAbs).length≠0:=fun h=>hb (by have:=er h;omega)
 have hB:b.natAbs≠0:=by omega
 have hdiv:=vz a.natAbs b.natAbs hB ha
 have ha':(aC a.natAbs).length≤1099511627776:=ha
 have hb':(aC b.natAbs).length≤1099511627776:=hbs
 have hlt:=Nat.mod_lt a.natAbs (Nat.pos_of_ne_zero hB)
 have hr0:(aC (a.natAbs % b.natAbs)).length=0↔a.natAbs % b.natAbs=0:=⟨er,fun h=>by rw [h]; rfl⟩
 have hql:(aC (a.natAbs / b.natAbs)).length≤1099511627776:=Nat.le_trans (cj (Nat.div_le_self _ _)) ha'
 have hmin:=ns b.natAbs (a.natAbs % b.natAbs) (Nat.le_of_lt hlt) hb'
 have hplus:=un (a.natAbs / b.natAbs) 1 hql (by rw [rx]; decide)
 have hv1:=fun n=>eg n (a.natAbs / b.natAbs)
 have hv2:=fun n=>eg n (a.natAbs % b.natAbs)
 have hv3:=fun n=>eg n (a.natAbs / b.natAbs+1)
 have hv4:=fun n=>eg n (b.natAbs - a.natAbs % b.natAbs)
 unfold aP at *
 refine Ok.enter Tryz.func145 Z Tryz.ntmps145 Z (fun w O => ?_)
 by_cases hn:a<0
 ·by_cases hr:a.natAbs % b.natAbs=0
  ·have hr1:=hr0.2 hr
   refine ae (ai ?_)
   refine bm Z Z (ltN Z) (fun b2 => ?_)
   refine bm Z Z (ltN Z) (fun b3 => ?_)
   refine aD (T:=28) Z (ltN Z) (fun b4 => ?_)
   refine aD (T:=28) Z (ltN Z) (fun b5 => ?_)
   refine CH Z (CJ (aa (ae (bh 7 a8 Y U (CF (aj Z) (CF (ak 3 Z Z Z) ?_))))))
   refine CF (am (c5 _) Z ⟨(cH _),CK⟩) ?_
   refine CF (aj Z) (CF (ak 2 Z Z Z) ?_)
   refine CF (am (c5 _) Z ⟨(cH _),CK⟩) ?_
   refine CH Z (CJ (CH Z (CJ (aa (ae (ae (ai (CG Z (CF (aW Z) ?_)))))))))
   refine CF (sF X (cq Z Z)) (CJ (aa (aB Z (aw (aa (ae (ai (CG Z (CG Z ?_)))))))))
   refine CF (am (hdiv) Z ⟨A,A,CK⟩) ?_
   refine CG Z (CF (az Z Z) (CF (az Z Z) (CH Z (CH Z (CJ (aa (ae (ai (CG Z ?_)))))))))
   refine CF (am (c5 _) Z ⟨A,CK⟩) ?_
   refine CH Z (CJ (aa (ae (ae (ai (CF (aj Z) (CF (sT (by assumption) (ak 3 Z Z Z)) (CG Z (CI (ab Z) ?_)))))))))
   refine CI (aW Z) (CI (sF X (dh Z Z)) (CF (bp Z Z) (CJ (aa (aB Z (aw (aa (ae (ai ?_)))))))))
   refine CF (aj Z) (CF (sT (by assumption) (ak 3 Z Z Z)) (CF (aj Z) (CF (ak 2 Z Z Z) (CF (i5 Z Z) (CG Z ?_)))))
   refine CF (am (hv1 _) Z ⟨A,A,CK⟩) ?_
   refine CG Z ?_
   refine CF (am (hv2 _) Z ⟨A,(cH _),CK⟩) ?_
   refine au 1 Z Z Z Z Z (leN Z) Z (au 0 Z Z Z Z Z (leN Z) Z (CH Z (CJ (aa (aG ?_)))))
   refine kE Tryz.results145 (.cellB 1 Z Z Z (bV (by rw [(g2 hn hr).1]; exact uw _ _))) (.cellB 0 Z Z Z (bV (by rw [(g2 hn hr).2,hr]; rfl))) (.tmp Z A)
  ·have hr1:(aC (a.natAbs % b.natAbs)).length≠0:=fun h=>hr (hr0.1 h)
   refine ae (ai ?_)
   refine bm Z Z (ltN Z) (fun b2 => ?_)
   refine bm Z Z (ltN Z) (fun b3 => ?_)
   refine aD (T:=28) Z (ltN Z) (fun b4 => ?_)
   refine aD (T:=28) Z (ltN Z) (fun b5 => ?_)
   refine CH Z (CJ (aa (ae (bh 7 a8 Y U (CF (aj Z) (CF (ak 3 Z Z Z) ?_))))))
   refine CF (am (c5 _) Z ⟨(cH _),CK⟩) ?_
   refine CF (aj Z) (CF (ak 2 Z Z Z) ?_)
   refine CF (am (c5 _) Z ⟨(cH _),CK⟩) ?_
   refine CH Z (CJ (CH Z (CJ (aa (ae (ae (ai (CG Z (CF (aW Z) ?_)))))))))
   refine CF (sF X (cq Z Z)) (CJ (aa (aB Z (aw (aa (ae (ai (CG Z (CG Z ?_)))))))))
   refine CF (am (hdiv) Z ⟨A,A,CK⟩) ?_
   refine CG Z (CF (az Z Z) (CF (az Z Z) (CH Z (CH Z (CJ (aa (ae (ai (CG Z ?_)))))))))
   refine CF (am (c5 _) Z ⟨A,CK⟩) ?_
   refine CH Z (CJ (aa (ae (ae (ai (CF (aj Z) (CF (sT (by assumption) (ak 3 Z Z Z)) (CG Z (CI (ab Z) ?_)))))))))
   refine CI (aW Z) (CI (sT X (dh Z Z)) (CF (bp Z Z) (CJ (aa (aI Z (ai (CG Z ?_)))))))
   refine CF (am (c5 _) Z ⟨A,CK⟩) ?_
   refine jW Z Z Z Z ?_
   refine CF (am (hplus) Z ⟨A,(xu),CK⟩) ?_
   refine CG Z (CG Z ?_)
   refine CF (am (hmin) Z ⟨A,A,CK⟩) ?_
   refine CH Z (CH Z (CJ (aa (ae (ai (CF (aj Z) (CF (sT (by assumption) (ak 3 Z Z Z)) (CF (aj Z) (CF (ak 2 Z Z Z) ?_)))))))))
   refine CF (i5 Z Z) (CG Z ?_)
   refine CF (am (hv3 _) Z ⟨A,A,CK⟩) ?_
   refine CG Z ?_
   refine CF (am (hv4 _) Z ⟨A,A,CK⟩) ?_
   refine au 1 Z Z Z Z Z (leN Z) Z (au 0 Z Z Z Z Z (leN Z) Z (CH Z (CJ (aa (aG ?_)))))
   refine kE Tryz.results145 (.cellB 1 Z Z Z (bV (by rw [(g3 hn hr).1]; exact uw _ _))) (.cellB 0 Z Z Z (bV (by rw [(g3 hn hr).2]; rfl))) (.tmp Z A)
 ·refine ae (ai ?_)
  refine bm Z Z (ltN Z) (fun b2 => ?_)
  refine bm Z Z (ltN Z) (fun b3 => ?_)
  refine aD (T:=28) Z (ltN Z) (fun b4 => ?_)
  refine aD (T:=28) Z (ltN Z) (fun b5 => ?_)
  refine CH Z (CJ (aa (ae (bh 7 a8 Y U (CF (aj Z) (CF (ak 3 Z Z Z) ?_))))))
  refine CF (am (c5 _) Z ⟨(cH _),CK⟩) ?_
  refine CF (aj Z) (CF (ak 2 Z Z Z) ?_)
  refine CF (am (c5 _) Z ⟨(cH _),CK⟩) ?_
  refine CH Z (CJ (CH Z (CJ (aa (ae (ae (ai (CG Z (CF (aW Z) ?_)))))))))
  refine CF (sF X (cq Z Z)) (CJ (aa (aB Z (aw (aa (ae (ai (CG Z (CG Z ?_)))))))))
  refine CF (am (hdiv) Z ⟨A,A,CK⟩) ?_
  refine CG Z (CF (az Z Z) (CF (az Z Z) (CH Z (CH Z (CJ (aa (ae (ai (CG Z ?_)))))))))
  refine CF (am (c5 _) Z ⟨A,CK⟩) ?_
  refine CH Z (CJ (aa (ae (ae (ai (CF (aj Z) (CF (sF (by assumption) (ak 3 Z Z Z)) (CG Z (sg0 Z Z Z Z ?_)))))))))
  refine sg0 Z Z Z Z (sg0 Z Z Z Z (CF (bK Z Z) (CJ (aa (aB Z (aw (aa (ae (ai ?_)))))))))
  refine CF (aj Z) (CF (sF (by assumption) (ak 3 Z Z Z)) (CF (aj Z) (CF (ak 2 Z Z Z) (CF (i5 Z Z) (CG Z ?_)))))
  refine CF (am (hv1 _) Z ⟨A,A,CK⟩) ?_
  refine CG Z ?_
  refine CF (am (hv2 _) Z ⟨A,(cH _),CK⟩) ?_
  refine au 1 Z Z Z Z Z (leN Z) Z (au 0 Z Z Z Z Z (leN Z) Z (CH Z (CJ (aa (aG ?_)))))
  refine kE Tryz.results145 (.cellB 1 Z Z Z (bV (by rw [(g1 X).1]; exact zy _ _))) (.cellB 0 Z Z Z (bV (by rw [(g1 X).2]; rfl))) (.tmp Z A)
end Tor
end
section
namespace Tor
open Go Go.RowKit Go.Proofs
variable [Tor.Co.Kc]
theorem B8 {a b:Nat} (ha:a<4294967296) (hb:b<4294967296):a*b<18446744073709551616:=by
 have:=kQ ha hb (c:=0) (d:=0) U U;omega
structure PowR (p v:Nat) (s:Nat × Nat × Nat):Prop where
 r:s.1<p
 a:s.2.1<p
 e:s.2.2<18446744073709551616
 v:s.1*s.2.1^s.2.2 % p=v
theorem ry (a e p:Nat):a^e % p=((a*a % p)^(e / 2)*(if e % 2=1 then a else 1)) % p:=by
 have h1:a^e=(a*a)^(e / 2)*(if e % 2=1 then a else 1):=by
  have he:=Nat.div_add_mod e 2
  conv=>lhs;rw [← he]
  rw [Nat.pow_add,Nat.pow_mul,Nat.pow_two]
  rcases Nat.mod_two_eq_zero_or_one e with h | h <;> simp [h]
 rw [h1,Nat.mul_mod,Nat.pow_mod, ← Nat.mul_mod]
theorem rz {p k:Nat} (hk:k≤p) (hp:p<4294967296):(p+18446744073709551616 - k) % 18446744073709551616=p - k:=by omega
theorem PowR.start {p a e:Nat} (hp:0<p) (ha:a<p) (he:e<18446744073709551616):PowR p (a^e % p) (1 % p,a,e) :=
 ⟨Nat.mod_lt _ hp,ha,he,by show 1 % p*a^e % p=_;rw [Nat.mod_mul_mod,Nat.one_mul]⟩
theorem PowR.odd {p v r a e:Nat} (h:PowR p v (r,a,e)) (h1:e % 2=1):PowR p v (r*a % p,a*a % p,e / 2):=by
 have hp:0<p:=Nat.lt_of_le_of_lt (Nat.zero_le _) h.r
 have he:e<18446744073709551616:=h.e
 refine ⟨Nat.mod_lt _ hp,Nat.mod_lt _ hp,by show e / 2<_;omega,?_⟩
 have hv:r*a^e % p=v:=h.v
 show r*a % p*(a*a % p)^(e / 2) % p=v
 have hR:r*a^e % p=r*((a*a % p)^(e / 2)*a) % p:=by rw [Nat.mul_mod,ry a e p,if_pos h1, ← Nat.mul_mod]
 rw [← hv,hR,Nat.mod_mul_mod,Nat.mul_assoc,Nat.mul_comm a]
theorem PowR.even {p v r a e:Nat} (h:PowR p v (r,a,e)) (h1 : ¬ e % 2=1):PowR p v (r,a*a % p,e / 2):=by
 have hp:0<p:=Nat.lt_of_le_of_lt (Nat.zero_le _) h.r
 have he:e<18446744073709551616:=h.e
 refine ⟨h.r,Nat.mod_lt _ hp,by show e / 2<_;omega,?_⟩
 have hv:r*a^e % p=v:=h.v
 show r*(a*a % p)^(e / 2) % p=v
 rw [← hv,Nat.mul_mod r (a^e),ry a e p,if_neg h1,Nat.mul_one, ← Nat.mul_mod]
theorem PowR.done {p v r a:Nat} (h:PowR p v (r,a,0)):r=v:=by
 have hv:r*a^0 % p=v:=h.v
 rw [Nat.pow_zero,Nat.mul_one,Nat.mod_eq_of_lt h.r] at hv;exact hv
theorem xv {l:List Nat} {n p r:Nat} (hn:n<l.length) (hr:r=lv (l.drop (n+1)) % p):(r*4294967296+l.getD n 0) % p=lv (l.drop n) % p:=by
 rw [gp hn,hr,Nat.add_comm (l.getD n 0),Nat.mul_comm 4294967296,Nat.add_mod,Nat.mod_mul_mod, ← Nat.add_mod]
theorem zA {a:Int} {p:Nat} (hp:0<p) (hn:a<0) (h0:0<a.natAbs % p):p - a.natAbs % p=(a % (p:Int)).toNat:=by
 have:=(uu (Cy:=a.natAbs) hp X).2
 have e : -((a.natAbs:Nat):Int)=a:=by omega
 rw [e] at this;rw [this]; rfl
theorem xw {a:Int} {p:Nat} (hp:0<p) (hn:a<0) (h0 : ¬ 0<a.natAbs % p):a.natAbs % p=(a % (p:Int)).toNat:=by
 have:=(ut (Cy:=a.natAbs) hp X).2
 have e : -((a.natAbs:Nat):Int)=a:=by omega
 rw [e] at this;rw [this]; show _=0;omega
theorem zB {a:Int} {p:Nat} (hn : ¬ a<0):a.natAbs % p=(a % (p:Int)).toNat:=by
 have e:a=((a.natAbs:Nat):Int):=by omega
 conv=>rhs;rw [e, ← Int.natCast_emod]
 rfl
attribute [local irreducible] J PJ aJ one slT bL bG bD exT cn eP aU aN slV VT.le Ret bS
theorem nB (x p:Nat) (hx:x<18446744073709551616) (hp0:0<p) (hp:p<18446744073709551616):Ok Tryz.prog 113 [one (.int .u64 x),one (.int .u64 p)] (one (.int .u64 ((x % p:Nat):Int))):=by
 refine Ok.enter Tryz.func113 Z Tryz.ntmps113 Z (fun w O => ?_)
 refine ae (ai (CH Z (CJ (aa (ae (ae (ai (CG Z (CF (sF X (cq Z Z)) ?_)))))))))
 refine CJ (aa (aB Z (aw (aa (ae (ai (CG Z (CG Z (CF (ef _ Z Z Z X) ?_)))))))))
 refine CH Z (CJ (aa (aG ?_)))
 refine aQ Tryz.results113 (.tmp Z A)
theorem pW (p a b:Nat) (hp0:0<p) (hp:p<4294967296) (ha:a<4294967296) (hb:b≤a+p):Ok Tryz.prog 74 [one (.int .u64 p),one (.int .u64 a),one (.int .u64 b)] (one (.int .u64 (((a+p - b) % p:Nat):Int))):=by
 have hr:=nB (a+p - b) p X hp0 X
 refine Ok.enter Tryz.func74 Z Tryz.ntmps74 Z (fun w O => ?_)
 refine ae (ai (CH Z (CJ (aa (ae (ai (CG Z (CG Z (CF (di Z Z X) ?_)))))))))
 refine CG Z (CF (fd Z Z X X) (CG Z ?_))
 refine CF (am (hr) Z ⟨(ao (by congr 1;omega)),A,CK⟩) ?_
 refine CH Z (CJ (aa (aG ?_)))
 refine aQ Tryz.results74 (.tmp Z A)
theorem gq (p a b:Nat) (hp0:0<p) (hp:p<4294967296) (ha:a<4294967296) (hb:b<4294967296):Ok Tryz.prog 70 [one (.int .u64 p),one (.int .u64 a),one (.int .u64 b)] (one (.int .u64 ((a*b % p:Nat):Int))):=by
 have h64:=B8 ha hb
 have hr:=nB (a*b) p h64 hp0 X
 refine Ok.enter Tryz.func70 Z Tryz.ntmps70 Z (fun w O => ?_)
 refine ae (ai (CH Z (CJ (aa (ae (ai (CG Z (CG Z (CF (fc Z Z X) ?_)))))))))
 refine CG Z ?_
 refine CF (am (hr) Z ⟨A,A,CK⟩) ?_
 refine CH Z (CJ (aa (aG ?_)))
 refine aQ Tryz.results70 (.tmp Z A)
theorem uy (p a e:Nat) (hp:p<4294967296) (ha:a<p) (he:e<18446744073709551616):Ok Tryz.prog 69 [one (.int .u64 p),one (.int .u64 a),one (.int .u64 e)] (one (.int .u64 ((a^e % p:Nat):Int))):=by
 have hp0:0<p:=by omega
 have hr:=nB 1 p U hp0 X
 refine Ok.enter Tryz.func69 Z Tryz.ntmps69 Z (fun w O => ?_)
 refine ae (ai (CH Z (CJ (aa (ae (ai (CG Z ?_)))))))
 refine CF (am (hr) Z ⟨A,A,CK⟩) ?_
 refine CH Z (CJ (aa (ae (av (ch (Γ' := [(0,_),(1,_),(2,_),(6,_),(7,_)]) Cz (SubM.refl _) ?_)))))
 refine bE (σ:=Nat × Nat × Nat) (Γk := [(0,_),(6,_)]) Cz (fun s => [(7,one (.int .u64 (s.1:Nat))),(1,one (.int .u64 (s.2.1:Nat))),(2,one (.int .u64 (s.2.2:Nat)))]) (fun s M0=>M0) (fun s=>PowR p (a^e % p) s) (fun s=>s.2.2) ((1 % p,a,e)) (PowR.start hp0 ha he) CA (.nil) (fun s hs => ?_)
 refine bR (Γ' := [(7,_),(1,_),(2,_),(0,_),(6,_)]) (M' := []) Z Z ?_
 obtain ⟨r,b,f⟩:=s
 dsimp only at hs ⊢
 have h1:r<p:=hs.r
 have h2:b<p:=hs.a
 have h3:f<18446744073709551616:=hs.e
 by_cases hf:f=0
 ·subst hf
  have:=hs.done
  subst this
  refine ae (ae (ai (CG Z (CF (sF X (dh Z Z)) (CJ (aa (aB Z (a6 (ax ?_)))))))))
  refine ax (aM (aa (ae (ai (CG Z (CH Z (CJ (aa (aG ?_)))))))))
  refine aQ Tryz.results69 (.tmp Z A)
 ·by_cases ho:f % 2=1
  ·have hst:=hs.odd ho
   refine ae (ae (ai (CG Z (CF (sT X (dh Z Z)) (CJ (aa (aI Z (aw (aa ?_)))))))))
   refine ae (av (ae (ae (ai (CG Z (CF (xa Z X) (CF (sT X (cq Z Z)) (CJ (aa ?_)))))))))
   refine aI Z (ai (CG Z (CG Z (CG Z ?_))))
   refine CF (am (gq _ _ _ (by assumption) (by assumption) X X) Z ⟨A,A,A,CK⟩) ?_
   refine CH Z (CJ (aa (ai (CG Z (CG Z (CG Z ?_))))))
   refine CF (am (gq _ _ _ (by assumption) (by assumption) X X) Z ⟨A,A,A,CK⟩) ?_
   refine CH Z (CJ (aL (aa (ai (CG Z (CF (iB (s:=1) Z Z U) (CH Z (CJ ?_))))))))
   refine aR ((r*b % p,b*b % p,f / 2)) (hst) (by (simp only []; omega)) CA (.nil)
  ·have hst:=hs.even ho
   refine ae (ae (ai (CG Z (CF (sT X (dh Z Z)) (CJ (aa (aI Z (aw (aa ?_)))))))))
   refine ae (av (ae (ae (ai (CG Z (CF (xa Z X) (CF (sF X (cq Z Z)) (CJ (aa ?_)))))))))
   refine aB Z (aw (aa (ai (CG Z (CG Z (CG Z ?_))))))
   refine CF (am (gq _ _ _ (by assumption) (by assumption) X X) Z ⟨A,A,A,CK⟩) ?_
   refine CH Z (CJ (aL (aa (ai (CG Z (CF (iB (s:=1) Z Z U) (CH Z (CJ ?_))))))))
   refine aR ((r,b*b % p,f / 2)) (hst) (by (simp only []; omega)) CA (.nil)
theorem uz (p a:Nat) (hp2:2≤p) (hp:p<4294967296) (ha0:a≠0) (ha:a<p):Ok Tryz.prog 75 [one (.int .u64 p),one (.int .u64 a)] (bD [one (.int .u64 ((a^(p - 2) % p:Nat):Int)),one (.int .i64 0)]):=by
 have hpw:=uy p a (p - 2) hp ha X
 refine Ok.enter Tryz.func75 Z Tryz.ntmps75 Z (fun w O => ?_)
 refine ae (ai (CH Z (CH Z (CJ (aa (ae (ae (ai (CG Z ?_)))))))))
 refine CF (sF X (cq Z Z)) (CJ (aa (aB Z (aw (aa (ae (ai (CG Z (CG Z ?_)))))))))
 refine CG Z (CF (fd Z Z X U) ?_)
 refine CF (am (hpw) Z ⟨A,A,(ao (by rw [rz hp2 hp])),CK⟩) ?_
 refine CH Z (CH Z (CJ (aa (aG ?_))))
 refine cW Tryz.results75 (.tmp Z A) (.tmp Z A)
theorem kc (p:Nat) (a:Int) (hp0:0<p) (hp:p<4294967296) (ha:bO a):Ok Tryz.prog 77 [one (.int .u64 p),aP a] (one (.int .u64 (((a % (p:Int)).toNat:Nat):Int))):=by
 have hva:=bN a.natAbs
 have hla:=aX a.natAbs
 have ha':(aC a.natAbs).length≤1099511627776:=ha
 unfold aP
 generalize aC a.natAbs=l at *
 refine Ok.enter Tryz.func77 Z Tryz.ntmps77 Z (fun w O => ?_)
 refine ae (ai ?_)
 refine bm Z Z (ltN Z) (fun b3 => ?_)
 refine CH Z (CJ (aa (ae (ai (CH Z (CJ (aa (ae (ae ?_)))))))))
 refine ai (CF (aj Z) (CF (ak 0 Z Z Z) (CF (aW Z) (CF (dx Z Z (aO X X)) (CH Z (CJ (aa (av (ch (Γ' := [(0,_),(3,_),(4,_),(5,_),(6,_)]) Cz (SubM.refl _) ?_)))))))))
 refine bE (σ:=Nat × Nat) (Γk := [(0,_),(3,_),(4,_)]) Cz (fun s => [(6,one (.int .i64 ((s.1:Nat) - 1:Int))),(5,one (.int .u64 (s.2:Nat)))]) (fun s M0=>M0) (fun s=>s.1≤l.length∧s.2=lv (l.drop s.1) % p) (fun s=>s.1) ((l.length,0)) (by (exact ⟨Nat.le_refl _,by rw [List.drop_length]; exact (Nat.zero_mod p).symm⟩)) CA (.keep CE (.nil)) (fun s hs => ?_)
 refine bR (Γ' := [(6,_),(5,_),(0,_),(3,_),(4,_)]) (M' := [_]) Z Z ?_
 obtain ⟨n,r⟩:=s
 dsimp only at hs ⊢
 obtain ⟨hn,hr⟩:=hs
 have hrp:r<p:=by rw [hr]; exact Nat.mod_lt _ hp0
 cases n with
 | zero =>
  rw [List.drop_zero,hva] at hr
  subst hr
  by_cases hneg:a<0
  ·by_cases h0:0<a.natAbs % p
   ·refine ae (ae (ai (CG Z (CF (sF X (dF Z Z)) (CJ (aa (aB Z (a6 (ax ?_)))))))))
    refine ax (aM (aa (ae (ae (ai (CF (aj Z) (CF (sT (by assumption) (ak 0 Z Z Z)) (CG Z (CI (ab Z) ?_)))))))))
    refine CI (sT X (dh Z Z)) (CF (bp Z Z) (CJ (aa (aI Z (ai (CG Z (CG Z (CF (fd Z Z X X) (CH Z ?_)))))))))
    refine CJ (aa (ae (ai (CG Z (CH Z (CJ (aa (aG ?_))))))))
    refine aQ Tryz.results77 (.tmp Z (ao (by rw [rz (Nat.le_of_lt hrp) hp,zA hp0 hneg h0])))
   ·refine ae (ae (ai (CG Z (CF (sF X (dF Z Z)) (CJ (aa (aB Z (a6 (ax ?_)))))))))
    refine ax (aM (aa (ae (ae (ai (CF (aj Z) (CF (sT (by assumption) (ak 0 Z Z Z)) (CG Z (CI (ab Z) ?_)))))))))
    refine CI (sF X (dh Z Z)) (CF (bp Z Z) (CJ (aa (aB Z (aw (aa (ae (ai (CG Z ?_)))))))))
    refine CH Z (CJ (aa (aG ?_)))
    refine aQ Tryz.results77 (.tmp Z (ao (by rw [xw hp0 hneg h0])))
  ·refine ae (ae (ai (CG Z (CF (sF X (dF Z Z)) (CJ (aa (aB Z (a6 (ax ?_)))))))))
   refine ax (aM (aa (ae (ae (ai (CF (aj Z) (CF (sF (by assumption) (ak 0 Z Z Z)) (CG Z (sg0 Z Z Z Z ?_)))))))))
   refine sg0 Z Z Z Z (CF (bK Z Z) (CJ (aa (aB Z (aw (aa (ae (ai (CG Z ?_)))))))))
   refine CH Z (CJ (aa (aG ?_)))
   refine aQ Tryz.results77 (.tmp Z (ao (by rw [zB hneg])))
 | succ n =>
  have hx:=aY hla n
  have hst:=xv (p:=p) (show n<l.length by omega) hr
  have hb:r*4294967296+l.getD n 0<18446744073709551616:=by omega
  have hrm:=nB (r*4294967296+l.getD n 0) p hb hp0 X
  have en:((n+1:Nat):Int) - 1=(n:Nat):=by omega
  rw [en]
  refine ae (ae (ai (CG Z (CF (sT X (dF Z Z)) (CJ (aa (aI Z (aw (aa ?_)))))))))
  refine ae (av (ai (CG Z (CF (pH Z X) (CF (aj Z) (CF (ak 0 Z Z Z) (CG Z (CF (aE Z Z X) (CF (aV Z) ?_)))))))))
  refine CF (bH Z X) (CF (jZ Z Z X X) (CG Z ?_))
  refine CF (am (hrm) Z ⟨A,A,CK⟩) ?_
  refine CH Z (CJ (aL (aa (ai (CG Z (CF (dx Z Z (aO X X)) (CH Z (CJ ?_))))))))
  refine aR ((n,(r*4294967296+l.getD n 0) % p)) (⟨by omega,hst⟩) X CA (.keep CE (.nil))
end Tor
end
section
namespace Tor
open Go Go.RowKit Go.Proofs
variable [Tor.Co.Kc]
def dm:Nat→Nat→Nat→Nat × Nat
 | 0, o, t => (o, t)
 | f + 1, o, t => if o % 2 = 0 then dm f (o / 2) (t + 1) else (o, t)
def sqrF (n:Nat):Nat→Nat→Bool
 | 0, _ => false
 | c + 1, x => if x * x % n = n - 1 then true else sqrF n c (x * x % n)
def iD (n:Nat) (O T b:Nat):Bool:=decide (b^O % n=1) || decide (b^O % n=n - 1) || sqrF n (T - 1) (b^O % n)
def dO (j:Nat):Nat := [2,3,5,7].getD j 0
def iU (n O T:Nat):Nat→Nat→Bool
 | 0, _ => true
 | c + 1, j => if n = dO j then true else iD n O T (dO j) && iU n O T c (j + 1)
def bg (n:Nat):Bool:=if n<2∨2147483648≤n then false else if n % 2=0 then decide (n=2) else
 iU n (dm 32 (n - 1) 0).1 (dm 32 (n - 1) 0).2 4 0
theorem kd : ∀ (f o t:Nat),0<o→o<2^f→(dm f o t).1 % 2=1∧0<(dm f o t).1∧(dm f o t).1≤o∧(dm f o t).2≤t+f
 | 0, o, t, h1, h2 => by simp at h2; omega
 | f + 1, o, t, h1, h2 => by
  rw [dm]
  split
  ·have:=kd f (o / 2) (t+1) X (by rw [Nat.pow_succ] at h2;omega)
   omega
  ·simp only;omega
theorem nC (j:Nat):dO j≤7∧(j<4→2≤dO j):=by
 unfold dO
 match j with
 | 0 => decide
 | 1 => decide
 | 2 => decide
 | 3 => decide
 | j + 4 => simp
structure BasR (n:Nat) (O T i:Nat):Prop where
 le:i≤4
 ne : ∀ j,j<i→n≠dO j
 eq:iU n O T 4 0=iU n O T (4 - i) i
theorem BasR.next {n O T i:Nat} (h:BasR n O T i) (hi:i<4) (hn:n≠dO i) (hs:iD n O T (dO i)=true):BasR n O T (i+1):=by
 refine ⟨hi,fun j hj => ?_,?_⟩
 ·rcases Nat.lt_or_eq_of_le (Nat.lt_succ_iff.1 hj) with h' | h'
  ·exact h.ne j h'
  ·rw [h']; exact hn
 ·rw [h.eq,show 4 - i=(4 - (i+1))+1 by omega,iU,if_neg hn,hs]; rfl
theorem BasR.hit {n O T i:Nat} (h:BasR n O T i) (hi:i<4) (hn:n=dO i):iU n O T 4 0=true:=by
 rw [h.eq,show 4 - i=(4 - (i+1))+1 by omega,iU,if_pos hn]
theorem BasR.miss {n O T i:Nat} (h:BasR n O T i) (hi:i<4) (hn:n≠dO i) (hs:iD n O T (dO i)=false):iU n O T 4 0=false:=by
 rw [h.eq,show 4 - i=(4 - (i+1))+1 by omega,iU,if_neg hn,hs]; rfl
theorem BasR.end {n O T:Nat} (h:BasR n O T 4):iU n O T 4 0=true:=by rw [h.eq]; rfl
theorem BasR.lt {n O T i:Nat} (h:BasR n O T i) (hi:i<4) (hn:n≠dO i) (h2:2<n) (ho:n % 2=1):dO i<n:=by
 have h0:=h.ne
 match i,hi with
 | 0, _ => show 2 < n; omega
 | 1, _ => have : n ≠ 3 := hn; show 3 < n; omega
 | 2, _ => have : n ≠ 5 := hn; have : n ≠ 3 := h0 1 X; show 5 < n; omega
 | 3, _ => have : n ≠ 7 := hn; have : n ≠ 3 := h0 1 X; have : n ≠ 5 := h0 2 X; show 7 < n; omega
attribute [local irreducible] J PJ aJ one slT bL bG bD exT cn eP aU aN slV VT.le Ret bS
set_option maxRecDepth 20000 in
theorem fM (n:Nat) (hn64:n<18446744073709551616):Ok Tryz.prog 49 [one (.int .u64 n)] (one (.bool (bg n))):=by
 refine Ok.enter Tryz.func49 Z Tryz.ntmps49 Z (fun w O => ?_)
 unfold bg
 by_cases h1:n<2
 ·rw [if_pos (.inl h1)]
  refine ae (ai (CH Z (CJ (aa (iu (ae (ae (ai (CG Z ?_)))))))))
  refine CF (sT X (bq Z Z)) (CG Z (sg0 Z Z Z Z (sg0 Z Z Z Z (CF (bp Z Z) (CJ (aa (aI Z (ae (ai ?_)))))))))
  refine CH Z (CJ (aa (aG (aK (el ?_)))))
  refine aQ Tryz.results49 (.tmp Z A)
 ·by_cases h2:2147483648≤n
  ·rw [if_pos (.inr h2)]
   refine ae (ai (CH Z (CJ (aa (iu (ae (ae (ai (CG Z ?_)))))))))
   refine CF (sF X (bq Z Z)) (CG Z (CI (ab Z) (CI (sT X (dF Z Z)) (CF (bK Z Z) (CJ (aa (aI Z (ae (ai ?_)))))))))
   refine CH Z (CJ (aa (aG (aK (el ?_)))))
   refine aQ Tryz.results49 (.tmp Z A)
  ·rw [if_neg X]
   by_cases h3:n % 2=0
   ·rw [if_pos h3]
    refine ae (ai (CH Z (CJ (aa (iu (ae (ae (ai (CG Z ?_)))))))))
    refine CF (sF X (bq Z Z)) (CG Z (CI (ab Z) (CI (sF X (dF Z Z)) (CF (bK Z Z) (CJ (aa (aB Z (aw (aa ?_)))))))))
    refine ae (ae (ai (CG Z (CF (ef 2 Z Z Z U) (CF (sT X (cq Z Z)) (CJ (aa (aI Z (ae ?_)))))))))
    refine ai (CG Z (CF (cq Z Z) (CH Z (CJ (aa (aG (aK (el ?_))))))))
    refine aQ Tryz.results49 (.tmp Z (ao (by congr 1;rw [decide_eq_decide]; omega)))
   ·rw [if_neg h3]
    obtain ⟨s1,s2,s3,s4⟩:=kd 32 (n - 1) 0 X X
    have hST:dm 32 (n - 1) 0=((dm 32 (n - 1) 0).1,(dm 32 (n - 1) 0).2):=rfl
    generalize (dm 32 (n - 1) 0).1=OO at *
    generalize (dm 32 (n - 1) 0).2=TT at *
    have hn1:1≤n:=by omega
    refine ae (ai (CH Z (CJ (aa (iu (ae (ae (ai (CG Z ?_)))))))))
    refine CF (sF X (bq Z Z)) (CG Z (CI (ab Z) (CI (sF X (dF Z Z)) (CF (bK Z Z) (CJ (aa (aB Z (aw (aa ?_)))))))))
    refine ae (ae (ai (CG Z (CF (ef 2 Z Z Z U) (CF (sF X (cq Z Z)) (CJ (aa (aB Z (aw ?_)))))))))
    refine aa (ae (ai (CG Z (CF (j6 1 Z Z X X) (CH Z (CH Z (CJ (aa (ae ?_)))))))))
    refine av (ch (Γ' := [(0,_),(2,_),(3,_),(4,_)]) Cz (SubM.refl _) ?_)
    refine bE (σ:=Nat × Nat × Nat) (Γk := [(0,_),(2,_)]) Cz (fun p => [(3,one (.int .u64 (p.1:Nat))),(4,one (.int .i64 (p.2.1:Nat)))]) (fun p M0=>M0) (fun p=>dm p.2.2 p.1 p.2.1=(OO,TT)∧0<p.1∧p.1<2^p.2.2∧p.2.1+p.2.2=32) (fun p=>p.1) ((n - 1,0,32)) (⟨hST,(by omega:0<n - 1),(by omega:n - 1<2^32),rfl⟩) CA (.nil) (fun p hp => ?_)
    refine bR (Γ' := [(3,_),(4,_),(0,_),(2,_)]) (M' := []) Z Z ?_
    obtain ⟨o,t,f⟩:=p
    dsimp only at hp ⊢
    obtain ⟨p1,p2,p3,p4⟩:=hp
    have ho31:o<4294967296:=Nat.lt_of_lt_of_le p3 (Nat.pow_le_pow_right (n:=2) U (show f≤32 by omega))
    by_cases ho:o % 2=0
    ·have hf0:f≠0:=fun h=>by rw [h] at p3;simp at p3;omega
     obtain ⟨g,rfl⟩ : ∃ g,f=g+1:=⟨f - 1,by omega⟩
     rw [dm,if_pos ho] at p1
     have p5:o / 2<2^g:=by rw [Nat.pow_succ] at p3;omega
     refine ae (ae (ai (CG Z (CF (ef 2 Z Z Z U) (CF (sT X (cq Z Z)) (CJ (aa (aI Z (aw ?_)))))))))
     refine aa (av (ae (ai (CG Z (CF (ja Z Z X U) (CH Z (CJ (aa (ai ?_)))))))))
     refine CG Z (CF (bQ _ 1 Z Z X) (CH Z (CJ (aL ?_))))
     refine aR ((o / 2,t+1,g)) (⟨p1,(by omega:0<o / 2),p5,(by omega:t+1+g=32)⟩) X CA (.nil)
    ·have e2:dm f o t=(o,t):=by cases f <;> simp [dm,ho]
     rw [e2] at p1
     obtain ⟨rfl,rfl⟩:=Prod.mk.inj p1
     refine ae (ae (ai (CG Z (CF (ef 2 Z Z Z U) (CF (sF X (cq Z Z)) (CJ (aa (aB Z (a6 ?_)))))))))
     refine ax (ax (aM (aa (ae (mB (aa (ae (ae (ai ?_)))))))))
     refine stB Z Z Z (BuildK.cons Z Z Z (BuildK.cons Z Z Z (BuildK.cons Z Z Z (BuildK.cons Z Z Z (BuildK.nil (CG Z (CJ (aa (av ?_)))))))))
     refine ch (Γ' := [(0,_),(2,_),(3,_),(4,_),(28,_),(29,_)]) Cz (SubM.refl _) ?_
     refine bE (σ:=Nat) (Γk := [(0,_),(3,_),(4,_),(28,_)]) Cz (fun i => [(29,one (.int .i64 (i:Nat)))]) (fun i M0=>M0) (fun i=>BasR n o t i) (fun i=>4 - i) (0) (⟨by decide,fun j hj=>absurd hj (Nat.not_lt_zero j),rfl⟩) CA (.nil) (fun i hi => ?_)
     refine bR (Γ' := [(29,_),(0,_),(3,_),(4,_),(28,_)]) (M' := []) Z Z ?_
     have hile:=hi.le
     refine ae (ai (CF (bq Z Z) (CJ (aa (ae ?_)))))
     refine mq Z (fun hc => ?_) (fun hc => ?_)
     ·have hi4:i<4:=by omega
      have hbl:=nC i
      refine aw (aa (ae (av (ae (ai ?_)))))
      refine CF (vn (fun j=>one (.int .u64 (dO j:Nat))) Z Z hi4 (fun j hj=>by rcases (show j=0∨j=1∨j=2∨j=3 by omega) with rfl | rfl | rfl | rfl <;> rfl)) ?_
      refine CH Z (CJ (aa (ae (ae (ai (CG Z (CG Z (CF (cq Z Z) (CJ ?_)))))))))
      refine aa ?_
      refine mq Z (fun hnb => ?_) (fun hnb => ?_)
      ·rw [hi.hit hi4 X]
       refine ae (ai (CH Z (CJ (aa (aG (aK (a9 (aK (aK ?_)))))))))
       refine a9 (aK (el ?_))
       refine aQ Tryz.results49 (.tmp Z A)
      ·have hnb':n≠dO i:=by omega
       have hlt:=hi.lt hi4 hnb' X X
       have hpw:=uy n (dO i) o X hlt X
       have hxl:dO i^o % n<n:=Nat.mod_lt _ X
       have hss:iD n o t (dO i)=(decide (dO i^o % n=1) || decide (dO i^o % n=n - 1) || sqrF n (t - 1) (dO i^o % n)):=rfl
       generalize dO i^o % n=x0 at *
       clear p3 p4 ho31 s3 e2 p1 hST
       by_cases c1:x0=1
       ·have hst:=hi.next hi4 hnb' (by rw [hss,decide_eq_true c1]; rfl)
        refine aw (aa (ae (ai (CG Z (CG Z (CG Z ?_))))))
        refine CF (am (hpw) Z ⟨A,A,A,CK⟩) ?_
        refine CH Z (CJ (aa (ae (ae (ai (CG Z (CF (sT X (cq Z Z)) (CG Z (sg0 Z Z Z Z ?_)))))))))
        refine sg0 Z Z Z Z (sg0 Z Z Z Z (sg0 Z Z Z Z (CF (bp Z Z) (CJ (aa (aI Z (a6 (ax (aM ?_)))))))))
        refine aa (ai (CF (bQ _ 1 Z Z X) (CG Z (CJ ?_))))
        refine aR (i+1) (hst) X CA (.nil)
       ·by_cases c2:x0=n - 1
        ·have hst:=hi.next hi4 hnb' (by rw [hss,decide_eq_true c2,Bool.or_true]; rfl)
         refine aw (aa (ae (ai (CG Z (CG Z (CG Z ?_))))))
         refine CF (am (hpw) Z ⟨A,A,A,CK⟩) ?_
         refine CH Z (CJ (aa (ae (ae (ai (CG Z (CF (sF X (cq Z Z)) (CG Z (CI (ab Z) ?_)))))))))
         refine CI (ab Z) (CI (j6 1 Z Z X X) (CI (sT X (cq Z Z)) (CF (bK Z Z) (CJ (aa (aI Z (a6 (ax (aM ?_)))))))))
         refine aa (ai (CF (bQ _ 1 Z Z X) (CG Z (CJ ?_))))
         refine aR (i+1) (hst) X CA (.nil)
        ·rw [decide_eq_false c1,decide_eq_false c2] at hss
         simp only [Bool.false_or] at hss
         refine aw (aa (ae (ai (CG Z (CG Z (CG Z ?_))))))
         refine CF (am (hpw) Z ⟨A,A,A,CK⟩) ?_
         refine CH Z (CJ (aa (ae (ae (ai (CG Z (CF (sF X (cq Z Z)) (CG Z (CI (ab Z) ?_)))))))))
         refine CI (ab Z) (CI (j6 1 Z Z X X) (CI (sF X (cq Z Z)) (CF (bK Z Z) (CJ (aa (aB Z (aw (aa (ae ?_)))))))))
         refine ae (ai (CG Z (CF (dx Z Z (aO X X)) (CG Z (CJ (aa (av (ch (Γ' := [(0,_),(3,_),(4,_),(7,_),(28,_),(29,_),(48,_),(49,_)]) Cz (SubM.refl _) ?_))))))))
         refine bE (σ:=Nat × Nat) (Γk := [(0,_),(3,_),(4,_),(28,_),(29,_),(48,_)]) Cz (fun q => [(49,one (.int .i64 (q.1:Nat))),(7,one (.int .u64 (q.2:Nat)))]) (fun q M0=>M0) (fun q=>q.2<n∧sqrF n (t - 1) x0=sqrF n (t - 1 - q.1) q.2) (fun q=>t - 1 - q.1) ((0,x0)) (⟨hxl,rfl⟩) CA (.nil) (fun q hq => ?_)
         refine bR (Γ' := [(49,_),(7,_),(0,_),(3,_),(4,_),(28,_),(29,_),(48,_)]) (M' := []) Z Z ?_
         obtain ⟨j,x⟩:=q
         dsimp only at hq ⊢
         obtain ⟨q1,q2⟩:=hq
         by_cases hj:j<t - 1
         ·rw [show t - 1 - j=(t - 1 - (j+1))+1 by omega,sqrF] at q2
          have hxx:x*x % n<n:=Nat.mod_lt _ X
          by_cases c3:x*x % n=n - 1
          ·rw [if_pos c3] at q2
           have hst:=hi.next hi4 hnb' (hss.trans q2)
           have e3:((x*x % n:Nat):Int)=((n - 1:Nat):Int):=by rw [c3]
           refine ae (ai (CF (sT X (bq Z Z)) (CJ (aa (ae (aI Z (aw (aa (ae ?_)))))))))
           refine av (ae (ai (CG Z (CG Z (CG Z ?_)))))
           refine CF (am (gq _ _ _ (by assumption) X X X) Z ⟨A,A,A,CK⟩) ?_
           refine CH Z (CJ (aa (ae (ai (CG Z (CG Z (CF (j6 1 Z Z X X) (CF (sT (by assumption) (cq Z Z)) (CJ ?_)))))))))
           refine aa (aI Z (a6 (dK Z (ax (ax (dK Z (ax (aM (aa ?_)))))))))
           refine ai (CF (bQ _ 1 Z Z X) (CG Z (CJ ?_)))
           refine aR (i+1) (hst) X CA (.nil)
          ·rw [if_neg c3] at q2
           refine ae (ai (CF (sT X (bq Z Z)) (CJ (aa (ae (aI Z (aw (aa (ae ?_)))))))))
           refine av (ae (ai (CG Z (CG Z (CG Z ?_)))))
           refine CF (am (gq _ _ _ (by assumption) X X X) Z ⟨A,A,A,CK⟩) ?_
           refine CH Z (CJ (aa (ae (ai (CG Z (CG Z (CF (j6 1 Z Z X X) (CF (sF X (cq Z Z)) (CJ ?_)))))))))
           refine aa (aB Z (aw (aL (aa (ai (CF (bQ _ 1 Z Z X) (CG Z (CJ ?_))))))))
           refine aR ((j+1,x*x % n)) (⟨hxx,q2⟩) X CA (.nil)
         ·have hf:iD n o t (dO i)=false:=by rw [hss,q2,show t - 1 - j=0 by omega]; rfl
          rw [hi.miss hi4 hnb' hf]
          refine ae (ai (CF (sF X (bq Z Z)) (CJ (aa (ae (aB Z (a6 (ax (ax ?_)))))))))
          refine aM (aa (ae (ai (CH Z (CJ (aa (aG (a9 (aK ?_)))))))))
          refine aK (a9 (aK (el ?_)))
          refine aQ Tryz.results49 (.tmp Z A)
     ·have:i=4:=by omega
      subst this
      rw [hi.end]
      refine a6 (ax (ax (aM (aa (ae (ai (CH Z (CJ (aa ?_)))))))))
      refine aG (el ?_)
      refine aQ Tryz.results49 (.tmp Z A)
end Tor
end
section
namespace Tor
variable [Tor.Co.Kc]
def lR:Nat→Nat→Nat→Nat→Nat→Nat
 | 0, _, r, _, _ => r
 | f + 1, p, r, a, e => if e = 0 then r else lR f p (if e % 2 = 1 then r * a % p else r) (a * a % p) (e / 2)
theorem pX : ∀ (f:Nat) {p v r a e:Nat},e<2^f→PowR p v (r,a,e)→lR f p r a e=v
 | 0, p, v, r, a, e, h, hR => by
  have:e=0:=by simpa using h
  subst this;exact hR.done
 | f + 1, p, v, r, a, e, h, hR => by
  rw [lR]
  by_cases h0:e=0
  ·subst h0;rw [if_pos Z]; exact hR.done
  ·rw [if_neg h0]
   have h2:e / 2<2^f:=by rw [Nat.pow_succ] at h;omega
   by_cases h1:e % 2=1
   ·rw [if_pos h1]; exact pX f h2 (hR.odd h1)
   ·rw [if_neg h1]; exact pX f h2 (hR.even h1)
def dC (n O T b:Nat):Bool:=decide (lR 64 n (1 % n) b O=1) || decide (lR 64 n (1 % n) b O=n - 1) || sqrF n (T - 1) (lR 64 n (1 % n) b O)
theorem vA {n O T b:Nat} (hb:b<n) (hO:O<18446744073709551616):iD n O T b=dC n O T b:=by
 have:=pX 64 (e:=O) hO (PowR.start (p:=n) X hb hO)
 unfold iD dC
 rw [this]
def oO (n O T:Nat):Nat→Nat→Bool
 | 0, _ => true
 | c + 1, j => if n = dO j then true else dC n O T (dO j) && oO n O T c (j + 1)
theorem uA {n O T:Nat} (h7:7<n) (hO:O<18446744073709551616) : ∀ c j,iU n O T c j=oO n O T c j
 | 0, _ => rfl
 | c + 1, j => by
  have hb:=(nC j).1
  rw [iU,oO,vA X hO,uA h7 hO c (j+1)]
def nD (n:Nat):Bool:=if n<2∨2147483648≤n then false else if n % 2=0 then decide (n=2) else
 oO n (dm 32 (n - 1) 0).1 (dm 32 (n - 1) 0).2 4 0
theorem nE {n:Nat} (h7:7<n):bg n=nD n:=by
 unfold bg nD
 by_cases h1:n<2∨2147483648≤n
 ·rw [if_pos h1,if_pos h1]
 ·rw [if_neg h1,if_neg h1]
  by_cases h2:n % 2=0
  ·rw [if_pos h2,if_pos h2]
  ·rw [if_neg h2,if_neg h2]
   have:=kd 32 (n - 1) 0 X X
   exact uA h7 X 4 0
end Tor
end
section
namespace Tor
open Go Go.RowKit Go.Proofs
variable [Tor.Co.Kc]
def im (v:Nat):Nat:=if v=0 then 0 else 32*((aC v).length - 1)+fw ((aC v).getD ((aC v).length - 1) 0)
attribute [local irreducible] J PJ aJ one slT bL bG bD exT cn eP aU aN slV VT.le Ret bS
end Tor
end
