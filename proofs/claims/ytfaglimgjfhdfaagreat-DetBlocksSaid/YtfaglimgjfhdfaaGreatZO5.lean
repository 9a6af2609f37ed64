/-
  Theorems that the proofs of laws of this seat rest on.
  No condition.
-/
import Derived.Test.YtfaglimgjfhdfaaGreatZO4
set_option maxHeartbeats 20000000
set_option linter.unusedVariables false
set_option linter.unusedSimpArgs false
set_option linter.unusedSectionVars false
section
namespace Tor
open Go Go.RowKit Go.Proofs
variable [Tor.Co.Kc]
structure RTimesR (lx ly zz:List Nat) (i:Nat):Prop where
 le:i≤lx.length
 len:zz.length=lx.length+ly.length+1
 lim:bp zz
 zero : ∀ k,i+ly.length≤k→zz.getD k 0=0
 val:lv zz=lv (lx.take i)*lv ly
structure RTimesI (lx ly z0 zz:List Nat) (i j c:Nat):Prop where
 le:j≤ly.length+1
 top:ly.length<j→c=0
 len:zz.length=lx.length+ly.length+1
 lim:bp zz
 zero : ∀ k,i+ly.length<k→zz.getD k 0=0
 zer1:j≤ly.length→zz.getD (i+ly.length) 0=0
 c1:c<4294967296
 val:lv zz+4294967296^(i+j)*c=lv z0+4294967296^i*(lx.getD i 0*lv (ly.take j))
theorem RTimesI.step {lx ly z0 zz:List Nat} {i j c:Nat} (h:RTimesI lx ly z0 zz i j c) (hx:bp lx) (hy:bp ly) (hi:i<lx.length) (hgo:j<ly.length∨0<c) :
  RTimesI lx ly z0 (zz.set (i+j) ((c+zz.getD (i+j) 0+lx.getD i 0*ly.getD j 0) % 4294967296)) i (j+1) ((c+zz.getD (i+j) 0+lx.getD i 0*ly.getD j 0) / 4294967296):=by
 have hj:j≤ly.length:=by have:=h.le;have:=h.top;omega
 have hlim:=jZ (a9 hx i) (a9 hy j) (a9 h.lim (i+j)) h.c1
 have hlt:i+j<zz.length:=by rw [h.len]; omega
 refine ⟨by omega,fun ht => ?_,by rw [List.length_set]; exact h.len,h.lim.set X,fun k hk => ?_,fun hk => ?_,by omega,?_⟩
 ·have e:j=ly.length:=by omega
  subst e
  rw [h.zer1 (Nat.le_refl _)]
  have e2:ly.getD ly.length 0=0:=by simp
  rw [e2,Nat.mul_zero]
  have:=h.c1;omega
 ·rw [dj hlt,if_neg X]; exact h.zero k hk
 ·rw [dj hlt,if_neg X]; exact h.zer1 X
 ·have hs:=fa (l:=zz) (k:=i+j) (v:=(c+zz.getD (i+j) 0+lx.getD i 0*ly.getD j 0) % 4294967296) hlt
  have hv:=h.val
  rw [mh]
  generalize lx.getD i 0=x at *
  generalize ly.getD j 0=y at *
  generalize zz.getD (i+j) 0=z at *
  have e:c+z+x*y=4294967296*((c+z+x*y) / 4294967296)+(c+z+x*y) % 4294967296:=by omega
  generalize (c+z+x*y) / 4294967296=q at *
  generalize (c+z+x*y) % 4294967296=r at *
  rw [show i+(j+1)=(i+j)+1 by omega,Nat.pow_succ]
  have eB:4294967296^i*4294967296^j=4294967296^(i+j):=(Nat.pow_add _ _ _).symm
  have e3:4294967296^i*(x*(lv (ly.take j)+4294967296^j*y))=4294967296^i*(x*lv (ly.take j))+4294967296^(i+j)*(x*y):=by
   rw [Nat.mul_add,Nat.mul_add, ← eB]
   congr 1
   rw [Nat.mul_assoc]; congr 1
   rw [Nat.mul_left_comm]
  rw [e3]
  generalize 4294967296^(i+j)=B at *
  have e2:B*(c+z+x*y)=B*(4294967296*q+r):=by rw [e]
  simp only [Nat.mul_add, ← Nat.mul_assoc] at e2 ⊢ hs hv
  omega
theorem RTimesR.start {lx ly z0:List Nat} {i:Nat} (h:RTimesR lx ly z0 i):RTimesI lx ly z0 z0 i 0 0 :=
 ⟨Nat.zero_le _,fun _=>rfl,h.len,h.lim,fun k hk=>h.zero k X,fun _=>h.zero _ (Nat.le_refl _),by omega,by simp [lv]⟩
theorem RTimesI.finish {lx ly z0 zz:List Nat} {i j:Nat} (h0:RTimesR lx ly z0 i) (h:RTimesI lx ly z0 zz i j 0) (hj:ly.length≤j) (hi:i<lx.length):RTimesR lx ly zz (i+1):=by
 refine ⟨hi,h.len,h.lim,fun k hk=>h.zero k X,?_⟩
 have hv:=h.val
 rw [Nat.mul_zero,Nat.add_zero,List.take_of_length_le hj,h0.val] at hv
 rw [hv,bA hi,Nat.add_mul,Nat.mul_assoc]
attribute [local irreducible] J PJ aB one slT bJ bB bv exT cd eP aQ aI slV VT.le Ret bN
attribute [local irreducible] aW
theorem xH (n1 n2:Bool) (v1 v2:Nat) (h1:(aS v1).length≤1099511627776) (h2:(aS v2).length≤1099511627776):Ok Tryz.prog 16 [sgT n1 v1,sgT n2 v2] (aW (sv n1 v1*sv n2 v2)):=by
 unfold sgT
 refine Ok.enter Tryz.func16 Z Tryz.ntmps16 Z (fun w O => ?_)
 have hx:=bg v1
 have hy:=bg v2
 have hva:=bW v1
 have hvb:=bW v2
 generalize aS v1=lx at *
 generalize aS v2=ly at *
 refine ae (ai ?_)
 refine bE Z Z (ltN Z) (fun b => ?_)
 refine bE Z Z (ltN Z) (fun b => ?_)
 refine aU (T:=28) Z (ltN Z) (fun b => ?_)
 refine AT (aa (ae (ai (AP (aj Z) (AP (am 2 Z Z Z) (AP (bh Z) (AP (aj Z) (AP (am 1 Z Z Z) (AP (bh Z) ?_)))))))))
 (refine AP (cB Z Z (aT ?_ ?_)) ?_;omega;omega)
 (refine AP (cB Z Z (aT ?_ ?_)) ?_;omega;omega)
 rename_i ba bb
 refine cx (lx.length+ly.length+1) (lx.length+ly.length+1) Z Z (by simp) (by simp) (Nat.le_refl _) Z Z X Z Z (fun bz => ?_)
 refine AR Z (AT (aa (ae (ae (ai (AR Z (AT (aa (aw ?_)))))))))
 refine cU (σ:=List Nat × Nat) (fun s => [(2,one (.pointer (some ⟨ba,0,none⟩))),(3,one (.pointer (some ⟨bb,0,none⟩))),(4,one (.pointer (some ⟨b,0,none⟩))),(5,one (slV (some bz) (lx.length+ly.length+1) (lx.length+ly.length+1))),(6,one (.int .i64 (s.2:Nat)))])
   (fun s => [aI (some bz) 83 .one (lx.length+ly.length+1) (lx.length+ly.length+1) (fun q=>one (.int .u32 (s.1.getD q 0:Nat))),aQ b 28 2 [(0, .agg 2,one (.agg #[.bool false, .slice none 0 0]))],aQ bb 28 2 [(0, .one,one (.bool n2)),(1, .one,cw ly)],aQ ba 28 2 [(0, .one,one (.bool n1)),(1, .one,cw lx)]])
   (fun s=>RTimesR lx ly s.1 s.2) (fun s=>lx.length - s.2) (List.replicate (lx.length+ly.length+1) 0,0)
   ⟨Nat.zero_le _,by simp,bp.replicate _,fun k _=>cj _ _,by simp [dE,lv]⟩ AM (.keep (bZ (fun q _=>by rw [cj]; rfl)) (SubM.refl _)) (fun s hR => ?_)
 obtain ⟨z0,i⟩:=s
 simp only at hR ⊢
 refine ae (ae (ai (AQ Z (AP (aj Z) (AP (am 3 Z Z Z) (AP (bh Z) (AP (bH Z Z) (AT (aa ?_)))))))))
 refine bw Z (fun hc => ?_) (fun hc => ?_) <;> simp at hc
 ·have g1:=a9 hx i
  refine az (aa (ae (aw (ae (ai (AR Z (AT (aa (ae ?_)))))))))
  refine ai (AR Z (AT (aa (aw ?_))))
  refine cU (σ:=List Nat × Nat × Nat) (fun s => [(2,one (.pointer (some ⟨ba,0,none⟩))),(3,one (.pointer (some ⟨bb,0,none⟩))),(4,one (.pointer (some ⟨b,0,none⟩))),(5,one (slV (some bz) (lx.length+ly.length+1) (lx.length+ly.length+1))),(6,one (.int .i64 (i:Nat))),(7,one (.int .u64 (s.2.2:Nat))),(8,one (.int .i64 (s.2.1:Nat)))])
   (fun s => [aI (some bz) 83 .one (lx.length+ly.length+1) (lx.length+ly.length+1) (fun q=>one (.int .u32 (s.1.getD q 0:Nat))),aQ b 28 2 [(0, .agg 2,one (.agg #[.bool false, .slice none 0 0]))],aQ bb 28 2 [(0, .one,one (.bool n2)),(1, .one,cw ly)],aQ ba 28 2 [(0, .one,one (.bool n1)),(1, .one,cw lx)]])
   (fun s=>RTimesI lx ly z0 s.1 i s.2.1 s.2.2) (fun s=>ly.length+1 - s.2.1) (z0,0,0)
   hR.start AM (SubM.refl _) (fun s hI => ?_)
  obtain ⟨zz,j,c⟩:=s
  simp only at hI ⊢
  have g0:=hI.c1
  have gj:=hI.le
  refine ae (ae ?_)
  refine gU (σ:=Unit) (fun _ => [(2,one (.pointer (some ⟨ba,0,none⟩))),(3,one (.pointer (some ⟨bb,0,none⟩))),(4,one (.pointer (some ⟨b,0,none⟩))),(5,one (slV (some bz) (lx.length+ly.length+1) (lx.length+ly.length+1))),(6,one (.int .i64 (i:Nat))),(7,one (.int .u64 (c:Nat))),(8,one (.int .i64 (j:Nat))),(33,one (.bool (decide (j<ly.length∨0<c))))])
   (fun _ => [aI (some bz) 83 .one (lx.length+ly.length+1) (lx.length+ly.length+1) (fun q=>one (.int .u32 (zz.getD q 0:Nat))),aQ b 28 2 [(0, .agg 2,one (.agg #[.bool false, .slice none 0 0]))],aQ bb 28 2 [(0, .one,one (.bool n2)),(1, .one,cw ly)],aQ ba 28 2 [(0, .one,one (.bool n1)),(1, .one,cw lx)]]) (fun _=>True) ?_ (fun _ _ => ?_)
  ·refine ai (AQ Z (AP (aj Z) (AP (am 2 Z Z Z) (AP (bh Z) (AP (bH Z Z) (AQ Z ?_))))))
   refine nT (t:=29) Z (fun bo hb => ?_)
   rw [hb]
   cases bo
   ·simp at hb
    refine AS (ab Z) (AS (dk Z Z) (AP (bY Z Z) (AT ?_)))
    exact dg () trivial (.cons Z A (.cons Z A (.cons Z A (.cons Z A (.cons Z A (.cons Z A (.cons Z A (.cons Z (av (by congr 1;rw [decide_eq_decide]; omega)) .nil)))))))) (SubM.refl _)
   ·simp at hb
    refine sg0 Z Z Z Z (sg0 Z Z Z Z (AP (bP Z Z) (AT ?_)))
    exact dg () trivial (.cons Z A (.cons Z A (.cons Z A (.cons Z A (.cons Z A (.cons Z A (.cons Z A (.cons Z (av (by simp;omega)) .nil)))))))) (SubM.refl _)
  ·refine aa ?_
   refine bw Z (fun hc2 => ?_) (fun hc2 => ?_) <;> simp only [decide_eq_true_eq,decide_eq_false_iff_not] at hc2
   ·have hstep:=hI.step hx hy hc hc2
    have hjl:j≤ly.length:=by have:=hI.top;omega
    have g2:=a9 hy j
    have g3:=a9 hI.lim (i+j)
    have g4:=jZ g1 g2 g3 g0
    have hlt:i+j<zz.length:=by rw [hI.len]; omega
    refine az (aa (ae (aw (ae (ai (AQ Z (AQ Z (AQ Z (AQ Z ?_)))))))))
    (refine AP (cB Z Z (aT ?_ ?_)) ?_;omega;omega)
    (refine AP (ar Z Z ?_) ?_;omega)
    (refine AP (bQ 0 Z Z ?_) ?_;omega)
    (refine AP (bX Z ?_) ?_;omega)
    (refine AP (ej Z Z ?_) ?_;omega)
    refine AR Z (AT (aa (ae (ae (ai (AQ Z (AP (aj Z) (AP (am 2 Z Z Z) (AP (bh Z) ?_)))))))))
    refine AP (bH Z Z) (AT (aa ?_))
    refine gU (σ:=Unit) (fun _ => [(2,one (.pointer (some ⟨ba,0,none⟩))),(3,one (.pointer (some ⟨bb,0,none⟩))),(4,one (.pointer (some ⟨b,0,none⟩))),(5,one (slV (some bz) (lx.length+ly.length+1) (lx.length+ly.length+1))),(6,one (.int .i64 (i:Nat))),(7,one (.int .u64 (c+zz.getD (i+j) 0+lx.getD i 0*ly.getD j 0:Nat))),(8,one (.int .i64 (j:Nat)))])
     (fun _ => [aI (some bz) 83 .one (lx.length+ly.length+1) (lx.length+ly.length+1) (fun q=>one (.int .u32 (zz.getD q 0:Nat))),aQ b 28 2 [(0, .agg 2,one (.agg #[.bool false, .slice none 0 0]))],aQ bb 28 2 [(0, .one,one (.bool n2)),(1, .one,cw ly)],aQ ba 28 2 [(0, .one,one (.bool n1)),(1, .one,cw lx)]]) (fun _=>True) ?_ (fun _ _ => ?_)
    ·refine bw Z (fun hc3 => ?_) (fun hc3 => ?_) <;> simp only [decide_eq_true_eq,decide_eq_false_iff_not] at hc3
     ·skip
      refine bG 16 bL Y U (AQ Z (AP (aj Z) (AP (am 3 Z Z Z) (AQ Z ?_))))
      (refine AP (aR Z Z ?_) ?_;omega)
      refine AP (bj Z) ?_
      (refine AP (bX Z ?_) ?_;omega)
      refine AP (aj Z) (AP (am 2 Z Z Z) (AQ Z ?_))
      (refine AP (aR Z Z ?_) ?_;omega)
      refine AP (bj Z) ?_
      (refine AP (bX Z ?_) ?_;omega)
      (refine AP (jq Z Z ?_) ?_;omega)
      (refine AP (ej Z Z ?_) ?_;omega)
      refine AR Z (AT (AT ?_))
      exact dg () trivial AM (SubM.refl _)
     ·have e0:ly.getD j 0=0:=by simp [List.getElem?_eq_none (show ly.length≤j by omega)]
      refine az ?_
      refine dg () trivial ?_ (SubM.refl _)
      rw [e0,Nat.mul_zero,Nat.add_zero]
      exact AM
    ·refine aa (ae (ai (AQ Z (AQ Z (AQ Z ?_)))))
     (refine AP (cB Z Z (aT ?_ ?_)) ?_;omega;omega)
     refine AQ Z (AP (cH Z) ?_)
     (refine AP (ar Z Z ?_) ?_;omega)
     (refine ax 0 Z Z Z ?_ Z ?_;omega)
     refine AT (aa (ai (AQ Z ?_)))
     (refine AP (xv Z ?_) ?_;omega)
     refine AR Z (AT (aK (aa (ai (AQ Z ?_)))))
     (refine AP (cB Z Z (aT ?_ ?_)) ?_;omega;omega)
     refine AR Z (AT ?_)
     refine cz (s:=(zz,j,c)) (zz.set (i+j) ((c+zz.getD (i+j) 0+lx.getD i 0*ly.getD j 0) % 4294967296),j+1,(c+zz.getD (i+j) 0+lx.getD i 0*ly.getD j 0) / 4294967296) hstep (by show ly.length+1 - (j+1)<ly.length+1 - j;omega) AM (.keep (bZ (fun q hq => ?_)) (SubM.refl _))
     unfold upd;rw [dj hlt]; split <;> rfl
   ·have hc0:c=0:=by omega
    subst hc0
    have hfin:=hI.finish hR X hc
    refine a8 (ay (ay (aM (aK (aa (ai (AQ Z ?_)))))))
    (refine AP (cB Z Z (aT ?_ ?_)) ?_;omega;omega)
    refine AR Z (AT ?_)
    exact cz (s:=(z0,i)) (zz,i+1) hfin (by show lx.length - (i+1)<lx.length - i;omega) AM (SubM.refl _)
 ·have hi:i=lx.length:=by have:=hR.le;omega
  refine a8 (ay (ay (aM (aa (ae (ai (AQ Z (AP (aj Z) (AP (am 3 Z Z Z) ?_)))))))))
  refine AP (aj Z) (AP (am 2 Z Z Z) (AP (pf Z Z) (gQ (t:=74) (j:=0) Z Z ?_)))
  skip
  refine AP (ao (mg _ (v1*v2)) Z ⟨VT.le_trans (cN (m:=z0.length) (ψ:=fun i=>one (.int .u32 (z0.getD i 0:Nat))) hR.len.symm (fun q hq=>rfl)) (sD (l:=z0) hR.lim ?_ ?_),A,AU⟩) ?_
  ·rw [hR.val,hi,List.take_length,hva,hvb]
  ·rw [hR.len]; omega
  refine au 0 Z Z Z Z Z (leN Z) Z (AT (aa (aH ?_)))
  exact aX Tryz.results16 (.cellB 0 Z Z Z (cW (by cases n1 <;> cases n2 <;> simp [sv,Int.neg_mul,Int.mul_neg])))
end Tor
end
section
namespace Tor
open Go Go.RowKit Go.Proofs
variable [Tor.Co.Kc]
def jC (neg:Bool) (l:List Nat):VT:=bB 2 [(0, .one,one (.bool neg)),(1, .one,cw l)]
def fb (neg:Bool) (l:List Nat):Bool:=if l.length=0 then !neg else decide (l.getD (l.length - 1) 0≠0)
theorem vE (x:Int):VT.le (aW x) (jC (decide (x<0)) (aS x.natAbs)):=VT.le_refl _
attribute [local irreducible] J PJ aB one slT bJ bB bv exT cd eP aQ aI slV VT.le Ret bN
theorem tW (neg:Bool) (l:List Nat) (hl:l.length≤4398046511104):Ok Tryz.prog 46 [jC neg l] (one (.bool (fb neg l))):=by
 unfold jC
 refine Ok.enter Tryz.func46 Z Tryz.ntmps46 Z (fun w O => ?_)
 by_cases h0:l.length=0
 ·refine ae (ai ?_)
  refine bE Z Z (ltN Z) (fun b => ?_)
  refine AR Z (AT (aa (ae (ae (ai (AP (aj Z) (AP (am 0 Z Z Z) (AP (bh Z) (AP (cQ Z Z) ?_)))))))))
  refine AT (aa ?_)
  refine bw Z (fun hc => ?_) (fun hc => ?_) <;> simp only [decide_eq_true_eq,decide_eq_false_iff_not] at hc
  ·refine ae (ai (AP (aj Z) (AP (am 0 Z Z Z) (AP (dl Z) (AR Z (AT (aa (aH (aL ?_)))))))))
   exact aX Tryz.results46 (.tmp Z (av (by unfold fb;rw [if_pos h0])))
  ·omega
 ·refine ae (ai ?_)
  refine bE Z Z (ltN Z) (fun b => ?_)
  refine AR Z (AT (aa (ae (ae (ai (AP (aj Z) (AP (am 0 Z Z Z) (AP (bh Z) (AP (cQ Z Z) ?_)))))))))
  refine AT (aa ?_)
  refine bw Z (fun hc => ?_) (fun hc => ?_) <;> simp only [decide_eq_true_eq,decide_eq_false_iff_not] at hc
  ·omega
  ·refine az (aa (ae (ai (AP (aj Z) (AP (am 0 Z Z Z) (AP (aj Z) (AP (am 0 Z Z Z) (AP (bh Z) ?_))))))))
   (refine AP (eu Z Z (aT ?_ ?_)) ?_;omega;omega)
   (refine AP (gB Z Z ?_ ?_) ?_;omega;omega)
   refine AP (bj Z) (AP (eh Z Z) (AR Z (AT (aa (aH ?_)))))
   refine aX Tryz.results46 (.tmp Z (av ?_))
   have e:(↑l.length - 1:Int).toNat=l.length - 1:=by omega
   unfold fb;rw [if_neg h0,e]; congr 1;rw [decide_eq_decide]; omega
end Tor
end
section
namespace Tor
open Go Go.RowKit Go.Proofs
variable [Tor.Co.Kc]
def ci (x:Int):Prop:=(aS x.natAbs).length≤1099511627776
theorem dH {x:Int} (h:x.natAbs<2^2048):ci x:=by
 have:(aS x.natAbs).length≤64:=db (Nat.lt_of_lt_of_le h V)
 unfold ci;omega
theorem fM (x y:Int) (hx:ci x) (hy:ci y):Ok Tryz.prog 86 [aW x,aW y] (aW (x+y)):=by
 have h:=vD (decide (x<0)) (decide (y<0)) x.natAbs y.natAbs hx hy
 rw [f7,f7] at h
 exact h.le ⟨eM _,eM _,AU⟩ A
theorem xI (x y:Int) (hx:ci x) (hy:ci y):Ok Tryz.prog 90 [aW x,aW y] (aW (x - y)):=by
 have h:=zt (decide (x<0)) (decide (y<0)) x.natAbs y.natAbs hx hy
 rw [f7,f7] at h
 exact h.le ⟨eM _,eM _,AU⟩ A
theorem fN (x y:Int) (hx:ci x) (hy:ci y):Ok Tryz.prog 87 [aW x,aW y] (aW (x*y)):=by
 have h:=zu (decide (x<0)) (decide (y<0)) x.natAbs y.natAbs hx hy
 rw [f7,f7] at h
 exact h.le ⟨eM _,eM _,AU⟩ A
theorem pS (x:Int):Ok Tryz.prog 132 [aW x] (one (.int .i64 (j8 x))):=by
 have h:=ot (decide (x<0)) x.natAbs
 rw [f7] at h
 exact h.le ⟨eM _,AU⟩ A
theorem iZ (x y:Int):Ok Tryz.prog 89 [aW x,aW y] (one (.int .i64 (cT x y))):=by
 have h:=zv (decide (x<0)) (decide (y<0)) x.natAbs y.natAbs
 rw [f7,f7] at h
 exact h.le ⟨eM _,eM _,AU⟩ A
theorem mj (x y:Int) (hx:ci x) (hy:ci y):Ok Tryz.prog 16 [aW x,aW y] (aW (x*y)):=by
 have h:=xH (decide (x<0)) (decide (y<0)) x.natAbs y.natAbs hx hy
 rw [f7,f7] at h
 exact h.le ⟨eM _,eM _,AU⟩ A
def jD (x:Int):Prop:=x.natAbs≤2^400
theorem gL {x:Int} {n:Nat} (h:x.natAbs≤n) (hn:n<2^2048):ci x:=dH (Nat.lt_of_le_of_lt h hn)
theorem dU {x:Int} (hx:jD x):ci x:=gL hx V
def pT (x:Int):Prop:=(aS x.natAbs).length≤274877906944
theorem jD.L {x:Int} (h:jD x):pT x:=Nat.le_trans (db (k:=64) (Nat.lt_of_le_of_lt h V)) U
theorem ml {x:Int} (h:pT x):ci x:=Nat.le_trans h U
theorem zw {x:Int} {k:Nat} (h:(aS x.natAbs).length≤k):x.natAbs<4294967296^k:=Nat.lt_of_lt_of_le (dS _) (Nat.pow_le_pow_right U h)
theorem vF {x y:Int} {j k:Nat} (hx:(aS x.natAbs).length≤j) (hy:(aS y.natAbs).length≤k):(aS (x*y).natAbs).length≤j+k:=db (by
 rw [Int.natAbs_mul,Nat.pow_add]
 have h1:=zw hx
 have h2:=zw hy
 exact Nat.lt_of_le_of_lt (Nat.mul_le_mul_left _ (Nat.le_of_lt h2)) (Nat.mul_lt_mul_of_pos_right h1 (Nat.pow_pos U)))
theorem pU {x y:Int} (hx:pT x) (hy:pT y):(aS (x*y).natAbs).length≤549755813888:=vF hx hy
theorem tX {x y:Int} (hx:pT x) (hy:pT y):ci (x*y):=Nat.le_trans (pU hx hy) U
theorem kM:ci 1:=dH V
theorem ou (φ:VT):VT.le φ bN:=fun _ _ _=>trivial
instance {neg:Bool} {l:List Nat} : Flat (jC neg l) (.agg 2):=by unfold jC;infer_instance
attribute [local irreducible] J PJ aB one slT bJ bB bv exT cd eP aQ aI slV VT.le Ret bN
theorem vG (l:List Nat) (hl:l.length≤1099511627776):Ok Tryz.prog 167 [cw l] (cw l):=by
 unfold cw
 refine Ok.enter Tryz.func167 Z Tryz.ntmps167 Z (fun w O => ?_)
 refine ae (ai (AR Z (AT (aa (ae (ae (ai (AQ Z (AP (sj Z) ?_)))))))))
 refine AT (aa ?_)
 refine xq (t:=4) Z (fun b => ?_)
 refine sf (t:=4) Z (fun hb => ?_)
 refine bw Z (fun hc => ?_) (fun hc => ?_)
 ·have h0:=hb hc
  refine ae (ai (AR Z (AT (aa (aH (aL ?_))))))
  refine aX Tryz.results167 (.tmp Z (by (rw [h0]; exact gq)))
 ·refine az (aa (ae (ai (u3 (n:=0) Z Z Z Z Z ?_))))
  refine PartsK.nil (fun bl => ?_)
  refine AQ Z ?_
  (refine eH 0 Z Z Z (leN Z) ?_ ?_ Z (ltN Z) (fun sv7 cap7 => ?_);omega;omega)
  refine AR Z (AT (aa (aH (dX (t:=2) (i:=0) Z Z ?_))))
  refine aX Tryz.results167 (.tmp Z (cN (by simp) (fun i hi=>by simp)))
end Tor
end
section
namespace Tor
open Go Go.RowKit Go.Proofs
variable [Tor.Co.Kc]
def f9:Nat→Nat→Nat
 | 0, _ => 0
 | f + 1, x => if x = 0 then 0 else f9 f (x / 2) + 1
def fp (x:Nat):Nat:=f9 64 x
theorem gb : ∀ (f x:Nat),x<2^f→x<2^f9 f x∧(x=0→f9 f x=0)∧(x≠0→0<f9 f x∧2^(f9 f x - 1)≤x)∧f9 f x≤f
 | 0, x, h => by simp at h; subst h; simp [f9]
 | f + 1, x, h => by
  rw [f9]
  split
  ·rename_i h0;subst h0;simp
  ·rename_i h0
   have h1:x / 2<2^f:=by rw [Nat.pow_succ] at h;omega
   obtain ⟨i1,i2,i3,i4⟩:=gb f (x / 2) h1
   refine ⟨by rw [Nat.pow_succ]; omega,fun h=>absurd h h0,fun _=>⟨by omega,?_⟩,by omega⟩
   rw [Nat.add_sub_cancel]
   by_cases h2:x / 2=0
   ·rw [i2 h2]; simp;omega
   ·obtain ⟨j1,j2⟩:=i3 h2
    obtain ⟨m,hm⟩ : ∃ m,f9 f (x / 2)=m+1:=⟨f9 f (x / 2) - 1,by omega⟩
    rw [hm] at j2 ⊢
    rw [Nat.add_sub_cancel] at j2
    rw [Nat.pow_succ]; omega
theorem ov {x:Nat} (h:x<2^64):x<2^fp x:=(gb 64 x h).1
theorem ow {x:Nat} (h:x<2^64) (h0:x≠0):0<fp x∧2^(fp x - 1)≤x:=(gb 64 x h).2.2.1 h0
theorem tZ {x n:Nat} (h:x<2^64) (h1:x<2^n) (h2:n=0∨2^(n - 1)≤x):fp x=n:=by
 obtain ⟨i1,i2,i3,_⟩:=gb 64 x h
 show f9 64 x=n
 by_cases h0:x=0
 ·rw [i2 h0]
  rcases h2 with h2 | h2
  ·exact h2.symm
  ·subst h0;have:=Nat.two_pow_pos (n - 1);omega
 ·obtain ⟨j1,j2⟩:=i3 h0
  rcases Nat.lt_trichotomy (f9 64 x) n with h3 | h3 | h3
  ·have:=Nat.pow_le_pow_right (n:=2) U (show f9 64 x≤n - 1 by omega)
   rcases h2 with h2 | h2
   ·omega
   ·omega
  ·exact h3
  ·have:=Nat.pow_le_pow_right (n:=2) U (show n≤f9 64 x - 1 by omega)
   omega
theorem i5 {x n:Nat} (h:x<2^n) (hn:n≤64):fp x≤n:=by
 have hx:x<2^64:=Nat.lt_of_lt_of_le h (Nat.pow_le_pow_right U hn)
 by_cases h0:x=0
 ·have:=(gb 64 x hx).2.1 h0
  unfold fp;omega
 ·obtain ⟨j1,j2⟩:=ow hx h0
  rcases Nat.lt_or_ge n (fp x) with h3 | h3
  ·have:=Nat.pow_le_pow_right (n:=2) U (show n≤fp x - 1 by omega)
   omega
  ·exact h3
theorem mn {x k:Nat} (h:x<2^64) (hk:2^k≤x):fp x=k+fp (x / 2^k):=by
 have hp:=Nat.two_pow_pos k
 have hy:x / 2^k<2^64:=Nat.lt_of_le_of_lt (Nat.div_le_self _ _) h
 have hy0:x / 2^k≠0:=by
  have:=(Nat.le_div_iff_mul_le hp (x:=1) (y:=x)).2 X;omega
 obtain ⟨j1,j2⟩:=ow hy hy0
 have j3:=ov hy
 refine tZ h ?_ (.inr ?_)
 ·rw [Nat.pow_add]
  have:=Nat.lt_mul_div_succ x hp
  exact Nat.lt_of_lt_of_le this (Nat.mul_le_mul_left _ j3)
 ·have e:k+fp (x / 2^k) - 1=(fp (x / 2^k) - 1)+k:=by omega
  rw [e,Nat.pow_add]
  exact Nat.le_trans (Nat.mul_le_mul_right _ j2) (Nat.div_mul_le_self x (2^k))
theorem mo {s:ByteArray} (h:((List.range 256).all fun i=>(s[i]?).map UInt8.toNat == some (fp i))=true) {i:Nat} (hi:i<256):(s[i]?).map UInt8.toNat=some (fp i):=by
 have:=List.all_eq_true.1 h i (List.mem_range.2 hi)
 simpa using this
attribute [local irreducible] J PJ aB one slT bJ bB bv exT cd eP aQ aI slV VT.le Ret bN
theorem pV (x:Nat) (hx:x<4294967296):Ok Tryz.prog 154 [one (.int .u32 x)] (one (.int .i64 (fp x))):=by
 refine Ok.enter Tryz.func154 Z Tryz.ntmps154 Z (fun w O => ?_)
 have key : ∀ y:Nat,y<256→fp y≤8:=fun y hy=>i5 (n:=8) X U
 by_cases h1:65536≤x
 ·have e1:=mn (k:=16) (x:=x) X X
  by_cases h2:256≤x / 2^16
  ·have e2:=mn (k:=8) (x:=x / 2^16) X X
   have k2:=key (x / 2^16 / 2^8) X
   refine ae (ai (AR Z (AT (aa (ae (ae (ai (AQ Z (AP (sT X (eU Z Z)) ?_)))))))))
   refine AT (aa (aP Z (ae (ai (AQ Z (AP (jv (s:=16) Z Z U) (AR Z (AT (aa ?_)))))))))
   refine ai (AR Z (AT (aa (ae (ae (ai (AQ Z (AP (sT X (eU Z Z)) (AT ?_)))))))))
   refine aa (aP Z (ae (ai (AQ Z (AP (jv (s:=8) Z Z U) (AR Z (AT (aa (ai ?_)))))))))
   refine AQ Z (AP (cB Z Z (aT X X)) (AR Z (AT (aa (ae (ai (AQ Z (AQ Z (AP (jV Z X X) ?_)))))))))
   refine AP (fX Y Z Z (mo V X)) (AP (d9 Z X X) (AP (cB Z Z (aT X X)) (AR Z (AT (aa (aH ?_))))))
   refine aX Tryz.results154 (.tmp Z (av (by congr 1;omega)))
  ·have k2:=key (x / 2^16) X
   refine ae (ai (AR Z (AT (aa (ae (ae (ai (AQ Z (AP (sT X (eU Z Z)) ?_)))))))))
   refine AT (aa (aP Z (ae (ai (AQ Z (AP (jv (s:=16) Z Z U) (AR Z (AT (aa ?_)))))))))
   refine ai (AR Z (AT (aa (ae (ae (ai (AQ Z (AP (sF X (eU Z Z)) (AT ?_)))))))))
   refine aa (aE Z (az (aa (ae (ai (AQ Z (AQ Z (AP (jV Z X X) (AP (fX Y Z Z (mo V X)) ?_)))))))))
   refine AP (d9 Z X X) (AP (cB Z Z (aT X X)) (AR Z (AT (aa (aH ?_)))))
   refine aX Tryz.results154 (.tmp Z (av (by congr 1;omega)))
 ·by_cases h2:256≤x
  ·have e2:=mn (k:=8) (x:=x) X X
   have k2:=key (x / 2^8) X
   refine ae (ai (AR Z (AT (aa (ae (ae (ai (AQ Z (AP (sF X (eU Z Z)) ?_)))))))))
   refine AT (aa (aE Z (az (aa (ae (ae (ai (AQ Z (AP (sT X (eU Z Z)) ?_)))))))))
   refine AT (aa (aP Z (ae (ai (AQ Z (AP (jv (s:=8) Z Z U) (AR Z (AT (aa ?_)))))))))
   refine ai (AQ Z (AP (cB Z Z (aT X X)) (AR Z (AT (aa (ae (ai (AQ Z (AQ Z ?_)))))))))
   refine AP (jV Z X X) (AP (fX Y Z Z (mo V X)) (AP (d9 Z X X) (AP (cB Z Z (aT X X)) (AR Z (AT (aa (aH ?_)))))))
   refine aX Tryz.results154 (.tmp Z (av (by congr 1;omega)))
  ·have k2:=key x X
   refine ae (ai (AR Z (AT (aa (ae (ae (ai (AQ Z (AP (sF X (eU Z Z)) ?_)))))))))
   refine AT (aa (aE Z (az (aa (ae (ae (ai (AQ Z (AP (sF X (eU Z Z)) ?_)))))))))
   refine AT (aa (aE Z (az (aa (ae (ai (AQ Z (AQ Z (AP (jV Z X X) ?_)))))))))
   refine AP (fX Y Z Z (mo V X)) (AP (d9 Z X X) (AP (cB Z Z (aT X X)) (AR Z (AT (aa (aH ?_))))))
   refine aX Tryz.results154 (.tmp Z (av (by congr 1;omega)))
theorem xJ (x:Nat) (hx:x<4294967296):Ok Tryz.prog 170 [one (.int .u32 x)] (one (.int .i64 ((32 - fp x:Nat):Int))):=by
 have h:=i5 (n:=32) (x:=x) X U
 refine Ok.enter Tryz.func170 Z Tryz.ntmps170 Z (fun w O => ?_)
 refine ae (ai (AR Z (AT (aa (ae (ai (AQ Z ?_)))))))
 refine AP (ao (pV _ (by assumption)) Z ⟨A,AU⟩) ?_
 refine AP (eu Z Z (aT X X)) (AR Z (AT (aa (aH ?_))))
 refine aX Tryz.results170 (.tmp Z (av (by congr 1;omega)))
theorem pW (i:Nat):4294967296^i=2^(32*i):=by rw [Nat.pow_mul]
theorem jE {l:List Nat} (h:bp l) (i:Nat):lv (l.take i)<2^(32*i):=by
 have h1:=gK (h.take i)
 rw [← pW]
 exact Nat.lt_of_lt_of_le h1 (Nat.pow_le_pow_right U (by simp;omega))
theorem rn {d e i:Nat} (hd:d<4294967296) (hb:e<2^(32*i)) (hi:i≤1):d*2^(32*i)+e<18446744073709551616:=by
 rcases (show i=0∨i=1 by omega) with rfl | rfl
 ·rw [show 2^(32*0)=1 by simp] at hb ⊢; omega
 ·rw [show 2^(32*1)=4294967296 by simp] at hb ⊢
  have h1:d*4294967296+e<(d+1)*4294967296:=by rw [Nat.add_mul]; exact Nat.add_lt_add_left (by rw [Nat.one_mul]; exact hb) _
  exact Nat.lt_of_lt_of_le h1 (Nat.le_trans (Nat.mul_le_mul_right _ hd) (Nat.le_of_eq Z))
theorem sI (l:List Nat) (hl:bp l) (h2:l.length≤2):Ok Tryz.prog 168 [cw l] (one (.int .u64 (lv l))):=by
 refine Ok.enter Tryz.func168 Z Tryz.ntmps168 Z (fun w O => ?_)
 refine ae (ai (AR Z (AT (aa (ae (ai (AR Z (AT (aa ?_)))))))))
 refine ae (ae (ai (AQ Z (AP (bh Z) (AQ Z (AT (aa (aw (cD (Γ' := [(2,_),(3,_),(6,_),(7,_),(8,_)]) AK (SubM.refl _) ?_)))))))))
 refine bS (σ:=Nat) (Γk := [(2,_),(6,_),(7,_)]) AK (fun i => [(8,one (.int .i64 (i:Nat))),(3,one (.int .u64 (lv (l.take i))))]) (fun i M0=>M0) (fun i=>i≤l.length) (fun i=>l.length - i) (0) (Nat.zero_le _) AL (.nil) (fun i hi => ?_)
 refine co (Γ' := [(8,_),(3,_),(2,_),(6,_),(7,_)]) (M' := []) Z Z (ae (ai (AP (bH Z Z) (AT (aa (ae ?_))))))
 refine kE Z (fun hc => ?_) (fun hc => ?_)
 ·have hi1:i≤1:=by omega
  have hd:=a9 hl i
  have hb:=jE hl i
  have hab:=rn hd hb hi1
  have ha:l.getD i 0*2^(32*i)<18446744073709551616:=Nat.lt_of_le_of_lt (Nat.le_add_right _ _) hab
  have hn:lv (l.take i)+l.getD i 0*2^(32*i)=lv (l.take (i+1)):=by
   rw [bA X,pW,Nat.mul_comm]
  refine az (aa (ae (aw (ae (ai (AQ Z (AP (aR Z Z X) (AP (bj Z) (AR Z ?_)))))))))
  refine AR Z (AT (aa (ai (AQ Z (AQ Z (AP (bX Z X) (AQ Z (AP (vj 32 _ Z Z X) (AP (ju Z Z X X) ?_)))))))))
  refine AP (yX Z Z X X) (AR Z (AT (aK (aa (ai (AP (bV _ 1 Z Z X) (AQ Z (AT ?_))))))))
  rw [hn]
  refine aZ (i+1) X X AL (.nil)
 ·have e:i=l.length:=by omega
  subst e
  rw [List.take_length]
  refine a8 (ay (ay (aM (aa (ae (ai (AQ Z (AR Z (AT ?_)))))))))
  refine aa (aH ?_)
  refine aX Tryz.results168 (.tmp Z A)
end Tor
end
section
namespace Tor
open Go Go.RowKit Go.Proofs
variable [Tor.Co.Kc]
structure ShortR (l:List Nat) (d:Nat) (s:List Nat × Nat × Nat):Prop where
 le:s.2.1≤l.length
 len:s.1.length=l.length
 lim:bp s.1
 r:s.2.2<d
 zero : ∀ k,k<s.2.1→s.1.getD k 0=0
 val:lv l=lv (l.take s.2.1)+(lv s.1*d+4294967296^s.2.1*s.2.2)
theorem ShortR.start {l:List Nat} {d:Nat} (hd:0<d):ShortR l d (List.replicate l.length 0,l.length,0) :=
 ⟨Nat.le_refl _,by simp,bp.replicate _,hd,fun k _=>cj _ _,by simp [dE]⟩
theorem ShortR.bound {x r d:Nat} (hx:x<4294967296) (hr:r<d) (hd:d<4294967296):r*4294967296+x<18446744073709551616∧(r*4294967296+x) / d<4294967296:=by
 have h1:r*4294967296+x<d*4294967296:=by omega
 exact ⟨by omega,Nat.div_lt_of_lt_mul h1⟩
theorem ShortR.step {l:List Nat} {d:Nat} {z:List Nat} {n r:Nat} (h:ShortR l d (z,n+1,r)) (hl:bp l) (hd:d<4294967296) :
  ShortR l d (z.set n ((r*4294967296+l.getD n 0) / d),n,(r*4294967296+l.getD n 0) % d):=by
 have hn:n<l.length:=h.le
 have hz:n<z.length:=by have:=h.len;simp only at this;omega
 have hx:=a9 hl n
 have hr:r<d:=h.r
 have hb:=ShortR.bound hx hr hd
 have h0:z.getD n 0=0:=h.zero n (Nat.lt_succ_self n)
 have hs:=fa (l:=z) (v:=(r*4294967296+l.getD n 0) / d) hz
 rw [h0,Nat.mul_zero,Nat.add_zero] at hs
 refine ⟨Nat.le_of_lt hn,by rw [List.length_set]; exact h.len,bp.set h.lim hb.2,Nat.mod_lt _ X,fun k hk => ?_,?_⟩
 ·simp only at hk ⊢
  rw [dj hz,if_neg X]; exact h.zero k (Nat.lt_succ_of_lt hk)
 ·have hv:lv l=lv (l.take (n+1))+(lv z*d+4294967296^(n+1)*r):=h.val
  simp only
  rw [hs,hv,bA hn]
  have e:=Nat.div_add_mod (r*4294967296+l.getD n 0) d
  generalize (r*4294967296+l.getD n 0) / d=q at *
  generalize (r*4294967296+l.getD n 0) % d=m at *
  generalize l.getD n 0=x at *
  rw [Nat.pow_succ]
  generalize 4294967296^n=B at *
  have e2:B*(d*q+m)=B*(r*4294967296+x):=by rw [e]
  have e3:(lv z+B*q)*d=lv z*d+B*(d*q):=by rw [Nat.add_mul,Nat.mul_assoc,Nat.mul_comm q d]
  have e4:B*4294967296*r=B*(r*4294967296):=by rw [Nat.mul_assoc,Nat.mul_comm r]
  rw [e3,e4]
  rw [Nat.mul_add,Nat.mul_add] at e2
  omega
theorem ShortR.finish {l:List Nat} {d:Nat} {z:List Nat} {r:Nat} (h:ShortR l d (z,0,r)):lv z=lv l / d∧r=lv l % d:=by
 have hv:lv l=lv (l.take 0)+(lv z*d+4294967296^0*r):=h.val
 have hr:r<d:=h.r
 have e:lv l=lv z*d+r:=by simpa [lv] using hv
 rw [e]
 constructor
 ·rw [Nat.mul_comm,Nat.mul_add_div X,Nat.div_eq_of_lt hr]; rfl
 ·rw [Nat.mul_comm,Nat.mul_add_mod,Nat.mod_eq_of_lt hr]
theorem sJ {b:Option Nat} {T:TypeId} {n cap:Nat} {z:List Nat} {k v v':Nat} (hk:k<z.length) (hv:v'=v):Own.le (aI b T .one n cap (upd (fun q=>one (.int .u32 (z.getD q 0:Nat))) k (one (.int .u32 (v':Nat))))) (aI b T .one n cap (fun q=>one (.int .u32 ((z.set k v).getD q 0:Nat)))):=by
 subst hv
 exact bZ (fun q _=>by unfold upd;rw [dj hk]; split <;> rfl)
attribute [local irreducible] J PJ aB one slT bJ bB bv exT cd eP aQ aI slV VT.le Ret bN
theorem vH (l:List Nat) (d:Nat) (hl:bp l) (h1:l.length≤1099511627776) (hd0:0<d) (hd:d<4294967296):Ok Tryz.prog 169 [cw l,one (.int .u32 (d:Nat))] (bv [j5 (lv l / d),one (.int .u32 ((lv l % d:Nat):Int))]):=by
 refine Ok.enter Tryz.func169 Z Tryz.ntmps169 Z (fun w O => ?_)
 refine ae (ai (AR Z (AR Z (AT (aa (ae (ai (AQ Z (AP (bh Z) ?_)))))))))
 refine cx l.length l.length Z Z Z Z (Nat.le_refl _) Z Z X Z Z (fun bz => ?_)
 refine AR Z (AT (aa (ae (ai (AR Z (AT (aa (ae (ae ?_)))))))))
 refine ai (AQ Z (AP (bh Z) (AP (eu Z Z (aT X X)) (AR Z (AT (aa (aw (cD (Γ' := [(0,_),(1,_),(4,_),(5,_),(6,_),(7,_),(8,_)]) AK (SubM.refl _) ?_))))))))
 refine bS (σ:=List Nat × Nat × Nat) (Γk := [(0,_),(1,_),(4,_),(5,_),(6,_)]) AK (fun s => [(8,one (.int .i64 ((s.2.1:Nat) - 1:Int))),(7,one (.int .u64 (s.2.2:Nat)))]) (fun s M0=>(M0.set 0 (aI (some bz) 83 .one l.length l.length (fun q=>one (.int .u32 (s.1.getD q 0:Nat)))))) (fun s=>ShortR l d s) (fun s=>s.2.1) ((List.replicate l.length 0,l.length,0)) (ShortR.start hd0) AL (.keep (bZ (fun q _=>by rw [cj]; rfl)) (.nil)) (fun s hs => ?_)
 refine co (Γ' := [(8,_),(7,_),(0,_),(1,_),(4,_),(5,_),(6,_)]) (M' := [_]) Z Z ?_
 obtain ⟨z,n,r⟩:=s
 dsimp only at hs ⊢
 refine ae (ae (ai (AQ Z (AP (eU Z Z) (AT (aa ?_))))))
 cases n with
 | zero =>
  obtain ⟨f1,f2⟩:=hs.finish
  have hlen:z.length=l.length:=hs.len
  have hr:r<d:=hs.r
  rw [← f1, ← f2]
  refine lz Z X (a8 (ay (ay (aM (aa (ae (ai (AQ Z (AQ Z ?_)))))))))
  refine AP (cH Z) (AR Z (AR Z (AT (aa (aH (dX (t:=4) (i:=0) Z Z ?_))))))
  refine c5 Tryz.results169 (.tmp Z (VT.le_trans (cN (m:=z.length) (ψ:=fun i=>one (.int .u32 (z.getD i 0:Nat))) hlen.symm (fun q hq=>rfl)) (eL (l:=z) hs.lim Z))) (.tmp Z (av (by congr 1;omega)))
 | succ n =>
  have hx:=a9 hl n
  have hr:r<d:=hs.r
  have hb:=ShortR.bound hx hr hd
  have hst:=hs.step hl hd
  have hn:n<l.length:=hs.le
  have hzn:n<z.length:=by have:=hs.len;dsimp only at this;omega
  have en:((n+1:Nat):Int) - 1=(n:Nat):=by omega
  rw [en]
  refine lr Z X (az (aa (ae (aw (ae (ai (AQ Z (AP (ju (s:=32) Z Z X X) (AQ Z ?_)))))))))
  refine AQ Z (AP (aR Z Z X) (AP (bj Z) (AP (bX Z X) (AP (jt Z Z X X) (AR Z (AT (aa (ae (ai ?_)))))))))
  refine AQ Z (AQ Z (AQ Z (AQ Z (AP (bX Z X) (AP (lU Z Z X X) (AP (cH Z) (AP (ar Z Z X) ?_)))))))
  (refine ax 0 Z Z Z ?_ Z ?_;omega)
  refine AT (aa (ai (AQ Z (AQ Z (AP (bX Z X) (AP (cK _ Z Z Z X) (AR Z (AT (aK ?_)))))))))
  refine aa (ai (AQ Z (AP (eu Z Z (aT X X)) (AR Z (AT ?_)))))
  refine aZ ((z.set n ((r*4294967296+l.getD n 0) / d),n,(r*4294967296+l.getD n 0) % d)) (hst) (by (simp only []; omega)) AL (.keep (sJ hzn (Nat.mod_eq_of_lt hb.2)) (.nil))
end Tor
end
section
namespace Tor
open Go Go.RowKit Go.Proofs
variable [Tor.Co.Kc]
structure ShiftR (l:List Nat) (s:Nat) (p:List Nat × Nat × Nat):Prop where
 le:p.2.1≤l.length
 len:p.1.length=l.length+1
 lim:bp p.1
 c:p.2.2<2^s
 zero : ∀ k,p.2.1≤k→p.1.getD k 0=0
 val:lv p.1+4294967296^p.2.1*p.2.2=lv (l.take p.2.1)*2^s
theorem ShiftR.start (l:List Nat) (s:Nat):ShiftR l s (List.replicate (l.length+1) 0,0,0) :=
 ⟨Nat.zero_le _,by simp,bp.replicate _,Nat.two_pow_pos s,fun k _=>cj _ _,by simp [dE,lv]⟩
theorem ShiftR.bound {d c s:Nat} (hd:d<4294967296) (hc:c<2^s) (hs:s<32):d*2^s+c<4294967296*2^s∧d*2^s+c<18446744073709551616∧d*2^s<18446744073709551616∧2^s<4294967296:=by
 have h1:(d+1)*2^s≤4294967296*2^s:=Nat.mul_le_mul_right _ hd
 have h2:2^s≤2^31:=Nat.pow_le_pow_right U X
 rw [Nat.add_mul,Nat.one_mul] at h1
 have h3:(2:Nat)^31=2147483648:=rfl
 generalize d*2^s=x at *
 generalize 2^s=y at *
 omega
theorem ShiftR.step {l:List Nat} {s:Nat} {z:List Nat} {i c:Nat} (h:ShiftR l s (z,i,c)) (hl:bp l) (hs:s<32) (hi:i<l.length) :
  ShiftR l s (z.set i ((c+l.getD i 0*2^s) % 4294967296),i+1,(c+l.getD i 0*2^s) / 4294967296):=by
 have hlen:z.length=l.length+1:=h.len
 have hz:i<z.length:=by omega
 have hc:c<2^s:=h.c
 have hb:=ShiftR.bound (a9 hl i) hc hs
 have h0:z.getD i 0=0:=h.zero i (Nat.le_refl _)
 have hv:lv z+4294967296^i*c=lv (l.take i)*2^s:=h.val
 have hse:=fa (l:=z) (v:=(c+l.getD i 0*2^s) % 4294967296) hz
 rw [h0,Nat.mul_zero,Nat.add_zero] at hse
 refine ⟨hi,by rw [List.length_set]; exact hlen,bp.set h.lim (Nat.mod_lt _ U),?_,fun k hk => ?_,?_⟩
 ·show (c+l.getD i 0*2^s) / 4294967296<2^s
  exact Nat.div_lt_of_lt_mul X
 ·simp only at hk ⊢
  rw [dj hz,if_neg X]; exact h.zero k (by show i≤k;omega)
 ·show lv (z.set i _)+4294967296^(i+1)*_=lv (l.take (i+1))*2^s
  dsimp only
  rw [hse,bA hi,Nat.pow_succ,Nat.add_mul, ← hv]
  generalize l.getD i 0=x at *
  generalize 2^s=p at *
  have e:=Nat.div_add_mod (c+x*p) 4294967296
  generalize (c+x*p) / 4294967296=q at *
  generalize (c+x*p) % 4294967296=m at *
  generalize 4294967296^i=B at *
  have e2:B*(4294967296*q+m)=B*(c+x*p):=by rw [e]
  rw [Nat.mul_add,Nat.mul_add, ← Nat.mul_assoc, ← Nat.mul_assoc] at e2
  omega
theorem ShiftR.finish {l:List Nat} {s:Nat} {z:List Nat} {c:Nat} (h:ShiftR l s (z,l.length,c)) (hs:s<32) :
  (z.set l.length c).length=l.length+1∧bp (z.set l.length c)∧lv (z.set l.length c)=lv l*2^s∧c<4294967296∧l.length<z.length:=by
 have hlen:z.length=l.length+1:=h.len
 have hc:c<2^s:=h.c
 have hb:=ShiftR.bound (d:=0) U hc hs
 have h0:z.getD l.length 0=0:=h.zero _ (Nat.le_refl _)
 have hv:lv z+4294967296^l.length*c=lv (l.take l.length)*2^s:=h.val
 have hse:=fa (l:=z) (k:=l.length) (v:=c) X
 rw [h0,Nat.mul_zero,Nat.add_zero] at hse
 rw [List.take_length] at hv
 exact ⟨by rw [List.length_set]; exact hlen,bp.set h.lim X,by rw [hse,hv],by omega,by omega⟩
abbrev fO (z:List Nat):Nat→VT:=fun q=>one (.int .u32 (z.getD q 0:Nat))
theorem fv {b:Option Nat} {T:TypeId} {n cap:Nat} {z:List Nat} {k v v':Nat} (hk:k<z.length) (hv:v'=v):Own.le (aI b T .one n cap (upd (fO z) k (one (.int .u32 (v':Nat))))) (aI b T .one n cap (fO (z.set k v))):=sJ hk hv
abbrev ox (l:List Nat) (s:Nat):Type := {p:Nat × List Nat // p.2.length=l.length+1∧bp p.2∧lv p.2=lv l*2^s}
attribute [local irreducible] J PJ aB one slT bJ bB bv exT cd eP aQ aI slV VT.le Ret bN
theorem pX (l:List Nat) (s:Nat) (hl:bp l) (h1:l.length≤1099511627776) (hs:s<32):OkM Tryz.prog 171 [cw l,one (.int .i64 (s:Nat))] (fun p:ox l s=>one (slV (some p.1.1) (l.length+1) (l.length+1))) (fun p => [aI (some p.1.1) 83 .one (l.length+1) (l.length+1) (fO p.1.2)]):=by
 refine OkM.enter Tryz.func171 Z Tryz.ntmps171 Z (fun w O => ?_)
 refine ae (ai (AR Z (AT (aa (ae (ai (AQ Z (AP (bh Z) (AP (bV _ 1 Z Z X) ?_)))))))))
 refine cx (l.length+1) (l.length+1) Z Z (by simp) (by simp) (Nat.le_refl _) Z Z X Z Z (fun bz => ?_)
 refine AR Z (AT (aa (ae (ai (AR Z (AT (aa (ae (ae ?_)))))))))
 refine ai (AQ Z (AP (bh Z) (AQ Z (AT (aa (aw (cD (Γ' := [(0,_),(1,_),(4,_),(5,_),(6,_),(13,_),(14,_),(15,_)]) AK (SubM.refl _) ?_)))))))
 refine bS (σ:=List Nat × Nat × Nat) (Γk := [(0,_),(1,_),(4,_),(5,_),(13,_),(14,_)]) AK (fun p => [(15,one (.int .i64 (p.2.1:Nat))),(6,one (.int .u64 (p.2.2:Nat)))]) (fun p M0=>(M0.set 0 (aI (some bz) 83 .one (l.length+1) (l.length+1) (fO p.1)))) (fun p=>ShiftR l s p) (fun p=>l.length - p.2.1) ((List.replicate (l.length+1) 0,0,0)) (ShiftR.start l s) AL (.keep (bZ (fun q _=>by unfold fO;rw [cj]; rfl)) (.nil)) (fun p hp => ?_)
 refine co (Γ' := [(15,_),(6,_),(0,_),(1,_),(4,_),(5,_),(13,_),(14,_)]) (M' := [_]) Z Z ?_
 obtain ⟨z,i,c⟩:=p
 dsimp only at hp ⊢
 refine ae (ai (AP (bH Z Z) (AT (aa (ae ?_)))))
 refine kE Z (fun hcc => ?_) (fun hcc => ?_)
 ·have hc:c<2^s:=hp.c
  have hi:i<l.length:=by omega
  have hb:=ShiftR.bound (a9 hl i) hc hs
  have hst:=hp.step hl hs hi
  have hx:=a9 hl i
  have hzn:i<z.length:=by have:=hp.len;dsimp only at this;omega
  refine az (aa (ae (aw (ae (ai (AQ Z (AP (aR Z Z X) (AP (bj Z) (AR Z ?_)))))))))
  refine AR Z (AT (aa (ae (ai (AQ Z (AQ Z (AP (bX Z X) (AQ Z (AP (ju Z Z X X) ?_)))))))))
  refine AP (yX Z Z X X) (AR Z (AT (aa (ae (ai (AQ Z (AQ Z (AQ Z (AP (cH Z) ?_)))))))))
  refine AP (ar Z Z X) ?_
  (refine ax 0 Z Z Z ?_ Z ?_;omega)
  refine AT (aa (ai (AQ Z (AP (fd Z) (AR Z (AT (aK (aa (ai ?_)))))))))
  refine AP (bV _ 1 Z Z X) (AQ Z (AT ?_))
  refine aZ ((z.set i ((c+l.getD i 0*2^s) % 4294967296),i+1,(c+l.getD i 0*2^s) / 4294967296)) (hst) (by (simp only []; omega)) AL (.keep (fv hzn Z) (.nil))
 ·have e:i=l.length:=by have:=hp.le;dsimp only at this;omega
  subst e
  obtain ⟨f1,f2,f3,f4,f5⟩:=hp.finish hs
  have hc:c<2^s:=hp.c
  refine a8 (ay (ay (aM (aa (ae (ai (AQ Z (AQ Z (AP (bh Z) ?_)))))))))
  refine AQ Z (AP (cH Z) (AP (ar Z Z X) ?_))
  (refine ax 0 Z Z Z ?_ Z ?_;omega)
  refine AT (aa (ae (ai (AQ Z (AR Z (AT (aa (aH ?_))))))))
  refine lV (⟨(bz,z.set l.length c),f1,f2,f3⟩:ox l s) Tryz.results171 (.tmp Z A) (.keep (fv f5 (Nat.mod_eq_of_lt f4)) .nil)
end Tor
end
section
namespace Tor
variable [Tor.Co.Kc]
def win (W:List Nat) (j m:Nat):List Nat:=(W.drop j).take m
theorem sK {W:List Nat} {j m:Nat} (h:j+m≤W.length):(win W j m).length=m:=by unfold win;simp;omega
theorem gc {W:List Nat} {j m i:Nat} (h:i<m):(win W j m).getD i 0=W.getD (j+i) 0:=by
 unfold win;simp [List.getD,List.getElem?_take,h]
theorem kb {W:List Nat} {j m i x:Nat} (h:i<m):win (W.set (j+i) x) j m=(win W j m).set i x:=by
 unfold win;rw [List.drop_set,if_neg X,Nat.add_sub_cancel_left,List.take_set]
theorem bp.win {W:List Nat} (h:bp W) (j m:Nat):bp (win W j m):=fun d hd=>h d (List.mem_of_mem_drop (List.mem_of_mem_take hd))
theorem xK {l:List Nat} {k:Nat} (h:l.length=k+2):lv l=lv (l.take k)+4294967296^k*(l.getD k 0+4294967296*l.getD (k+1) 0):=by
 have e:l=l.take (k+2):=by rw [List.take_of_length_le X]
 conv=>lhs;rw [e]
 rw [bA X,bA X,Nat.pow_succ,Nat.mul_add,Nat.mul_assoc]; omega
theorem xL {l:List Nat} {k:Nat} (h:l.length=k+3):lv l=lv (l.take k)+4294967296^k*(l.getD k 0+4294967296*(l.getD (k+1) 0+4294967296*l.getD (k+2) 0)):=by
 have e:l=l.take (k+3):=by rw [List.take_of_length_le X]
 conv=>lhs;rw [e]
 rw [bA X,bA X,bA X]
 simp only [Nat.pow_succ,Nat.mul_add,Nat.mul_assoc]; omega
structure Gss (AH AI B P h v2 top u2:Nat):Prop where
 P0:0<P
 iv1:(h*B+v2)*P≤AI
 iv2:AI<(h*B+v2+1)*P
 iu1:(top*B+u2)*P≤AH
 iu2:AH<(top*B+u2+1)*P
 l2:v2<B
 m2:u2<B
 h0:0<h
 lt:AH<AI*B
theorem Gss.V0 {AH AI B P h v2 top u2:Nat} (g:Gss AH AI B P h v2 top u2):0<AI:=by
 rcases Nat.eq_zero_or_pos AI with h | h
 ·have:=g.lt;rw [h] at this;simp at this
 ·exact h
theorem Gss.top {AH AI B P h v2 top u2:Nat} (g:Gss AH AI B P h v2 top u2):top<(h+1)*B:=by
 have h1:top*(B*P)<(h+1)*B*(B*P):=by
  calc top*(B*P)=top*B*P:=(Nat.mul_assoc _ _ _).symm
   _≤(top*B+u2)*P:=Nat.mul_le_mul_right _ (Nat.le_add_right _ _)
   _≤AH:=g.iu1
   _<AI*B:=g.lt
   _≤(h*B+v2+1)*P*B:=Nat.mul_le_mul_right _ (Nat.le_of_lt g.iv2)
   _≤((h+1)*B)*P*B:=Nat.mul_le_mul_right _ (Nat.mul_le_mul_right _ (by rw [Nat.add_mul,Nat.one_mul]; have:=g.l2;omega))
   _=(h+1)*B*(B*P):=by rw [Nat.mul_assoc,Nat.mul_comm P B]
 exact Nat.lt_of_mul_lt_mul_right h1
theorem Gss.q_lt {AH AI B P h v2 top u2:Nat} (g:Gss AH AI B P h v2 top u2):AH / AI<B:=Nat.div_lt_of_lt_mul g.lt
theorem Gss.start {AH AI B P h v2 top u2:Nat} (g:Gss AH AI B P h v2 top u2):AH / AI≤top / h:=by
 rw [Nat.le_div_iff_mul_le g.h0]
 have h1:(AH / AI*h)*(B*P)<(top+1)*(B*P):=by
  calc (AH / AI*h)*(B*P)=AH / AI*(h*B*P):=by rw [Nat.mul_assoc,Nat.mul_assoc]
   _≤AH / AI*((h*B+v2)*P):=Nat.mul_le_mul_left _ (Nat.mul_le_mul_right _ (Nat.le_add_right _ _))
   _≤AH / AI*AI:=Nat.mul_le_mul_left _ g.iv1
   _≤AH:=Nat.div_mul_le_self _ _
   _<(top*B+u2+1)*P:=g.iu2
   _≤((top+1)*B)*P:=Nat.mul_le_mul_right _ (by rw [Nat.add_mul,Nat.one_mul]; have:=g.m2;omega)
   _=(top+1)*(B*P):=Nat.mul_assoc _ _ _
 exact Nat.lt_succ_iff.1 (Nat.lt_of_mul_lt_mul_right h1)
theorem Gss.low {AH AI B P h v2 top u2:Nat} (g:Gss AH AI B P h v2 top u2) {q r:Nat} (e:q*h+r=top) (hc:r*B+u2<q*v2):AH / AI<q:=by
 have h1:(AH / AI*(h*B+v2))*P<(top*B+u2+1)*P:=by
  calc (AH / AI*(h*B+v2))*P=AH / AI*((h*B+v2)*P):=Nat.mul_assoc _ _ _
   _≤AH / AI*AI:=Nat.mul_le_mul_left _ g.iv1
   _≤AH:=Nat.div_mul_le_self _ _
   _<(top*B+u2+1)*P:=g.iu2
 have h2:=Nat.lt_of_mul_lt_mul_right h1
 have h3:top*B+u2<q*(h*B+v2):=by
  rw [← e,Nat.add_mul,Nat.mul_add,Nat.mul_assoc]; omega
 exact Nat.lt_of_mul_lt_mul_right (Nat.lt_of_lt_of_le h2 h3)
theorem Gss.done {AH AI B P h v2 top u2:Nat} (g:Gss AH AI B P h v2 top u2) {q r:Nat} (e:q*h+r=top) (hq:q<B) (hc:q*v2≤r*B+u2∨B≤r):q≤AH / AI+1:=by
 rcases Nat.eq_zero_or_pos q with h0 | h0
 ·rw [h0]; exact Nat.zero_le _
 obtain ⟨p,rfl⟩ : ∃ p,q=p+1:=⟨q - 1,by omega⟩
 have hh:(p+1)*v2≤r*B+u2:=by
  rcases hc with hc | hc
  ·exact hc
  ·have h1:(p+1)*v2≤B*B:=Nat.mul_le_mul (Nat.le_of_lt hq) (Nat.le_of_lt g.l2)
   have h2:B*B≤r*B:=Nat.mul_le_mul_right _ hc
   omega
 have h3:(p+1)*(h*B+v2)≤top*B+u2:=by
  rw [← e,Nat.add_mul _ r,Nat.mul_add,Nat.mul_assoc]; omega
 have h4:p*(h*B+v2+1)≤top*B+u2:=by
  refine Nat.le_trans ?_ h3
  rw [Nat.add_mul p 1,Nat.mul_add p (h*B+v2) 1,Nat.one_mul,Nat.mul_one]
  have:B≤h*B:=Nat.le_mul_of_pos_left _ g.h0
  omega
 have h5:p*AI≤AH:=by
  calc p*AI≤p*((h*B+v2+1)*P):=Nat.mul_le_mul_left _ (Nat.le_of_lt g.iv2)
   _=p*(h*B+v2+1)*P:=(Nat.mul_assoc _ _ _).symm
   _≤(top*B+u2)*P:=Nat.mul_le_mul_right _ h4
   _≤AH:=g.iu1
 have:=(Nat.le_div_iff_mul_le g.V0).2 h5
 omega
theorem zx {u v:List Nat} {k:Nat} (hu:bp u) (hv:bp v) (lu:u.length=k+3) (lw:v.length=k+2) (hh:0<v.getD (k+1) 0) (hlt:lv u<lv v*4294967296) :
  Gss (lv u) (lv v) 4294967296 (4294967296^k) (v.getD (k+1) 0) (v.getD k 0) (u.getD (k+2) 0*4294967296+u.getD (k+1) 0) (u.getD k 0):=by
 have e1:=xL lu
 have e2:=xK lw
 have h1:=gK (hu.take k)
 have h2:=gK (hv.take k)
 rw [List.length_take_of_le X] at h1 h2
 have g1:=a9 hu k
 have g2:=a9 hv k
 refine ⟨Nat.pow_pos U,?_,?_,?_,?_,g2,g1,hh,hlt⟩
 ·rw [e2,Nat.mul_comm _ (4294967296^k),show v.getD (k+1) 0*4294967296+v.getD k 0=v.getD k 0+4294967296*v.getD (k+1) 0 by omega]; omega
 ·rw [e2,Nat.mul_comm _ (4294967296^k),show v.getD (k+1) 0*4294967296+v.getD k 0+1=v.getD k 0+4294967296*v.getD (k+1) 0+1 by omega,Nat.mul_add (4294967296^k) _ 1]; omega
 ·rw [e1,Nat.mul_comm _ (4294967296^k),show (u.getD (k+2) 0*4294967296+u.getD (k+1) 0)*4294967296+u.getD k 0=u.getD k 0+4294967296*(u.getD (k+1) 0+4294967296*u.getD (k+2) 0) by omega]; omega
 ·rw [e1,Nat.mul_comm _ (4294967296^k),show (u.getD (k+2) 0*4294967296+u.getD (k+1) 0)*4294967296+u.getD k 0+1=u.getD k 0+4294967296*(u.getD (k+1) 0+4294967296*u.getD (k+2) 0)+1 by omega,Nat.mul_add (4294967296^k) _ 1]; omega
structure GuessR (h top Q:Nat) (p:Nat × Nat):Prop where
 e:p.1*h+p.2=top
 r:p.2<4294967296
 q:Q≤p.1
 m:p.1≤4294967297
structure SubR (u v:List Nat) (q:Nat) (z:List Nat) (i b c:Nat):Prop where
 le:i≤v.length
 len:z.length=u.length
 lim:bp z
 hb:b≤1
 hc:c<4294967296
 val:lv z+q*lv (v.take i)=lv u+4294967296^i*(b+c)
theorem oy {x y b d:Nat} (hx:x<4294967296) (hy:y<4294967296) (hb:b≤1) (hd:d=((x+18446744073709551616 - y) % 18446744073709551616+18446744073709551616 - b) % 18446744073709551616) :
  d % 4294967296+y+b=x+4294967296*(d / 9223372036854775808)∧d / 9223372036854775808≤1:=by
 rcases Nat.lt_or_ge x (y+b) with h | h
 ·have h1:d=x+18446744073709551616 - (y+b):=by omega
  omega
 ·have h1:d=x - (y+b):=by omega
  omega
theorem SubR.start {u v:List Nat} {q:Nat} (hu:bp u):SubR u v q u 0 0 0:=⟨Nat.zero_le _,rfl,hu,by decide,by decide,by simp [lv]⟩
theorem oz {q y c:Nat} (hq:q<4294967296) (hy:y<4294967296) (hc:c<4294967296):q*y<18446744073709551616∧c+q*y<18446744073709551616∧(c+q*y) / 4294967296<4294967296:=by
 have h1:q*y≤4294967295*4294967295:=Nat.mul_le_mul X X
 omega
theorem SubR.step {u v z:List Nat} {q i b c d:Nat} (h:SubR u v q z i b c) (hv:bp v) (hq:q<4294967296) (hi:i<v.length) (hl:v.length≤u.length)
  (hd:d=((z.getD i 0+18446744073709551616 - (c+q*v.getD i 0) % 4294967296) % 18446744073709551616+18446744073709551616 - b) % 18446744073709551616) :
  SubR u v q (z.set i (d % 4294967296)) (i+1) (d / 9223372036854775808) ((c+q*v.getD i 0) / 4294967296):=by
 have hlim:=oz hq (a9 hv i) h.hc
 obtain ⟨h1,h2⟩:=oy (a9 h.lim i) (Nat.mod_lt _ U) h.hb hd
 have hz:i<z.length:=by rw [h.len]; omega
 have hs:=fa (l:=z) (v:=d % 4294967296) hz
 have hvv:=h.val
 refine ⟨hi,by rw [List.length_set]; exact h.len,h.lim.set (Nat.mod_lt _ U),h2,hlim.2.2,?_⟩
 rw [bA hi,Nat.pow_succ,Nat.mul_add q]
 have e:=Nat.div_add_mod (c+q*v.getD i 0) 4294967296
 have e5:q*(4294967296^i*v.getD i 0)=4294967296^i*(q*v.getD i 0):=Nat.mul_left_comm _ _ _
 rw [e5]
 clear hd
 generalize z.getD i 0=x at *
 generalize q*v.getD i 0=y at *
 generalize 4294967296^i=B at *
 generalize (c+y) / 4294967296=t1 at *
 generalize (c+y) % 4294967296=t2 at *
 generalize d % 4294967296=r at *
 generalize d / 9223372036854775808=q' at *
 have e2:B*(r+t2+b)=B*(x+4294967296*q'):=by rw [h1]
 have e3:B*(4294967296*t1+t2)=B*(c+y):=by rw [e]
 simp only [Nat.mul_add,Nat.mul_assoc] at e2 e3 hvv ⊢
 omega
structure BackR (u v:List Nat) (z:List Nat) (i c:Nat):Prop where
 le:i≤v.length
 len:z.length=u.length
 lim:bp z
 hc:c≤1
 val:lv z+4294967296^i*c=lv u+lv (v.take i)
theorem BackR.start {u v:List Nat} (hu:bp u):BackR u v u 0 0:=⟨Nat.zero_le _,rfl,hu,by decide,by simp [lv]⟩
theorem BackR.step {u v z:List Nat} {i c:Nat} (h:BackR u v z i c) (hv:bp v) (hi:i<v.length) (hl:v.length≤u.length) :
  BackR u v (z.set i ((c+(z.getD i 0+v.getD i 0)) % 4294967296)) (i+1) ((c+(z.getD i 0+v.getD i 0)) / 4294967296):=by
 have hz:i<z.length:=by rw [h.len]; omega
 have hs:=fa (l:=z) (v:=(c+(z.getD i 0+v.getD i 0)) % 4294967296) hz
 have hvv:=h.val
 have g1:=a9 h.lim i
 have g2:=a9 hv i
 have hc:=h.hc
 refine ⟨hi,by rw [List.length_set]; exact h.len,h.lim.set (Nat.mod_lt _ U),by omega,?_⟩
 rw [bA hi,Nat.pow_succ]
 generalize z.getD i 0=x at *
 generalize v.getD i 0=y at *
 generalize 4294967296^i=B at *
 have e:4294967296*((c+(x+y)) / 4294967296)+(c+(x+y)) % 4294967296=c+(x+y):=by omega
 generalize (c+(x+y)) / 4294967296=t1 at *
 generalize (c+(x+y)) % 4294967296=t2 at *
 have e3:B*(4294967296*t1+t2)=B*(c+(x+y)):=by rw [e]
 simp only [Nat.mul_add,Nat.mul_assoc] at e3 hvv ⊢
 omega
theorem SubR.good {u v z:List Nat} {q b c d:Nat} (h:SubR u v q z v.length b c) (hl:u.length=v.length+1) (hV:0<lv v)
  (hQ:lv u / lv v≤q) (hd:d=((z.getD v.length 0+18446744073709551616 - c) % 18446744073709551616+18446744073709551616 - b) % 18446744073709551616) (h0:d / 9223372036854775808=0) :
  q=lv u / lv v∧bp (z.set v.length (d % 4294967296))∧lv (z.set v.length (d % 4294967296))=lv u % lv v:=by
 obtain ⟨h1,h2⟩:=oy (a9 h.lim v.length) h.hc h.hb hd
 have hz:v.length<z.length:=by rw [h.len]; omega
 have hs:=fa (l:=z) (v:=d % 4294967296) hz
 have hvv:=h.val
 rw [List.take_length] at hvv
 have e:lv (z.set v.length (d % 4294967296))+q*lv v=lv u:=by
  rw [h0] at h1
  generalize z.getD v.length 0=x at *
  clear hd
  generalize d % 4294967296=r at *
  generalize 4294967296^v.length=B at *
  have e2:B*(r+c+b)=B*(x+4294967296*0):=by rw [h1]
  simp only [Nat.mul_add] at e2 hvv
  omega
 have e4:lv (z.set v.length (d % 4294967296))=lv u - q*lv v:=by omega
 have hle:q≤lv u / lv v:=(Nat.le_div_iff_mul_le hV).2 X
 have eq:q=lv u / lv v:=by omega
 refine ⟨eq,h.lim.set (Nat.mod_lt _ U),?_⟩
 have:=Nat.div_add_mod (lv u) (lv v)
 rw [e4,eq,Nat.mul_comm]; omega
theorem SubR.bad {u v z:List Nat} {q b c d:Nat} (h:SubR u v q z v.length b c) (hl:u.length=v.length+1) (hV:0<lv v)
  (hQ:lv u / lv v≤q) (hq:q≤lv u / lv v+1) (hd:d=((z.getD v.length 0+18446744073709551616 - c) % 18446744073709551616+18446744073709551616 - b) % 18446744073709551616) (h0:d / 9223372036854775808≠0) :
  q=lv u / lv v+1∧bp (z.set v.length (d % 4294967296))∧lv (z.set v.length (d % 4294967296))+lv v=lv u % lv v+4294967296^(v.length+1):=by
 obtain ⟨h1,h2⟩:=oy (a9 h.lim v.length) h.hc h.hb hd
 have hz:v.length<z.length:=by rw [h.len]; omega
 have hs:=fa (l:=z) (v:=d % 4294967296) hz
 have hvv:=h.val
 rw [List.take_length] at hvv
 have hL:bp (z.set v.length (d % 4294967296)):=h.lim.set (Nat.mod_lt _ U)
 have hlt:=gK hL
 rw [List.length_set,h.len,hl] at hlt
 have h3:d / 9223372036854775808=1:=by omega
 have e:lv (z.set v.length (d % 4294967296))+q*lv v=lv u+4294967296^(v.length+1):=by
  rw [h3] at h1
  generalize z.getD v.length 0=x at *
  clear hd hL hlt h0 h2 h3
  generalize lv (z.set v.length (d % 4294967296))=y at *
  generalize d % 4294967296=r at *
  rw [Nat.pow_succ]
  generalize 4294967296^v.length=B at *
  have e2:B*(r+c+b)=B*(x+4294967296*1):=by rw [h1]
  simp only [Nat.mul_add] at e2 hvv
  omega
 have hm:=Nat.div_add_mod (lv u) (lv v)
 have hne:q≠lv u / lv v:=fun hx=>by
  rw [hx,Nat.mul_comm] at e;omega
 have eq:q=lv u / lv v+1:=by omega
 refine ⟨eq,hL,?_⟩
 rw [eq,Nat.add_mul,Nat.one_mul,Nat.mul_comm] at e
 omega
theorem BackR.good {u v z:List Nat} {c R x:Nat} (h:BackR u v z v.length c) (hl:u.length=v.length+1) (hV:R<lv v) (hv:bp v)
  (hu:lv u+lv v=R+4294967296^(v.length+1)) (hx:x=(z.getD v.length 0+c) % 4294967296):bp (z.set v.length x)∧lv (z.set v.length x)=R:=by
 have hz:v.length<z.length:=by rw [h.len]; omega
 have hs:=fa (l:=z) (v:=x) hz
 have hvv:=h.val
 rw [List.take_length] at hvv
 have hL:bp (z.set v.length x):=h.lim.set (by rw [hx]; exact Nat.mod_lt _ U)
 have hlt:=gK hL
 rw [List.length_set,h.len,hl] at hlt
 have hzl:=a9 h.lim v.length
 have hc:=h.hc
 have hvl:=gK hv
 refine ⟨hL,?_⟩
 rcases Nat.lt_or_ge (z.getD v.length 0+c) 4294967296 with h5 | h5
 ·have h6:x=z.getD v.length 0+c:=by omega
  have e:lv (z.set v.length x)=lv u+lv v:=by
   rw [h6] at hs
   rw [h6]
   rw [Nat.mul_add] at hs
   omega
  omega
 ·have h6:x+4294967296=z.getD v.length 0+c:=by omega
  have e:lv (z.set v.length x)+4294967296^(v.length+1)=lv u+lv v:=by
   generalize lv (z.set v.length x)=y at *
   clear hlt
   rw [hu,Nat.pow_succ]
   generalize z.getD v.length 0=t at *
   rw [hu,Nat.pow_succ] at hvv
   generalize 4294967296^v.length=B at *
   have e2:B*(x+4294967296)=B*(t+c):=by rw [h6]
   simp only [Nat.mul_add] at e2
   omega
  omega
end Tor
end
section
namespace Tor
open Go Go.RowKit Go.Proofs
variable [Tor.Co.Kc]
def gr (W0 W:List Nat) (j m:Nat):Prop:=W.length=W0.length∧W.take j=W0.take j∧W.drop (j+m)=W0.drop (j+m)
theorem gr.refl (W:List Nat) (j m:Nat):gr W W j m:=⟨rfl,rfl,rfl⟩
theorem gr.set {W0 W:List Nat} {j m i x:Nat} (h:gr W0 W j m) (hi:i<m):gr W0 (W.set (j+i) x) j m :=
 ⟨by rw [List.length_set]; exact h.1,by rw [List.take_set_of_le X]; exact h.2.1,by rw [List.drop_set_of_lt X]; exact h.2.2⟩
theorem An {q Q:Nat} (h:q=Q+1) (hq:q<4294967296):(q+18446744073709551616 - 1) % 18446744073709551616 % 4294967296=Q:=by omega
structure DgS (W0 v:List Nat) (j k q:Nat) (s:List Nat × Nat × Nat × Nat):Prop where
 out:gr W0 s.1 j (k+3)
 lim:bp s.1
 sub:SubR (win W0 j (k+3)) v q (win s.1 j (k+3)) s.2.1 s.2.2.1 s.2.2.2
structure DgB (W0 W1 v:List Nat) (j k:Nat) (s:List Nat × Nat × Nat):Prop where
 out:gr W0 s.1 j (k+3)
 lim:bp s.1
 back:BackR (win W1 j (k+3)) v (win s.1 j (k+3)) s.2.1 s.2.2
abbrev zy (W v:List Nat) (j k:Nat):Type := {W':List Nat // gr W W' j (k+3)∧bp W'∧lv (win W' j (k+3))=lv (win W j (k+3)) % lv v}
theorem GuessR.aux {top h:Nat} (ht:top<(h+1)*4294967296) (hh:2147483648≤h):top<h*4294967298:=by
 have e1:h*4294967298=h*4294967296+h*2:=by rw [← Nat.mul_add]
 have e2:(h+1)*4294967296=h*4294967296+4294967296:=by rw [Nat.add_mul]
 have e3:4294967296≤h*2:=Nat.mul_le_mul_right 2 hh
 rw [e1]; rw [e2] at ht
 exact Nat.lt_of_lt_of_le ht (Nat.add_le_add_left e3 _)
theorem GuessR.start {AH AI P h v2 top u2:Nat} (g:Gss AH AI 4294967296 P h v2 top u2) (hh:2147483648≤h) (hl:h<4294967296):GuessR h top (AH / AI) (top / h,top % h):=by
 have hm:=Nat.mod_lt top (show 0<h by omega)
 refine ⟨?_,?_,g.start,?_⟩
 ·show top / h*h+top % h=top
  rw [Nat.mul_comm]; exact Nat.div_add_mod top h
 ·show top % h<_;omega
 ·have ht:=g.top
  have h1:top<h*4294967298:=GuessR.aux ht hh
  exact Nat.lt_succ_iff.1 (Nat.div_lt_of_lt_mul h1)
theorem GuessR.next {h top Q q r:Nat} (s:GuessR h top Q (q,r)) (hQ:Q<q) (hr:r+h<4294967296):GuessR h top Q (q - 1,r+h):=by
 obtain ⟨p,rfl⟩ : ∃ p,q=p+1:=⟨q - 1,by omega⟩
 have e:(p+1)*h+r=top:=s.e
 have m:p+1≤4294967297:=s.m
 refine ⟨?_,hr,?_,?_⟩
 ·show (p+1 - 1)*h+(r+h)=top
  rw [Nat.add_mul,Nat.one_mul] at e
  rw [Nat.add_sub_cancel]; omega
 ·show Q≤p+1 - 1;omega
 ·show p+1 - 1≤_;omega
theorem GuessR.last {AH AI P h v2 top u2 q r:Nat} (g:Gss AH AI 4294967296 P h v2 top u2) (s:GuessR h top (AH / AI) (q,r)) (hQ:AH / AI<q) (hr:4294967296≤r+h):q - 1<4294967296∧AH / AI≤q - 1∧q - 1≤AH / AI+1:=by
 obtain ⟨p,rfl⟩ : ∃ p,q=p+1:=⟨q - 1,by have:=Nat.lt_of_le_of_lt (Nat.zero_le _) hQ;omega⟩
 have e:(p+1)*h+r=top:=s.e
 have ht:=g.top
 have e2:p*h+(r+h)=top:=by rw [Nat.add_mul,Nat.one_mul] at e;omega
 have h1:p<4294967296:=by
  rcases Nat.lt_or_ge p 4294967296 with h1 | h1
  ·exact h1
  ·have:=Nat.mul_le_mul_right h h1
   omega
 rw [Nat.add_sub_cancel]
 exact ⟨h1,Nat.lt_succ_iff.1 hQ,g.done e2 h1 (.inr hr)⟩
attribute [local irreducible] J PJ aB one slT bJ bB bv exT cd eP aQ aI slV VT.le Ret bN
set_option maxRecDepth 20000 in
theorem vI (b N j cap k:Nat) (W v:List Nat) (hW:bp W) (hv:bp v) (hN:W.length=N) (hj:j+(k+3)≤N) (hk:v.length=k+2) (hb31:v.length≤1099511627776) (hh:2147483648≤v.getD (k+1) 0) (hlt:lv (win W j (k+3))<lv v*4294967296) :
  OkI Tryz.prog 172 [one (vn b j 1 (k+3) cap),cw v] [aI (some b) 83 .one N N (fO W)] (fun _:zy W v j k=>one (.int .u32 ((lv (win W j (k+3)) / lv v:Nat):Int))) (fun s => [aI (some b) 83 .one N N (fO s.1)]):=by
 unfold cw
 rw [hk]
 refine OkI.enter Tryz.func172 Z Tryz.ntmps172 Z (fun w O => ?_)
 have lw:=sK (W:=W) (j:=j) (m:=k+3) X
 have g:=zx (hW.win j (k+3)) hv lw hk X hlt
 rw [gc X,gc X,gc X] at g
 have x0:=a9 hW (j+k)
 have x1:=a9 hW (j+(k+1))
 have x2:=a9 hW (j+(k+2))
 have y1:=a9 hv (k+1)
 have y0:=a9 hv k
 rw [hk] at hb31
 have y1':v.getD (k+2 - 1) 0<4294967296:=y1
 have y0':v.getD (k+2 - 2) 0<4294967296:=y0
 have yh':2147483648≤v.getD (k+2 - 1) 0:=hh
 have x1':W.getD (j+(k+2 - 1)) 0<4294967296:=x1
 have x0':W.getD (j+(k+2 - 2)) 0<4294967296:=x0
 refine ae (ai (AR Z (AT (aa (ae (ai (AQ Z (AP (bh Z) (AR Z ?_)))))))))
 refine AT (aa (ae (ai (AQ Z (AQ Z (AP (cf _ 1 Z Z X X) (AP (aR Z Z X) (AP (bj Z) (AP (bX Z X) ?_)))))))))
 refine AR Z (AT (aa (ae (bG 13 bL Y U (AQ Z (AQ Z (AP (da Z Z X) (AP (bQ 0 Z Z X) (AP (bX Z X) ?_)))))))))
 refine AP (ju (s:=32) Z Z X X) (AQ Z (AQ Z (AP (cf _ 1 Z Z X X) (AP (da Z Z X) (AP (bQ 0 Z Z X) (AP (bX Z X) (AP (jt Z Z X X) (AT (AR Z ?_)))))))))
 refine AT (aa (ae (bG 7 bL Y U (AQ Z (AQ Z (AP (lU Z Z X X) (AQ Z (AQ Z (AP (cK _ Z Z Z X) ?_)))))))))
 refine AR Z (AT (AR Z (AT (aa (ae (aw (cD (Γ' := [(0,_),(1,_),(4,_),(5,_),(6,_),(8,_),(9,_)]) AK (SubM.refl _) ?_)))))))
 refine xE (σ:=Nat) (Γk := [(0,_),(1,_),(4,_),(5,_)]) (dG.cons Z A (dG.cons Z A (dG.cons Z A (dG.cons Z A dG.nil)))) (fun q => [(8,one (.int .u64 (q:Nat)))]) (fun _ M0=>M0) (fun q=>q<4294967296∧lv (win W j (k+3)) / lv v≤q∧q≤lv (win W j (k+3)) / lv v+1) ?_ (fun q hq => ?_)
 ·refine cD (Γ' := [(0,_),(1,_),(4,_),(5,_),(6,_),(8,_),(9,_)]) AK (SubM.refl _) ?_
  refine bS (σ:=Nat × Nat) (Γk := [(0,_),(1,_),(4,_),(5,_),(6,_)]) AK (fun p => [(8,one (.int .u64 (p.1:Nat))),(9,one (.int .u64 (p.2:Nat)))]) (fun p M0=>M0) (fun p=>GuessR (v.getD (k+1) 0) (W.getD (j+(k+2)) 0*4294967296+W.getD (j+(k+1)) 0) (lv (win W j (k+3)) / lv v) p) (fun p=>p.1) (((W.getD (j+(k+2)) 0*4294967296+W.getD (j+(k+1)) 0) / v.getD (k+1) 0,(W.getD (j+(k+2)) 0*4294967296+W.getD (j+(k+1)) 0) % v.getD (k+1) 0)) (GuessR.start g hh y1) AL (.keep AO (.nil)) (fun p hp => ?_)
  refine co (Γ' := [(8,_),(9,_),(0,_),(1,_),(4,_),(5,_),(6,_)]) (M' := [_]) Z Z ?_
  obtain ⟨q,r⟩:=p
  dsimp only at hp ⊢
  have hr:r<4294967296:=hp.r
  have hqm:q≤4294967297:=hp.m
  by_cases hA:4294967295<q
  ·have hQ:lv (win W j (k+3)) / lv v<q:=Nat.lt_of_lt_of_le g.q_lt hA
   have hq1:1≤q:=Nat.lt_of_le_of_lt (Nat.zero_le _) hQ
   have hq2:(q+18446744073709551616 - 1) % 18446744073709551616=q - 1:=by omega
   by_cases hC:4294967296≤r+v.getD (k+2 - 1) 0
   ·refine ae (ae (bG 22 bL Y U (AQ Z (AP (sT X (dk Z Z)) (AQ Z (sg0 Z Z Z Z (sg0 Z Z Z Z (sg0 Z Z Z Z (sg0 Z Z Z Z ?_)))))))))
    refine sg0 Z Z Z Z (sg0 Z Z Z Z (sg0 Z Z Z Z (sg0 Z Z Z Z (sg0 Z Z Z Z (sg0 Z Z Z Z (sg0 Z Z Z Z (sg0 Z Z Z Z (sg0 Z Z Z Z (sg0 Z Z Z Z ?_)))))))))
    refine sg0 Z Z Z Z (sg0 Z Z Z Z (sg0 Z Z Z Z (sg0 Z Z Z Z (AP (bP Z Z) (AT (AT (aa (aP Z (az ?_)))))))))
    refine aa (aw (ae (ai (AQ Z (AP (eI Z Z X U) (AR Z (AT (aa (ae ?_)))))))))
    refine ai (AQ Z (AQ Z (AP (ej Z Z X) (AR Z (AT (aa (ae (ai (AQ Z ?_)))))))))
    refine AP (sT X (dk Z Z)) (AT (aa (aP Z (a8 (dm Z (ay (aM ?_)))))))
    rw [hq2]
    refine dg (q - 1) (hp.last g hQ hC) AL (.keep AO (.nil))
   ·refine ae (ae (bG 22 bL Y U (AQ Z (AP (sT X (dk Z Z)) (AQ Z (sg0 Z Z Z Z (sg0 Z Z Z Z (sg0 Z Z Z Z (sg0 Z Z Z Z ?_)))))))))
    refine sg0 Z Z Z Z (sg0 Z Z Z Z (sg0 Z Z Z Z (sg0 Z Z Z Z (sg0 Z Z Z Z (sg0 Z Z Z Z (sg0 Z Z Z Z (sg0 Z Z Z Z (sg0 Z Z Z Z (sg0 Z Z Z Z ?_)))))))))
    refine sg0 Z Z Z Z (sg0 Z Z Z Z (sg0 Z Z Z Z (sg0 Z Z Z Z (AP (bP Z Z) (AT (AT (aa (aP Z (az ?_)))))))))
    refine aa (aw (ae (ai (AQ Z (AP (eI Z Z X U) (AR Z (AT (aa (ae ?_)))))))))
    refine ai (AQ Z (AQ Z (AP (ej Z Z X) (AR Z (AT (aa (ae (ai (AQ Z ?_)))))))))
    refine AP (sF X (dk Z Z)) (AT (aa (aE Z (az (aK ?_)))))
    rw [hq2]
    refine aZ ((q - 1,r+v.getD (k+1) 0)) (hp.next hQ (Nat.lt_of_not_le hC)) X AL (.keep AO (.nil))
  ·have hqv:=oz (q:=q) (c:=0) X y0 U
   have hqv1:q*v.getD (k+2 - 2) 0<18446744073709551616:=hqv.1
   by_cases hB:r*4294967296+W.getD (j+(k+2 - 2)) 0<q*v.getD (k+2 - 2) 0
   ·have hQ:lv (win W j (k+3)) / lv v<q:=g.low hp.e hB
    have hq1:1≤q:=Nat.lt_of_le_of_lt (Nat.zero_le _) hQ
    have hq2:(q+18446744073709551616 - 1) % 18446744073709551616=q - 1:=by omega
    by_cases hC:4294967296≤r+v.getD (k+2 - 1) 0
    ·refine ae (ae (bG 22 bL Y U (AQ Z (AP (sF X (dk Z Z)) (AQ Z (AS (ab Z) (AS (ab Z) (AS (ab Z) (AS (cf _ 2 Z Z X X) ?_)))))))))
     refine AS (aR Z Z X) (AS (bj Z) (AS (bX Z X) (AS (jq Z Z X) (AS (ab Z) (AS (oe Z X) (AS (ab Z) (AS (ab Z) (AS (cf _ 2 Z Z X X) (AS (da Z Z X) ?_)))))))))
     refine AS (bQ 0 Z Z X) (AS (bX Z X) (AS (jt Z Z X X) (AS (sT X (dk Z Z)) (AP (bY Z Z) (AT (AT (aa (aP Z (az ?_)))))))))
     refine aa (aw (ae (ai (AQ Z (AP (eI Z Z X U) (AR Z (AT (aa (ae ?_)))))))))
     refine ai (AQ Z (AQ Z (AP (ej Z Z X) (AR Z (AT (aa (ae (ai (AQ Z ?_)))))))))
     refine AP (sT X (dk Z Z)) (AT (aa (aP Z (a8 (dm Z (ay (aM ?_)))))))
     rw [hq2]
     refine dg (q - 1) (hp.last g hQ hC) AL (.keep AO (.nil))
    ·refine ae (ae (bG 22 bL Y U (AQ Z (AP (sF X (dk Z Z)) (AQ Z (AS (ab Z) (AS (ab Z) (AS (ab Z) (AS (cf _ 2 Z Z X X) ?_)))))))))
     refine AS (aR Z Z X) (AS (bj Z) (AS (bX Z X) (AS (jq Z Z X) (AS (ab Z) (AS (oe Z X) (AS (ab Z) (AS (ab Z) (AS (cf _ 2 Z Z X X) (AS (da Z Z X) ?_)))))))))
     refine AS (bQ 0 Z Z X) (AS (bX Z X) (AS (jt Z Z X X) (AS (sT X (dk Z Z)) (AP (bY Z Z) (AT (AT (aa (aP Z (az ?_)))))))))
     refine aa (aw (ae (ai (AQ Z (AP (eI Z Z X U) (AR Z (AT (aa (ae ?_)))))))))
     refine ai (AQ Z (AQ Z (AP (ej Z Z X) (AR Z (AT (aa (ae (ai (AQ Z ?_)))))))))
     refine AP (sF X (dk Z Z)) (AT (aa (aE Z (az (aK ?_)))))
     rw [hq2]
     refine aZ ((q - 1,r+v.getD (k+1) 0)) (hp.next hQ (Nat.lt_of_not_le hC)) X AL (.keep AO (.nil))
   ·refine ae (ae (bG 22 bL Y U (AQ Z (AP (sF X (dk Z Z)) (AQ Z (AS (ab Z) (AS (ab Z) (AS (ab Z) (AS (cf _ 2 Z Z X X) ?_)))))))))
    refine AS (aR Z Z X) (AS (bj Z) (AS (bX Z X) (AS (jq Z Z X) (AS (ab Z) (AS (ju (s:=32) Z Z X X) (AS (ab Z) (AS (ab Z) (AS (cf _ 2 Z Z X X) (AS (da Z Z X) ?_)))))))))
    refine AS (bQ 0 Z Z X) (AS (bX Z X) (AS (jt Z Z X X) (AS (sF X (dk Z Z)) (AP (bY Z Z) (AT (AT (aa (aE Z (a8 ?_)))))))))
    refine ay (ay (aM ?_))
    have hqB:q<4294967296:=by omega
    refine dg (q) (⟨hqB,hp.q,g.done hp.e hqB (.inl (Nat.le_of_not_lt hB))⟩) AL (.keep AO (.nil))
 ·obtain ⟨hq1,hq2,hq3⟩:=hq
  have lu:=lw
  refine aa (ae (ai (AR Z (AR Z (AT (aa (ae (ae (ai ?_)))))))))
  refine AQ Z (AP (bh Z) (AQ Z (AT (aa (aw (cD (Γ' := [(0,_),(1,_),(4,_),(5,_),(8,_),(10,_),(11,_),(74,_),(75,_),(76,_)]) AK (SubM.refl _) ?_))))))
  refine bS (σ:=List Nat × Nat × Nat × Nat) (Γk := [(0,_),(1,_),(4,_),(5,_),(8,_),(74,_),(75,_)]) AK (fun s => [(76,one (.int .i64 (s.2.1:Nat))),(10,one (.int .u64 (s.2.2.1:Nat))),(11,one (.int .u64 (s.2.2.2:Nat)))]) (fun s M0=>(M0.set 0 (aI (some b) 83 .one N N (fO s.1)))) (fun s=>DgS W v j k q s) (fun s=>k+2 - s.2.1) ((W,0,0,0)) (⟨gr.refl _ _ _,hW,SubR.start (hW.win _ _)⟩) AL (.keep AO (.nil)) (fun s hs => ?_)
  refine co (Γ' := [(76,_),(10,_),(11,_),(0,_),(1,_),(4,_),(5,_),(8,_),(74,_),(75,_)]) (M' := [_]) Z Z ?_
  obtain ⟨W1,i,br,c⟩:=s
  dsimp only at hs ⊢
  have h1o:=hs.out
  have h1l:=hs.lim
  have h1s:=hs.sub
  dsimp only at h1o h1l h1s
  have hbr:=h1s.hb
  have hcr:=h1s.hc
  have hN1:W1.length=N:=h1o.1.trans hN
  refine ae (ai (AP (bH Z Z) (AT (aa (ae ?_)))))
  refine kE Z (fun hc => ?_) (fun hc => ?_)
  ·have hi:i<k+2:=by omega
   have z1:=a9 h1l (j+i)
   have v1:=a9 hv i
   have sl:=oz hq1 v1 hcr
   have sl1:=sl.1
   have sl2:=sl.2.1
   have sl3:=sl.2.2
   obtain ⟨d,hd⟩ : ∃ d,d=((W1.getD (j+i) 0+18446744073709551616 - (c+q*v.getD i 0) % 4294967296) % 18446744073709551616+18446744073709551616 - br) % 18446744073709551616:=⟨_,rfl⟩
   have hst:=h1s.step hv hq1 X (by rw [lu,hk]; omega) (d:=d) (by rw [gc X]; exact hd)
   rw [← kb X] at hst
   refine az (aa (ae (aw (ae (ai (AQ Z (AP (aR Z Z X) (AP (bj Z) (AR Z ?_)))))))))
   refine AR Z (AT (aa (ae (ai (AQ Z (AQ Z (AQ Z (AP (bX Z X) (AP (jq Z Z X) ?_)))))))))
   refine AP (ej Z Z X) (AR Z (AT (aa (ae (ai (AQ Z (AQ Z (AP (da Z Z X) (AP (bQ 0 Z Z X) ?_)))))))))
   refine AP (bX Z X) (AQ Z (AP (rf Z X) (AP (eI Z Z X X) (AQ Z (AP (eI Z Z X X) (AR Z (AT (aa (ae ?_)))))))))
   refine ai (AQ Z (AQ Z (AQ Z (AP (cH Z) (AP (da Z Z X) ?_)))))
   (refine ax 0 Z Z Z ?_ Z ?_;omega)
   refine AT (aa (ae (ai (AQ Z (AP (nW Z) (AR Z (AT (aa (ai ?_)))))))))
   refine AQ Z (AP (fd Z) (AR Z (AT (aK (aa (ai (AP (bV _ 1 Z Z X) (AQ Z (AT ?_)))))))))
   rw [← hd]
   refine aZ ((W1.set (j+i) (d % 4294967296),i+1,d / 9223372036854775808,(c+q*v.getD i 0) / 4294967296)) (⟨h1o.set X,h1l.set (Nat.mod_lt _ U),hst⟩) (by (simp only []; omega)) AL (.keep (fv X Z) (.nil))
  ·have hi:i=k+2:=by have:=h1s.le;omega
   subst hi
   have z1:=a9 h1l (j+(k+2))
   obtain ⟨d,hd⟩ : ∃ d,d=((W1.getD (j+(k+2)) 0+18446744073709551616 - c) % 18446744073709551616+18446744073709551616 - br) % 18446744073709551616:=⟨_,rfl⟩
   have h1v:SubR (win W j (k+3)) v q (win W1 j (k+3)) v.length br c:=by rw [hk]; exact h1s
   have hdw:d=(((win W1 j (k+3)).getD v.length 0+18446744073709551616 - c) % 18446744073709551616+18446744073709551616 - br) % 18446744073709551616:=by rw [hk,gc X]; exact hd
   refine a8 (ay (ay (aM (aa (ae (ai (AQ Z (AQ Z (AP (da Z Z X) ?_)))))))))
   refine AP (bQ 0 Z Z X) (AP (bX Z X) (AQ Z (AP (eI Z Z X X) (AQ Z (AP (eI Z Z X X) (AR Z (AT (aa (ae ?_)))))))))
   refine ai (AQ Z (AQ Z (AQ Z (AP (cH Z) (AP (da Z Z X) ?_)))))
   (refine ax 0 Z Z Z ?_ Z ?_;omega)
   refine AT (aa (ae (ae (ai (AQ Z (AP (nW Z) (AP (cQ Z Z) (AT (aa ?_)))))))))
   rw [← hd]
   refine kE Z (fun h0 => ?_) (fun h0 => ?_)
   ·obtain ⟨f1,f2,f3⟩:=h1v.good (by rw [lu,hk]) g.V0 hq2 hdw X
    rw [hk, ← kb X] at f3
    refine ae (ai (AQ Z (AP (cH Z) (AR Z (AT (aa (aH (aL ?_))))))))
    refine su (⟨W1.set (j+(k+2)) (d % 4294967296),h1o.set X,h1l.set (Nat.mod_lt _ U),f3⟩:zy W v j k) Tryz.results172 (.tmp Z (av (by rw [← f1,Nat.mod_eq_of_lt hq1]))) (.keep (fv X Z) .nil)
   ·obtain ⟨f1,f2,f3⟩:=h1v.bad (by rw [lu,hk]) g.V0 hq2 hq3 hdw X
    rw [hk, ← kb X] at f3
    obtain ⟨W2,hW2⟩ : ∃ W2,W2=W1.set (j+(k+2)) (d % 4294967296):=⟨_,rfl⟩
    have h2o:gr W W2 j (k+3):=hW2▸h1o.set X
    have h2l:bp W2:=hW2▸h1l.set (Nat.mod_lt _ U)
    have hN2:W2.length=N:=h2o.1.trans hN
    rw [← hW2] at f3
    refine az (aa (ae (ai (AR Z (AT (aa (ae (ae (ai ?_)))))))))
    refine AQ Z (AP (bh Z) (AQ Z (AT (aa (aw (cD (Γ' := [(0,_),(4,_),(5,_),(8,_),(11,_),(126,_),(127,_),(128,_)]) AK (SubM.refl _) ?_))))))
    refine bS (σ:=List Nat × Nat × Nat) (Γk := [(0,_),(4,_),(5,_),(8,_),(126,_),(127,_)]) AK (fun s => [(128,one (.int .i64 (s.2.1:Nat))),(11,one (.int .u64 (s.2.2:Nat)))]) (fun s M0=>(M0.set 0 (aI (some b) 83 .one N N (fO s.1)))) (fun s=>DgB W W2 v j k s) (fun s=>k+2 - s.2.1) ((W2,0,0)) (⟨h2o,h2l,BackR.start (h2l.win _ _)⟩) AL (.keep (by (subst hW2;exact fv X Z)) (.nil)) (fun s hs => ?_)
    refine co (Γ' := [(128,_),(11,_),(0,_),(4,_),(5,_),(8,_),(126,_),(127,_)]) (M' := [_]) Z Z ?_
    obtain ⟨W3,i,c3⟩:=s
    dsimp only at hs ⊢
    have h3o:=hs.out
    have h3l:=hs.lim
    have h3s:=hs.back
    dsimp only at h3o h3l h3s
    have hcr:=h3s.hc
    have hN3:W3.length=N:=h3o.1.trans hN
    have lu2:(win W2 j (k+3)).length=k+3:=sK X
    refine ae (ai (AP (bH Z Z) (AT (aa (ae ?_)))))
    refine kE Z (fun hc => ?_) (fun hc => ?_)
    ·have hi:i<k+2:=by omega
     have z1:=a9 h3l (j+i)
     have v1:=a9 hv i
     have hst:=h3s.step hv X (by rw [lu2,hk]; omega)
     rw [gc X, ← kb X] at hst
     refine az (aa (ae (aw (ae (ai (AQ Z (AP (aR Z Z X) (AP (bj Z) (AR Z ?_)))))))))
     refine AR Z (AT (aa (ae (ai (AQ Z (AQ Z (AQ Z (AP (da Z Z X) (AP (bQ 0 Z Z X) ?_)))))))))
     refine AP (bX Z X) (AQ Z (AP (bX Z X) (AP (ej Z Z X) (AP (ej Z Z X) (AR Z (AT (aa (ae (ai ?_)))))))))
     refine AQ Z (AQ Z (AQ Z (AP (cH Z) (AP (da Z Z X) ?_))))
     (refine ax 0 Z Z Z ?_ Z ?_;omega)
     refine AT (aa (ai (AQ Z (AP (fd Z) (AR Z (AT (aK (aa (ai ?_)))))))))
     refine AP (bV _ 1 Z Z X) (AQ Z (AT ?_))
     refine aZ ((W3.set (j+i) ((c3+(W3.getD (j+i) 0+v.getD i 0)) % 4294967296),i+1,(c3+(W3.getD (j+i) 0+v.getD i 0)) / 4294967296)) (⟨h3o.set X,h3l.set (Nat.mod_lt _ U),hst⟩) (by (simp only []; omega)) AL (.keep (fv X Z) (.nil))
    ·have hi:i=k+2:=by have:=h3s.le;omega
     subst hi
     have z1:=a9 h3l (j+(k+2))
     have h3v:BackR (win W2 j (k+3)) v (win W3 j (k+3)) v.length c3:=by rw [hk]; exact h3s
     obtain ⟨f4,f5⟩:=h3v.good (R:=lv (win W j (k+3)) % lv v) (x:=(W3.getD (j+(k+2)) 0+c3) % 4294967296) (by rw [lu2,hk]) (Nat.mod_lt _ g.V0) hv (by rw [hk]; exact f3) (by rw [hk,gc X])
     rw [hk, ← kb X] at f5
     refine a8 (ay (ay (aM (aa (ae (ai (AQ Z (AQ Z (AP (da Z Z X) ?_)))))))))
     refine AP (bQ 0 Z Z X) (AQ Z (AP (cH Z) (AP (zk Z Z) (AP (da Z Z X) ?_))))
     (refine ax 0 Z Z Z ?_ Z ?_;omega)
     refine AT (aa (ae (ai (AQ Z (AP (eI Z Z X U) (AP (cH Z) (AR Z (AT (aa ?_)))))))))
     refine aH ?_
     have e1:(q+18446744073709551616 - 1) % 18446744073709551616 % 4294967296=lv (win W j (k+3)) / lv v:=An f1 hq1
     refine su (⟨W3.set (j+(k+2)) ((W3.getD (j+(k+2)) 0+c3) % 4294967296),h3o.set X,h3l.set (Nat.mod_lt _ U),f5⟩:zy W v j k) Tryz.results172 (.tmp Z (av (by rw [e1]))) (.keep (fv X (by rw [Nat.mod_eq_of_lt (show c3<4294967296 by omega)])) .nil)
end Tor
end
section
namespace Tor
open Go Go.RowKit Go.Proofs
variable [Tor.Co.Kc]
theorem pY (AH:List Nat) {j m:Nat} (h:j+m≤AH.length):lv (AH.drop j)=lv (win AH j m)+4294967296^m*lv (AH.drop (j+m)):=by
 have h1:=fo (AH.drop j) m (by simp;omega)
 rw [List.drop_drop] at h1
 exact h1
theorem fP {AH:List Nat} {j:Nat} (h:j<AH.length):lv (AH.drop j)=AH.getD j 0+4294967296*lv (AH.drop (j+1)):=by
 rw [e8 h]; rfl
structure DivR (AI AJ n e:Nat) (p:List Nat × List Nat × Nat):Prop where
 le:p.2.2≤e+1
 lu:p.1.length=n+e+1
 lq:p.2.1.length=e+1
 limU:bp p.1
 limQ:bp p.2.1
 zero : ∀ k,k<p.2.2→p.2.1.getD k 0=0
 lt:lv (p.1.drop p.2.2)<AI
 val:lv p.1+lv p.2.1*AI=AJ
theorem DivR.pre {AI AJ n e j:Nat} {AH Q:List Nat} (h:DivR AI AJ n e (AH,Q,j+1)) (hV:AI<4294967296^n):j+(n+1)≤AH.length∧lv (AH.drop (j+(n+1)))=0∧lv (AH.drop j)=lv (win AH j (n+1))∧lv (win AH j (n+1))<AI*4294967296:=by
 have hle:j+1≤e+1:=h.le
 have hlu:AH.length=n+e+1:=h.lu
 have hlt:lv (AH.drop (j+1))<AI:=h.lt
 have h1:j+(n+1)≤AH.length:=by omega
 have h2:=fP (AH:=AH) (j:=j) X
 have h3:=pY AH h1
 have hd:=a9 (show bp AH from h.limU) j
 have h4:lv (AH.drop j)<AI*4294967296:=by
  rw [h2]
  generalize lv (AH.drop (j+1))=x at *
  generalize AH.getD j 0=y at *
  omega
 have h5:lv (AH.drop (j+(n+1)))=0:=by
  rcases Nat.eq_zero_or_pos (lv (AH.drop (j+(n+1)))) with h | h
  ·exact h
  ·exfalso
   have h6:4294967296^(n+1)≤4294967296^(n+1)*lv (AH.drop (j+(n+1))):=Nat.le_mul_of_pos_right _ h
   have h7:AI*4294967296<4294967296^(n+1):=by rw [Nat.pow_succ]; exact Nat.mul_lt_mul_of_pos_right hV U
   omega
 rw [h5,Nat.mul_zero,Nat.add_zero] at h3
 exact ⟨h1,h5,h3,h3▸h4⟩
theorem DivR.step {AI AJ n e j q:Nat} {AH Q U':List Nat} (h:DivR AI AJ n e (AH,Q,j+1)) (hV0:0<AI) (hV:AI<4294967296^n) (ho:gr AH U' j (n+1)) (hl:bp U') (hr:lv (win U' j (n+1))=lv (win AH j (n+1)) % AI) (hq:q=lv (win AH j (n+1)) / AI) :
  DivR AI AJ n e (U',Q.set j q,j):=by
 obtain ⟨p1,p2,p3,p4⟩:=h.pre hV
 obtain ⟨o1,o2,o3⟩:=ho
 have hle:j+1≤e+1:=h.le
 have hlq:Q.length=e+1:=h.lq
 have hqB:q<4294967296:=by rw [hq]; exact Nat.div_lt_of_lt_mul p4
 have h0:Q.getD j 0=0:=h.zero j (Nat.lt_succ_self j)
 have hs:=fa (l:=Q) (k:=j) (v:=q) X
 rw [h0,Nat.mul_zero,Nat.add_zero] at hs
 have d1:=fo AH j X
 have d2:=fo U' j X
 have e1:=pY U' (j:=j) (m:=n+1) X
 rw [o3,p2,Nat.mul_zero,Nat.add_zero] at e1
 have hm:=Nat.div_add_mod (lv (win AH j (n+1))) AI
 have hv:lv AH+lv Q*AI=AJ:=h.val
 refine ⟨Nat.le_of_succ_le hle,o1.trans h.lu,by rw [List.length_set]; exact h.lq,hl,bp.set h.limQ hqB,fun k hk => ?_,?_,?_⟩
 ·simp only at hk ⊢
  rw [dj X,if_neg X]; exact h.zero k (Nat.lt_succ_of_lt hk)
 ·show lv (U'.drop j)<AI
  rw [e1,hr]; exact Nat.mod_lt _ hV0
 ·show lv U'+lv (Q.set j q)*AI=AJ
  rw [hs, ← hv,d1,d2,o2,e1,p3,hr,hq]
  generalize lv (win AH j (n+1))=w at *
  have e2:(lv Q+4294967296^j*(w / AI))*AI=lv Q*AI+4294967296^j*(AI*(w / AI)):=by rw [Nat.add_mul,Nat.mul_assoc,Nat.mul_comm (w / AI)]
  have e3:4294967296^j*w=4294967296^j*(AI*(w / AI))+4294967296^j*(w % AI):=by rw [← Nat.mul_add,hm]
  rw [e2,e3]; omega
theorem DivR.start {AI AJ n e:Nat} {AH:List Nat} (hU:bp AH) (hlu:AH.length=n+e+1) (hA:lv AH=AJ) (hlt:AJ<AI*4294967296^(e+1)):DivR AI AJ n e (AH,List.replicate (e+1) 0,e+1):=by
 refine ⟨Nat.le_refl _,hlu,by simp,hU,bp.replicate _,fun k _=>cj _ _,?_,by simp [dE,hA]⟩
 show lv (AH.drop (e+1))<AI
 have h1:=fo AH (e+1) X
 have h2:lv (AH.drop (e+1))*4294967296^(e+1)<AI*4294967296^(e+1):=by
  rw [Nat.mul_comm]; omega
 exact Nat.lt_of_mul_lt_mul_right h2
theorem DivR.finish {a b s n e:Nat} {AH Q:List Nat} (h:DivR (b*2^s) (a*2^s) n e (AH,Q,0)) (hb:0<b):lv Q=a / b∧lv AH=(a % b)*2^s:=by
 have hp:=Nat.two_pow_pos s
 have hlt:lv AH<b*2^s:=h.lt
 have hv:lv AH+lv Q*(b*2^s)=a*2^s:=h.val
 have hq:lv Q=a / b:=by
  have h1:lv Q*b≤a:=by
   refine Nat.le_of_mul_le_mul_right (c:=2^s) ?_ hp
   rw [Nat.mul_assoc]; omega
  have h2:a<(lv Q+1)*b:=by
   refine Nat.lt_of_mul_lt_mul_right (a:=2^s) ?_
   rw [Nat.mul_assoc,Nat.add_mul]; omega
  have h3:lv Q≤a / b:=(Nat.le_div_iff_mul_le hb).2 h1
  have h4:a / b<lv Q+1:=Nat.div_lt_of_lt_mul (by rw [Nat.mul_comm]; exact h2)
  omega
 refine ⟨hq,?_⟩
 have hm:=Nat.div_add_mod a b
 rw [hq] at hv
 have e1:a*2^s=(b*(a / b))*2^s+(a % b)*2^s:=by rw [← Nat.add_mul,hm]
 have e2:a / b*(b*2^s)=(b*(a / b))*2^s:=by rw [← Nat.mul_assoc,Nat.mul_comm (a / b)]
 omega
def t3 (AH:List Nat) (s i:Nat):Nat:=(AH.getD (i+1) 0*4294967296+AH.getD i 0) / 2^s % 4294967296
theorem kc (F:Nat→Nat) : ∀ (n i:Nat) (S:Nat→Nat),(∀ k,i≤k→k<i+n→S k=F k+4294967296*S (k+1))→S (i+n)=0→lv ((List.range' i n).map F)=S i
 | 0, i, S, _, h0 => by simpa [lv] using h0.symm
 | n + 1, i, S, h, h0 => by
  rw [List.range'_succ,List.map_cons,lv,kc F n (i+1) S (fun k h1 h2=>h k X X) (by rw [← h0]; congr 1;omega),h i (Nat.le_refl _) X]
theorem vJ {AH:List Nat} (hU:bp AH) {s i:Nat} (hs:s<32) (hi:i+1<AH.length):lv (AH.drop i) / 2^s=t3 AH s i+4294967296*(lv (AH.drop (i+1)) / 2^s):=by
 have h1:=fP (AH:=AH) (j:=i) X
 have h2:=fP (AH:=AH) (j:=i+1) hi
 have hp:=Nat.two_pow_pos s
 obtain ⟨t,ht⟩ : ∃ t,4294967296=2^s*t:=⟨2^(32 - s),by rw [← Nat.pow_add,show s+(32 - s)=32 by omega]⟩
 have hd:=a9 hU i
 have e1:lv (AH.drop i) / 2^s % 4294967296=t3 AH s i:=by
  unfold t3
  rw [h1,h2]
  generalize lv (AH.drop (i+1+1))=W
  generalize AH.getD (i+1) 0=x
  generalize AH.getD i 0=y
  have:y+4294967296*(x+4294967296*W)=(x*4294967296+y)+2^s*(t*(4294967296*W)):=by
   rw [← Nat.mul_assoc (2^s), ← ht]; omega
  rw [this,Nat.add_mul_div_left _ _ hp]
  rw [show t*(4294967296*W)=4294967296*(t*W) by rw [Nat.mul_left_comm],Nat.add_mul_mod_self_left]
 have e2:lv (AH.drop i) / 2^s / 4294967296=lv (AH.drop (i+1)) / 2^s:=by
  rw [Nat.div_div_eq_div_mul,Nat.mul_comm, ← Nat.div_div_eq_div_mul]
  congr 1
  rw [h1]; omega
 have:=Nat.div_add_mod (lv (AH.drop i) / 2^s) 4294967296
 rw [e1,e2] at this
 omega
def ed (AH:List Nat) (s n:Nat):List Nat:=(List.range' 0 n).map (t3 AH s)
theorem xM {AH:List Nat} (hU:bp AH) {s n:Nat} (hs:s<32) (hn:n<AH.length) (h0:lv AH<4294967296^n):lv (ed AH s n)=lv AH / 2^s:=by
 have h1:lv (AH.drop n)=0:=by
  have h2:=fo AH n X
  rcases Nat.eq_zero_or_pos (lv (AH.drop n)) with h | h
  ·exact h
  ·have:=Nat.le_mul_of_pos_right (4294967296^n) h;omega
 have:=kc (t3 AH s) n 0 (fun k=>lv (AH.drop k) / 2^s) (fun k _ hk=>vJ hU hs X) (by rw [Nat.zero_add,h1]; exact Nat.zero_div _)
 unfold ed
 rw [this]; rfl
theorem xN (AH:List Nat) (s n:Nat):bp (ed AH s n):=fun d hd=>by
 obtain ⟨i,_,rfl⟩:=List.mem_map.1 hd
 exact Nat.mod_lt _ U
theorem mX (F:Nat→Nat) {n i:Nat} (h:i<n):((List.range' 0 n).map F).getD i 0=F i:=by
 simp [List.getD,h]
theorem xO (AH:List Nat) (s:Nat) {n i:Nat} (h:i<n):(ed AH s n).getD i 0=t3 AH s i:=mX _ h
theorem xP (AH:List Nat) (s n:Nat):(ed AH s n).length=n:=by unfold ed;simp
theorem xQ {l:List Nat} (h:fK l) : ∀ {k:Nat},l.length=k+1→l.getD k 0≠0:=by
 induction l with
 | nil => intro k h; simp at h
 | cons d l ih =>
  intro k hk
  cases l with
  | nil => simp at hk; subst hk; simpa using (show d ≠ 0 from h)
  | cons e l =>
   obtain ⟨j,rfl⟩ : ∃ j,k=j+1:=⟨k - 1,by simp at hk;omega⟩
   have:=ih h.tail (k:=j) (by simpa using hk)
   simpa using this
structure Shf (b:Nat) (l:List Nat) (s k:Nat):Prop where
 s32:s<32
 lim:bp l
 lo:2147483648*4294967296^(k+1)≤b*2^s
 hi:b*2^s<4294967296^(k+2)
theorem zA {b k:Nat} (hk:(aS b).length=k+2):Shf b (aS b) (32 - fp ((aS b).getD (k+1) 0)) k:=by
 have hl:=bg b
 have ht:=xQ (jY b) (k:=k+1) hk
 have hd:=a9 hl (k+1)
 generalize hx:(aS b).getD (k+1) 0=x at *
 obtain ⟨j1,j2⟩:=ow (x:=x) X ht
 have j3:=ov (x:=x) X
 have j4:=i5 (x:=x) (n:=32) X U
 have hb:b=lv ((aS b).take (k+1))+4294967296^(k+1)*x:=by
  have e:aS b=(aS b).take (k+2):=by rw [List.take_of_length_le X]
  have h1:=bA (l:=aS b) (k:=k+1) X
  rw [← e,bW,hx] at h1;exact h1
 have hlo:=gK (hl.take (k+1))
 rw [List.length_take_of_le X] at hlo
 generalize lv ((aS b).take (k+1))=y at *
 obtain ⟨t,ht2⟩ : ∃ t,fp x=t+1:=⟨fp x - 1,by omega⟩
 rw [ht2] at j2 j3 j4 ⊢
 rw [Nat.add_sub_cancel] at j2
 have p1:2^t*2^(32 - (t+1))=2147483648:=by rw [← Nat.pow_add,show t+(32 - (t+1))=31 by omega]
 have p2:2^(t+1)*2^(32 - (t+1))=4294967296:=by rw [← Nat.pow_add,show t+1+(32 - (t+1))=32 by omega]
 have hp:=Nat.two_pow_pos (32 - (t+1))
 refine ⟨by omega,hl,?_,?_⟩
 ·rw [← p1,hb]
  calc 2^t*2^(32 - (t+1))*4294967296^(k+1)≤x*2^(32 - (t+1))*4294967296^(k+1):=Nat.mul_le_mul_right _ (Nat.mul_le_mul_right _ j2)
   _=4294967296^(k+1)*x*2^(32 - (t+1)):=by rw [Nat.mul_comm,Nat.mul_assoc]
   _≤_:=Nat.mul_le_mul_right _ (Nat.le_add_left _ _)
 ·have h1:b<4294967296^(k+1)*(x+1):=by rw [Nat.mul_add,Nat.mul_one]; omega
  calc b*2^(32 - (t+1))<4294967296^(k+1)*(x+1)*2^(32 - (t+1)):=Nat.mul_lt_mul_of_pos_right h1 hp
   _≤4294967296^(k+1)*2^(t+1)*2^(32 - (t+1)):=Nat.mul_le_mul_right _ (Nat.mul_le_mul_left _ j3)
   _=4294967296^(k+2):=by rw [Nat.mul_assoc,p2, ← Nat.pow_succ]
theorem Shf.v {b s k:Nat} {l z:List Nat} (h:Shf b l s k) (hz:bp z) (hl:z.length=k+3) (hv:lv z=b*2^s) :
  bp (z.take (k+2))∧(z.take (k+2)).length=k+2∧lv (z.take (k+2))=b*2^s∧2147483648≤(z.take (k+2)).getD (k+1) 0:=by
 have h1:=fo z (k+2) X
 have h0:lv (z.drop (k+2))=0:=by
  rcases Nat.eq_zero_or_pos (lv (z.drop (k+2))) with h' | h'
  ·exact h'
  ·have:=Nat.le_mul_of_pos_right (4294967296^(k+2)) h';have:=h.hi;omega
 rw [h0,Nat.mul_zero,Nat.add_zero,hv] at h1
 have hlen:(z.take (k+2)).length=k+2:=by rw [List.length_take_of_le X]
 have hL:=hz.take (k+2)
 refine ⟨hL,hlen,h1.symm,?_⟩
 generalize z.take (k+2)=v at *
 have h2:=bA (l:=v) (k:=k+1) X
 rw [List.take_of_length_le X] at h2
 have h3:=gK (hL.take (k+1))
 rw [List.length_take_of_le X] at h3
 have h4:=h.lo
 rw [h1,h2] at h4
 generalize lv (v.take (k+1))=y at *
 generalize v.getD (k+1) 0=x at *
 generalize 4294967296^(k+1)=B at *
 rcases Nat.lt_or_ge x 2147483648 with h5 | h5
 ·have h6:B*x+B≤B*2147483648:=by rw [← Nat.mul_succ]; exact Nat.mul_le_mul_left _ h5
  rw [Nat.mul_comm 2147483648] at h4;omega
 ·exact h5
theorem Shf.u {a b s k e:Nat} {l:List Nat} (h:Shf b l s k) (ha:(aS a).length=k+2+e):a*2^s<b*2^s*4294967296^(e+1):=by
 have h1:=dS a
 rw [ha] at h1
 have h2:2^s≤2147483648:=Nat.pow_le_pow_right (n:=2) U (show s≤31 by have:=h.s32;omega)
 calc a*2^s<4294967296^(k+2+e)*2^s:=Nat.mul_lt_mul_of_pos_right h1 (Nat.two_pow_pos s)
  _≤4294967296^(k+2+e)*2147483648:=Nat.mul_le_mul_left _ h2
  _=2147483648*4294967296^(k+1)*4294967296^(e+1):=by rw [Nat.mul_assoc, ← Nat.pow_add,Nat.mul_comm,show k+1+(e+1)=k+2+e by omega]
  _≤b*2^s*4294967296^(e+1):=Nat.mul_le_mul_right _ h.lo
end Tor
end
section
namespace Tor
open Go Go.RowKit Go.Proofs
variable [Tor.Co.Kc]
theorem xR:VT.le (one (.slice none 0 0)) (j5 0):=VT.le_trans gq (eL (l := []) (fun _ h=>by cases h) Z)
theorem sL {a b:Nat} : (kJ a b<0)=(a<b):=by unfold kJ;split <;> simp_all <;> (try split) <;> omega
theorem vK {b:Nat} (h:(aS b).length=1):(aS b).getD 0 0=b:=by
 have h1:=bA (l:=aS b) (k:=0) X
 rw [List.take_of_length_le X,bW] at h1
 simpa [lv] using h1.symm
theorem xS {v:Nat} (h:v<4294967296):VT.le (slT .one 1 fun _=>one (.int .u32 (v:Nat))) (j5 v) :=
 VT.le_trans (cN (m := [v].length) (ψ:=fun i=>one (.int .u32 ([v].getD i 0:Nat))) Z (fun q hq=>by
  have hq:q<1:=hq
  have:q=0:=by omega
  subst this;rfl)) (eL (l := [v]) (fun d hd=>by simp at hd;omega) (by simp [lv]))
def lj:Nat→Nat→List Nat
 | 0, _ => []
 | n + 1, v => v % 4294967296 :: lj n (v / 4294967296)
theorem mp : ∀ n v,(lj n v).length=n
 | 0, _ => rfl
 | n + 1, v => by rw [lj, List.length_cons, mp n]
theorem mq : ∀ n v,bp (lj n v)
 | 0, _ => fun d hd => by cases hd
 | n + 1, v => fun d hd => by
  rw [lj] at hd
  rcases List.mem_cons.1 hd with rfl | hd
  ·exact Nat.mod_lt _ U
  ·exact mq n _ d hd
theorem mr : ∀ n v,v<4294967296^n→lv (lj n v)=v
 | 0, v, h => by simp at h; subst h; rfl
 | n + 1, v, h => by
  have:v / 4294967296<4294967296^n:=Nat.div_lt_of_lt_mul (by rw [Nat.mul_comm, ← Nat.pow_succ]; exact h)
  rw [lj,lv,mr n _ this]; omega
theorem pZ : ∀ {z:List Nat},bp z→z=lj z.length (lv z)
 | [], _ => rfl
 | d :: z, h => by
  have hd:=h.head
  have ih:=pZ h.tail
  rw [List.length_cons,lj,lv]
  rw [show (d+4294967296*lv z) % 4294967296=d by omega,show (d+4294967296*lv z) / 4294967296=lv z by omega, ← ih]
theorem vL {l:List Nat} {s:Nat} (hl:bp l) (hs:s<32):lv l*2^s<4294967296^(l.length+1):=by
 rw [Nat.pow_succ]
 have h1:2^s≤4294967296:=Nat.pow_le_pow_right (n:=2) U (show s≤32 by omega)
 exact Nat.lt_of_lt_of_le (Nat.mul_lt_mul_of_pos_right (gK hl) (Nat.two_pow_pos s)) (Nat.mul_le_mul_left _ h1)
def zB (l:List Nat) (s:Nat) (hl:bp l) (hs:s<32):ox l s:=⟨(0,lj (l.length+1) (lv l*2^s)),mp _ _,mq _ _,mr _ _ (vL hl hs)⟩
theorem t4 (l:List Nat) (s:Nat) (hl:bp l) (h1:l.length≤1099511627776) (hs:s<32):Ok Tryz.prog 171 [cw l,one (.int .i64 (s:Nat))] (slT .one (l.length+1) (fO (lj (l.length+1) (lv l*2^s)))) :=
 (pX l s hl h1 hs).ok fun p=>by
  have h:=pZ p.2.2.1
  rw [p.2.1,p.2.2.2] at h
  rw [← h]
  exact Ent.sl List.mem_cons_self
theorem t5 {z:List Nat} {q m:Nat} (h:q<m):fO z (Int.toNat 0+q)=fO (z.take m) q:=by
 have e:Int.toNat 0+q=q:=Nat.zero_add q
 rw [e]
 unfold fO
 rw [show (z.take m).getD q 0=z.getD q 0 by simp [List.getD,List.getElem?_take,h]]
theorem xT {br:Option Nat} {T:TypeId} {n i s:Nat} {AH:List Nat} (hi:i<n):Own.le (aI br T .one n n (upd (fun q=>one (.int .u32 ((if q<i then (ed AH s n).getD q 0 else 0:Nat):Int))) i (one (.int .u32 (((AH.getD (i+1) 0*4294967296+AH.getD i 0) / 2^s % 4294967296:Nat):Int)))))
  (aI br T .one n n (fun q=>one (.int .u32 ((if q<i+1 then (ed AH s n).getD q 0 else 0:Nat):Int)))):=bZ (fun q hq=>by
 unfold upd
 by_cases h:q=i
 ·subst h;rw [if_pos Z,if_pos (Nat.lt_succ_self q),xO AH s hi]; rfl
 ·rw [if_neg h]
  dsimp only
  by_cases h2:q<i
  ·rw [if_pos h2,if_pos (Nat.lt_succ_of_lt h2)]
  ·rw [if_neg h2,if_neg X])
attribute [local irreducible] J PJ aB one slT bJ bB bv exT cd eP aQ aI slV VT.le Ret bN
set_option maxRecDepth 20000 in
theorem t6 (a b:Nat) (hb:b≠0) (ha:(aS a).length≤1099511627776):Ok Tryz.prog 155 [cw (aS a),cw (aS b)] (bv [j5 (a / b),j5 (a % b)]):=by
 have hcl:=vG (aS a) ha
 have hcm:=jB a b
 refine Ok.enter Tryz.func155 Z Tryz.ntmps155 Z (fun w O => ?_)
 by_cases h1:a<b
 ·rw [Nat.div_eq_of_lt h1,Nat.mod_eq_of_lt h1]
  have hlt:kJ a b<0:=by rw [sL]; exact h1
  refine ae (ai (AR Z (AR Z (AT (aa (ae (aw (ae (ai ?_)))))))))
  refine AQ Z (AQ Z ?_)
  refine AP (ao (hcm) Z ⟨A,A,AU⟩) ?_
  refine AP (sT (by assumption) (bH Z Z)) (AR Z (AT (aa (aP Z (ae (ai (AQ Z ?_)))))))
  refine AP (ao (hcl) Z ⟨A,AU⟩) ?_
  refine AR Z (AR Z (AT (aa (aH (bq (aL ?_))))))
  refine c5 Tryz.results155 (.tmp Z (xR)) (.tmp Z (cy _))
 ·have hlt : ¬ kJ a b<0:=by rw [sL]; exact h1
  have hlen:=fL (Nat.le_of_not_lt h1)
  by_cases h2:(aS a).length≤2
  ·have hw1:=sI (aS a) (bg a) h2
   have hw2:=sI (aS b) (bg b) X
   rw [bW] at hw1 hw2
   have a64:a<18446744073709551616:=Nat.lt_of_lt_of_le (dS a) (Nat.pow_le_pow_right (n:=4294967296) U h2)
   have b64:b<18446744073709551616:=by omega
   have q64:a / b<18446744073709551616:=Nat.lt_of_le_of_lt (Nat.div_le_self _ _) a64
   have r64:a % b<18446744073709551616:=Nat.lt_of_le_of_lt (Nat.mod_le _ _) a64
   have hk1:=j7 (a / b) q64
   have hk2:=j7 (a % b) r64
   refine ae (ai (AR Z (AR Z (AT (aa (ae (aw (ae (ai ?_)))))))))
   refine AQ Z (AQ Z ?_)
   refine AP (ao (hcm) Z ⟨A,A,AU⟩) ?_
   refine AP (sF (by assumption) (bH Z Z)) (AR Z (AT (aa (aE Z (ae (ai (AQ Z (AP (bh Z) (AP (sT X (xp Z Z)) ?_)))))))))
   refine AR Z (AT (aa (aP Z (ae (ai (AQ Z ?_))))))
   refine AP (ao (hw1) Z ⟨A,AU⟩) ?_
   refine AQ Z ?_
   refine AP (ao (hw2) Z ⟨A,AU⟩) ?_
   refine AR Z (AR Z (AT (aa (ae (bG 9 bL Y U (AQ Z (AQ Z (AP (lU Z Z X X) ?_))))))))
   refine AP (ao (hk1) Z ⟨A,AU⟩) ?_
   refine AQ Z (AQ Z (AP (cK _ Z Z Z X) ?_))
   refine AP (ao (hk2) Z ⟨A,AU⟩) ?_
   refine AR Z (AT (AR Z (AT (aa (aH (bq (aL ?_)))))))
   refine c5 Tryz.results155 (.tmp Z A) (.tmp Z A)
  ·by_cases h3:(aS b).length=1
   ·have hb1:=vK h3
    have hd:=a9 (bg b) 0
    have hsh:=vH (aS a) b (bg a) ha X X
    rw [bW] at hsh
    have hr:=Nat.mod_lt a (show 0<b by omega)
    refine ae (ai (AR Z (AR Z (AT (aa (ae (aw (ae (ai ?_)))))))))
    refine AQ Z (AQ Z ?_)
    refine AP (ao (hcm) Z ⟨A,A,AU⟩) ?_
    refine AP (sF (by assumption) (bH Z Z)) (AR Z (AT (aa (aE Z (ae (ai (AQ Z (AP (bh Z) (AP (sF X (xp Z Z)) ?_)))))))))
    refine AR Z (AT (aa (aE Z (ae (ai (AQ Z (AP (bh Z) (AP (sT X (cQ Z Z)) (AR Z ?_)))))))))
    refine AT (aa (aP Z (ae (ai (AQ Z (AQ Z (AP (gB Z Z X X) (AP (bj Z) ?_))))))))
    refine AP (ao (hsh) Z ⟨A,(av (by rw [show (aS b).getD (Int.toNat 0) 0=b from hb1])),AU⟩) ?_
    refine AQ Z (AP (aD Z Z) (AP (aD Z Z) (AR Z (AR Z (AT (aa (ae (ai (AQ Z ?_)))))))))
    refine AQ Z (po Z Z Z Z (AR Z (AR Z (AT (aa (aH (bq (aL ?_))))))))
    refine c5 Tryz.results155 (.tmp Z A) (.tmp Z (xS X))
   ·have hdb:aS b ≠ []:=fun h=>hb (by rw [← bW b,h]; rfl)
    obtain ⟨k,hk⟩ : ∃ k,(aS b).length=k+2:=⟨(aS b).length - 2,by have:=List.length_pos_iff.2 hdb;omega⟩
    obtain ⟨e,he⟩ : ∃ e,(aS a).length=k+2+e:=⟨(aS a).length - (k+2),by omega⟩
    have hx:=a9 (bg b) ((aS b).length - 1)
    have S0:=zA hk
    rw [show k+1=(aS b).length - 1 by omega] at S0
    have hlz:=xJ ((aS b).getD ((aS b).length - 1) 0) hx
    generalize 32 - fp ((aS b).getD ((aS b).length - 1) 0)=s at S0 hlz
    have s32:=S0.s32
    have hsv:=t4 (aS b) s (bg b) X s32
    have hsu:=pX (aS a) s (bg a) ha s32
    refine ae (ai (AR Z (AR Z (AT (aa (ae (aw (ae (ai ?_)))))))))
    refine AQ Z (AQ Z ?_)
    refine AP (ao (hcm) Z ⟨A,A,AU⟩) ?_
    refine AP (sF (by assumption) (bH Z Z)) (AR Z (AT (aa (aE Z (ae (ai (AQ Z (AP (bh Z) (AP (sF X (xp Z Z)) ?_)))))))))
    refine AR Z (AT (aa (aE Z (ae (ai (AQ Z (AP (bh Z) (AP (sF X (cQ Z Z)) (AR Z ?_)))))))))
    refine AT (aa (aE Z (az (aK (aa (ae (ai (AQ Z (AQ Z ?_)))))))))
    refine AP (bh Z) (AP (cf _ 1 Z Z X X) (AP (aR Z Z X) (AP (bj Z) ?_)))
    refine AP (ao (hlz) Z ⟨A,AU⟩) ?_
    refine AQ Z (AP (bh Z) (AR Z (AR Z (AT (aa (ae (cD (Γ' := [(0,_),(1,_),(4,_),(5,_),(10,_),(11,_)]) AK (SubM.refl _) ?_)))))))
    refine zm (σ:=ox (aS a) s) 2 (zB (aS a) s (bg a) s32) (fun p=>one (slV (some p.1.1) ((aS a).length+1) ((aS a).length+1))) (fun p => [aI (some p.1.1) 83 .one ((aS a).length+1) ((aS a).length+1) (fO p.1.2)]) bL Y U ?_
    refine vx Z (fun s B=>ab Z) Z ?_
    refine vx Z (fun s B=>ab Z) Z ?_
    refine vc Z hsu (fun s=>rfl) ⟨A,A,AU⟩ Z ?_
    refine vx Z (fun s B=>ab Z) Z ?_
    refine vx Z (fun s B=>ab Z) Z ?_
    refine vx Z (fun s B=>ao hsv Z ⟨A,A,AU⟩) Z ?_
    refine vx Z (fun s B=>ab Z) Z ?_
    refine vx Z (fun s B=>ab Z) Z ?_
    refine vx Z (fun s B=>jP Z Z Z Z (fun _=>rfl) X X X X) Z ?_
    refine vd Z Y (fun s B=>ah Z) Z ?_
    refine vx Z (fun s B=>ah Z) Z ?_
    refine .nil (fun p => ?_)
    obtain ⟨⟨bu,AH⟩,hu1,hu2,hu3⟩:=p
    dsimp only at hu1 hu2 hu3 ⊢
    rw [bW] at hu3
    rw [he] at hu1
    rw [bW,hk,he]
    obtain ⟨z,hz⟩ : ∃ z,z=lj (k+2+1) (b*2^s):=⟨_,rfl⟩
    have z1:=mp (k+2+1) (b*2^s)
    have z2:=mq (k+2+1) (b*2^s)
    have z3:=mr (k+2+1) (b*2^s) (Nat.lt_of_lt_of_le S0.hi (Nat.pow_le_pow_right U X))
    rw [← hz] at z1 z2 z3 ⊢
    obtain ⟨v1,v2,v3,v4⟩:=S0.v z2 z1 z3
    refine qT (Γ' := [(0,slT .one (k+2+e) (fO (aS a))),(4,_),(5,_),(10,_),(11,one (.int .i64 ((k+2:Nat):Int))),(12,one (slV (some bu) (k+2+e+1) (k+2+e+1))),(13,cw (z.take (k+2)))]) (.cons Z (cN he (fun _ _=>rfl)) (.cons Z A (.cons Z A (.cons Z A (.cons Z A (.cons Z A (.cons Z ?_ .nil))))))) (SubM.refl _) ?_
    ·exact cN (by rw [v2]; omega) (fun q hq=>t5 X)
    generalize z.take (k+2)=v at *
    have hV0:0<b*2^s:=Nat.mul_pos X (Nat.two_pow_pos s)
    have hVn:=S0.hi
    have hA:=S0.u he
    refine aa (ae (ai (AQ Z (AP (bh Z) (AQ Z (AP (cf _ _ Z Z X X) (AP (bV _ 1 Z Z X) ?_)))))))
    refine cx (e+1) (e+1) Z Z X X (Nat.le_refl _) Z Z X Z Z (fun bz => ?_)
    refine AR Z (AT (aa (ae (ae (ai (AQ Z (AP (bh Z) (AQ Z (AP (cf _ _ Z Z X X) ?_)))))))))
    refine AR Z (AT (aa (aw (cD (Γ' := [(4,_),(5,_),(10,_),(11,_),(12,_),(13,_),(14,_),(15,_)]) AK (SubM.refl _) ?_))))
    refine bS (σ:=List Nat × List Nat × Nat) (Γk := [(4,_),(5,_),(10,_),(11,_),(12,_),(13,_),(14,_)]) AK (fun p => [(15,one (.int .i64 ((p.2.2:Nat) - 1:Int)))]) (fun p M0=>((M0.set 0 (aI (some bz) 83 .one (e+1) (e+1) (fO p.2.1))).set 1 (aI (some bu) 83 .one (k+2+e+1) (k+2+e+1) (fO p.1)))) (fun p=>DivR (b*2^s) (a*2^s) (k+2) e p) (fun p=>p.2.2) ((AH,List.replicate (e+1) 0,e+1)) (DivR.start hu2 hu1 hu3 hA) AL (.keep (bZ (fun q _=>by unfold fO;rw [cj]; rfl)) (.keep AO (.nil))) (fun p hp => ?_)
    refine co (Γ' := [(15,_),(4,_),(5,_),(10,_),(11,_),(12,_),(13,_),(14,_)]) (M' := [_,_]) Z Z ?_
    obtain ⟨U1,Q,c⟩:=p
    dsimp only at hp ⊢
    have hu1:U1.length=k+2+e+1:=hp.lu
    have hq1:Q.length=e+1:=hp.lq
    have hcl:c≤e+1:=hp.le
    refine ae (ae (ai (AQ Z (AP (eU Z Z) (AT (aa ?_))))))
    cases c with
    | zero =>
     refine lz Z X (a8 (ay (ay (aM (aa (ae (ai (AQ Z ?_))))))))
     obtain ⟨f1,f2⟩:=hp.finish X
     refine cx (k+2) (k+2) Z Z Z Z (Nat.le_refl _) Z Z X Z Z (fun br => ?_)
     refine AR Z (AT (aa (ae (ae (ai (AQ Z (AQ Z (AT (aa ?_)))))))))
     refine aw (cD (Γ' := [(4,_),(5,_),(10,_),(12,_),(14,_),(16,_),(102,_),(103,_)]) AK (SubM.refl _) ?_)
     refine bS (σ:=Nat) (Γk := [(4,_),(5,_),(10,_),(12,_),(14,_),(16,_),(102,_)]) AK (fun i => [(103,one (.int .i64 (i:Nat)))]) (fun i M0=>(M0.set 0 (aI (some br) 83 .one (k+2) (k+2) (fun q=>one (.int .u32 ((if q<i then (ed U1 s (k+2)).getD q 0 else 0:Nat):Int)))))) (fun i=>i≤k+2) (fun i=>k+2 - i) (0) (Nat.zero_le _) AL (.keep AO (.keep AO (.keep AO (.nil)))) (fun i hi => ?_)
     refine co (Γ' := [(103,_),(4,_),(5,_),(10,_),(12,_),(14,_),(16,_),(102,_)]) (M' := [_,_,_]) Z Z (ae (ai (AP (bH Z Z) (AT (aa (ae ?_))))))
     refine kE Z (fun hc => ?_) (fun hc => ?_)
     ·have hik:i<k+2:=by omega
      have g0:=a9 (show bp U1 from hp.limU) i
      have g1:=a9 (show bp U1 from hp.limU) (i+1)
      refine az (aa (ae (aw (ae (ai (AQ Z (AR Z (AT (aa ?_)))))))))
      refine bG 18 bL Y U (AQ Z (AQ Z (AQ Z (AQ Z (AP (bV _ 1 Z Z X) (AP (ar Z Z X) (AP (bQ 2 Z Z X) (AP (bX Z X) (AP (ju (s:=32) Z Z X X) ?_)))))))))
      refine AQ Z (AQ Z (AP (ar Z Z X) (AP (bQ 2 Z Z X) (AP (bX Z X) (AP (jt Z Z X X) (AQ Z ?_))))))
      refine AP (jv Z Z (by (show _<64;omega))) ?_
      refine AP (cH Z) (AT (AP (ar Z Z X) ?_))
      (refine ax 0 Z Z Z ?_ Z ?_;omega)
      refine AT (aK (aa (ai (AP (bV _ 1 Z Z X) (AQ Z (AT ?_))))))
      refine aZ (i+1) (by assumption) X AL (.keep (xT hik) (.keep AO (.keep AO (.nil))))
     ·have hik:i=k+2:=by omega
      subst hik
      refine a8 (ay (ay (aM (aa (ae (ai (AQ Z (AQ Z (AR Z ?_)))))))))
      refine AR Z (AT (aa (aH ?_)))
      have hlU:lv U1<4294967296^(k+2):=Nat.lt_trans (show lv (U1.drop 0)<_ from hp.lt) hVn
      have hrv:lv (ed U1 s (k+2))=a % b:=by rw [xM hp.limU s32 (by dsimp only;omega) hlU,f2,Nat.mul_div_cancel _ (Nat.two_pow_pos s)]
      refine dX (t:=5) (i:=0) Z Z (dX (t:=4) (i:=0) Z Z ?_)
      refine c5 Tryz.results155 (.tmp Z (VT.le_trans (cN (m:=Q.length) (ψ:=fO Q) hq1.symm (fun _ _=>rfl)) (eL hp.limQ f1))) (.tmp Z (VT.le_trans (cN (m:=(ed U1 s (k+2)).length) (ψ:=fO (ed U1 s (k+2))) (xP _ _ _).symm (fun q hq=>by rw [if_pos hq])) (eL (xN _ _ _) hrv)))
    | succ j =>
     obtain ⟨p1,p2,p3,p4⟩:=hp.pre hVn
     have en:((j+1:Nat):Int) - 1=(j:Nat):=by omega
     rw [en]
     refine lr Z X (az (aa (ae (aw (ai (AQ Z (AQ Z (AQ Z (AQ Z ?_)))))))))
     refine AQ Z (AQ Z (AP (bV _ _ Z Z X) (AP (bV _ 1 Z Z X) (AP (vo Z Z Z X X X) (AQ Z ?_)))))
     refine gW (Min := [aI (some bu) 83 .one (k+2+e+1) (k+2+e+1) (fO U1)]) (Kp := [aI (some bz) 83 .one (e+1) (e+1) (fO Q)]) (vI bu (k+2+e+1) j (k+2+e+1 - j) k U1 v hp.limU v1 hu1 X v2 X v4 (by rw [v3]; exact p4)) Z ⟨av (by rw [show j+(k+2)+1 - j=k+3 by omega]; rfl),A,AU⟩ (List.Perm.swap _ _ _) Z Z (fun r => ?_)
     obtain ⟨U2,o1,o2,o3⟩:=r
     dsimp only
     refine u5 (List.Perm.swap _ _ _) (AP (ar Z Z X) ?_)
     (refine ax 0 Z Z Z ?_ Z ?_;omega)
     refine AT (aK (aa (ai (AQ Z (AP (eu Z Z (aT X X)) (AR Z (AT ?_)))))))
     refine aZ ((U2,Q.set j (lv (win U1 j (k+3)) / lv v),j)) (hp.step hV0 hVn o1 o2 (by rw [o3,v3]) (by rw [v3])) (by (simp only []; omega)) AL (.keep (fv X Z) (.keep AO (.nil)))
end Tor
end
section
namespace Tor
open Go Go.RowKit Go.Proofs
variable [Tor.Co.Kc]
theorem sM {AJ B:Nat} (hB:0<B) (h:AJ % B=0):(-(AJ:Int)) / B = -((AJ / B:Nat):Int)∧(-(AJ:Int)) % B=0:=by
 have hm:=Nat.div_add_mod AJ B
 refine (Int.ediv_emod_unique X).2 ⟨?_,by omega,by omega⟩
 have e:((B*(AJ / B)+AJ % B:Nat):Int)=(AJ:Int):=by rw [hm]
 rw [h] at e
 rw [Int.natCast_add,Int.natCast_mul] at e
 rw [Int.mul_neg]; omega
theorem sN {AJ B:Nat} (hB:0<B) (h:AJ % B≠0):(-(AJ:Int)) / B = -((AJ / B+1:Nat):Int)∧(-(AJ:Int)) % B=((B - AJ % B:Nat):Int):=by
 have hm:=Nat.div_add_mod AJ B
 have hl:=Nat.mod_lt AJ hB
 refine (Int.ediv_emod_unique X).2 ⟨?_,by omega,by omega⟩
 have e:((B*(AJ / B)+AJ % B:Nat):Int)=(AJ:Int):=by rw [hm]
 rw [Int.natCast_add,Int.natCast_mul] at e
 rw [Int.mul_neg,Int.natCast_add,Int.mul_add]
 omega
theorem xU {a b:Int} (hb:b≠0):(0≤a→a / b=(if b<0 then -((a.natAbs / b.natAbs:Nat):Int) else ((a.natAbs / b.natAbs:Nat):Int))∧a % b=((a.natAbs % b.natAbs:Nat):Int)) ∧
  (a<0→a.natAbs % b.natAbs=0→a / b=(if b<0 then ((a.natAbs / b.natAbs:Nat):Int) else -((a.natAbs / b.natAbs:Nat):Int))∧a % b=0) ∧
  (a<0→a.natAbs % b.natAbs≠0→a / b=(if b<0 then ((a.natAbs / b.natAbs+1:Nat):Int) else -((a.natAbs / b.natAbs+1:Nat):Int))∧a % b=((b.natAbs - a.natAbs % b.natAbs:Nat):Int)):=by
 have hB:0<b.natAbs:=by omega
 generalize hA:a.natAbs=AJ
 generalize hBb:b.natAbs=B at *
 have key:(0≤a→a / (B:Int)=((AJ / B:Nat):Int)∧a % (B:Int)=((AJ % B:Nat):Int)) ∧
   (a<0→AJ % B=0→a / (B:Int) = -((AJ / B:Nat):Int)∧a % (B:Int)=0) ∧
   (a<0→AJ % B≠0→a / (B:Int) = -((AJ / B+1:Nat):Int)∧a % (B:Int)=((B - AJ % B:Nat):Int)):=by
  refine ⟨fun h => ?_,fun h h0 => ?_,fun h h0 => ?_⟩
  ·have:a=(AJ:Int):=by omega
   rw [this]; exact ⟨(Int.natCast_ediv AJ B).symm,(Int.natCast_emod AJ B).symm⟩
  ·have:a = -(AJ:Int):=by omega
   rw [this]; exact sM hB h0
  ·have:a = -(AJ:Int):=by omega
   rw [this]; exact sN hB h0
 by_cases hn:b<0
 ·have e:b = -(B:Int):=by omega
  simp only [if_pos hn]
  rw [e,Int.ediv_neg,Int.emod_neg]
  refine ⟨fun h => ?_,fun h h0 => ?_,fun h h0 => ?_⟩
  ·obtain ⟨k1,k2⟩:=key.1 h;exact ⟨by rw [k1],k2⟩
  ·obtain ⟨k1,k2⟩:=key.2.1 h h0;exact ⟨by rw [k1,Int.neg_neg],k2⟩
  ·obtain ⟨k1,k2⟩:=key.2.2 h h0;exact ⟨by rw [k1,Int.neg_neg],k2⟩
 ·have e:b=(B:Int):=by omega
  simp only [if_neg hn]
  rw [e]; exact key
theorem gh {v:Nat} (h:(aS v).length=0):v=0:=by
 rw [← bW v,List.length_eq_zero_iff.1 h]; rfl
theorem p6:aS 1 = [1]:=by rw [fZ U]; rfl
theorem vM:VT.le (slT .one 1 fun _=>one (.int .u32 1)) (cw (aS 1)):=by
 rw [p6]
 exact cN Z (fun q hq=>by
  have hq:q=0:=by omega
  subst hq;rfl)
theorem sO (p:Prop) [Decidable p] (x:Int):(if (!(true == decide p))=true then -x else x)=(if p then x else -x):=by by_cases h:p <;> simp [h]
theorem xV (p:Prop) [Decidable p] (x:Int):(if (!(false == decide p))=true then -x else x)=(if p then -x else x):=by by_cases h:p <;> simp [h]
attribute [local irreducible] J PJ aB one slT bJ bB bv exT cd eP aQ aI slV VT.le Ret bN
set_option maxRecDepth 20000 in
theorem nv (a b:Int) (hb:b≠0) (ha:ci a) (hbs:ci b):Ok Tryz.prog 145 [aW a,aW b] (bv [aW (a / b),aW (a % b),one (.int .i64 0)]):=by
 obtain ⟨g1,g2,g3⟩:=xU (a:=a) hb
 have hb0:(aS b.natAbs).length≠0:=fun h=>hb (by have:=gh h;omega)
 have hB:b.natAbs≠0:=by omega
 have hdiv:=t6 a.natAbs b.natAbs hB ha
 have ha':(aS a.natAbs).length≤1099511627776:=ha
 have hb':(aS b.natAbs).length≤1099511627776:=hbs
 have hlt:=Nat.mod_lt a.natAbs (Nat.pos_of_ne_zero hB)
 have hr0:(aS (a.natAbs % b.natAbs)).length=0↔a.natAbs % b.natAbs=0:=⟨gh,fun h=>by rw [h]; rfl⟩
 have hql:(aS (a.natAbs / b.natAbs)).length≤1099511627776:=Nat.le_trans (fL (Nat.div_le_self _ _)) ha'
 have hmin:=mf b.natAbs (a.natAbs % b.natAbs) (Nat.le_of_lt hlt) hb'
 have hplus:=sE (a.natAbs / b.natAbs) 1 hql (by rw [p6]; decide)
 have hv1:=fun n=>dT n (a.natAbs / b.natAbs)
 have hv2:=fun n=>dT n (a.natAbs % b.natAbs)
 have hv3:=fun n=>dT n (a.natAbs / b.natAbs+1)
 have hv4:=fun n=>dT n (b.natAbs - a.natAbs % b.natAbs)
 unfold aW at *
 refine Ok.enter Tryz.func145 Z Tryz.ntmps145 Z (fun w O => ?_)
 by_cases hn:a<0
 ·by_cases hr:a.natAbs % b.natAbs=0
  ·have hr1:=hr0.2 hr
   refine ae (ai ?_)
   refine bE Z Z (ltN Z) (fun b2 => ?_)
   refine bE Z Z (ltN Z) (fun b3 => ?_)
   refine aU (T:=28) Z (ltN Z) (fun b4 => ?_)
   refine aU (T:=28) Z (ltN Z) (fun b5 => ?_)
   refine AR Z (AT (aa (ae (bG 7 bL Y U (AP (aj Z) (AP (am 3 Z Z Z) ?_))))))
   refine AP (ao (cO _) Z ⟨(cy _),AU⟩) ?_
   refine AP (aj Z) (AP (am 2 Z Z Z) ?_)
   refine AP (ao (cO _) Z ⟨(cy _),AU⟩) ?_
   refine AR Z (AT (AR Z (AT (aa (ae (ae (ai (AQ Z (AP (bh Z) ?_)))))))))
   refine AP (sF X (cQ Z Z)) (AT (aa (aE Z (az (aa (ae (ai (AQ Z (AQ Z ?_)))))))))
   refine AP (ao (hdiv) Z ⟨A,A,AU⟩) ?_
   refine AQ Z (AP (aD Z Z) (AP (aD Z Z) (AR Z (AR Z (AT (aa (ae (ai (AQ Z ?_)))))))))
   refine AP (ao (cO _) Z ⟨A,AU⟩) ?_
   refine AR Z (AT (aa (ae (ae (ai (AP (aj Z) (AP (sT (by assumption) (am 3 Z Z Z)) (AQ Z (AS (ab Z) ?_)))))))))
   refine AS (bh Z) (AS (sF X (dk Z Z)) (AP (bP Z Z) (AT (aa (aE Z (az (aa (ae (ai ?_)))))))))
   refine AP (aj Z) (AP (sT (by assumption) (am 3 Z Z Z)) (AP (aj Z) (AP (am 2 Z Z Z) (AP (pf Z Z) (AQ Z ?_)))))
   refine AP (ao (hv1 _) Z ⟨A,A,AU⟩) ?_
   refine AQ Z ?_
   refine AP (ao (hv2 _) Z ⟨A,(cy _),AU⟩) ?_
   refine au 1 Z Z Z Z Z (leN Z) Z (au 0 Z Z Z Z Z (leN Z) Z (AR Z (AT (aa (aH ?_)))))
   refine uZ Tryz.results145 (.cellB 1 Z Z Z (cW (by rw [(g2 hn hr).1]; exact sO _ _))) (.cellB 0 Z Z Z (cW (by rw [(g2 hn hr).2,hr]; rfl))) (.tmp Z A)
  ·have hr1:(aS (a.natAbs % b.natAbs)).length≠0:=fun h=>hr (hr0.1 h)
   refine ae (ai ?_)
   refine bE Z Z (ltN Z) (fun b2 => ?_)
   refine bE Z Z (ltN Z) (fun b3 => ?_)
   refine aU (T:=28) Z (ltN Z) (fun b4 => ?_)
   refine aU (T:=28) Z (ltN Z) (fun b5 => ?_)
   refine AR Z (AT (aa (ae (bG 7 bL Y U (AP (aj Z) (AP (am 3 Z Z Z) ?_))))))
   refine AP (ao (cO _) Z ⟨(cy _),AU⟩) ?_
   refine AP (aj Z) (AP (am 2 Z Z Z) ?_)
   refine AP (ao (cO _) Z ⟨(cy _),AU⟩) ?_
   refine AR Z (AT (AR Z (AT (aa (ae (ae (ai (AQ Z (AP (bh Z) ?_)))))))))
   refine AP (sF X (cQ Z Z)) (AT (aa (aE Z (az (aa (ae (ai (AQ Z (AQ Z ?_)))))))))
   refine AP (ao (hdiv) Z ⟨A,A,AU⟩) ?_
   refine AQ Z (AP (aD Z Z) (AP (aD Z Z) (AR Z (AR Z (AT (aa (ae (ai (AQ Z ?_)))))))))
   refine AP (ao (cO _) Z ⟨A,AU⟩) ?_
   refine AR Z (AT (aa (ae (ae (ai (AP (aj Z) (AP (sT (by assumption) (am 3 Z Z Z)) (AQ Z (AS (ab Z) ?_)))))))))
   refine AS (bh Z) (AS (sT X (dk Z Z)) (AP (bP Z Z) (AT (aa (aP Z (ai (AQ Z ?_)))))))
   refine AP (ao (cO _) Z ⟨A,AU⟩) ?_
   refine po Z Z Z Z ?_
   refine AP (ao (hplus) Z ⟨A,(vM),AU⟩) ?_
   refine AQ Z (AQ Z ?_)
   refine AP (ao (hmin) Z ⟨A,A,AU⟩) ?_
   refine AR Z (AR Z (AT (aa (ae (ai (AP (aj Z) (AP (sT (by assumption) (am 3 Z Z Z)) (AP (aj Z) (AP (am 2 Z Z Z) ?_)))))))))
   refine AP (pf Z Z) (AQ Z ?_)
   refine AP (ao (hv3 _) Z ⟨A,A,AU⟩) ?_
   refine AQ Z ?_
   refine AP (ao (hv4 _) Z ⟨A,A,AU⟩) ?_
   refine au 1 Z Z Z Z Z (leN Z) Z (au 0 Z Z Z Z Z (leN Z) Z (AR Z (AT (aa (aH ?_)))))
   refine uZ Tryz.results145 (.cellB 1 Z Z Z (cW (by rw [(g3 hn hr).1]; exact sO _ _))) (.cellB 0 Z Z Z (cW (by rw [(g3 hn hr).2]; rfl))) (.tmp Z A)
 ·refine ae (ai ?_)
  refine bE Z Z (ltN Z) (fun b2 => ?_)
  refine bE Z Z (ltN Z) (fun b3 => ?_)
  refine aU (T:=28) Z (ltN Z) (fun b4 => ?_)
  refine aU (T:=28) Z (ltN Z) (fun b5 => ?_)
  refine AR Z (AT (aa (ae (bG 7 bL Y U (AP (aj Z) (AP (am 3 Z Z Z) ?_))))))
  refine AP (ao (cO _) Z ⟨(cy _),AU⟩) ?_
  refine AP (aj Z) (AP (am 2 Z Z Z) ?_)
  refine AP (ao (cO _) Z ⟨(cy _),AU⟩) ?_
  refine AR Z (AT (AR Z (AT (aa (ae (ae (ai (AQ Z (AP (bh Z) ?_)))))))))
  refine AP (sF X (cQ Z Z)) (AT (aa (aE Z (az (aa (ae (ai (AQ Z (AQ Z ?_)))))))))
  refine AP (ao (hdiv) Z ⟨A,A,AU⟩) ?_
  refine AQ Z (AP (aD Z Z) (AP (aD Z Z) (AR Z (AR Z (AT (aa (ae (ai (AQ Z ?_)))))))))
  refine AP (ao (cO _) Z ⟨A,AU⟩) ?_
  refine AR Z (AT (aa (ae (ae (ai (AP (aj Z) (AP (sF (by assumption) (am 3 Z Z Z)) (AQ Z (sg0 Z Z Z Z ?_)))))))))
  refine sg0 Z Z Z Z (sg0 Z Z Z Z (AP (bY Z Z) (AT (aa (aE Z (az (aa (ae (ai ?_)))))))))
  refine AP (aj Z) (AP (sF (by assumption) (am 3 Z Z Z)) (AP (aj Z) (AP (am 2 Z Z Z) (AP (pf Z Z) (AQ Z ?_)))))
  refine AP (ao (hv1 _) Z ⟨A,A,AU⟩) ?_
  refine AQ Z ?_
  refine AP (ao (hv2 _) Z ⟨A,(cy _),AU⟩) ?_
  refine au 1 Z Z Z Z Z (leN Z) Z (au 0 Z Z Z Z Z (leN Z) Z (AR Z (AT (aa (aH ?_)))))
  refine uZ Tryz.results145 (.cellB 1 Z Z Z (cW (by rw [(g1 X).1]; exact xV _ _))) (.cellB 0 Z Z Z (cW (by rw [(g1 X).2]; rfl))) (.tmp Z A)
end Tor
end
section
namespace Tor
open Go Go.RowKit Go.Proofs
variable [Tor.Co.Kc]
theorem Ao {a b:Nat} (ha:a<4294967296) (hb:b<4294967296):a*b<18446744073709551616:=by
 have:=jZ ha hb (c:=0) (d:=0) U U;omega
structure PowR (p v:Nat) (s:Nat × Nat × Nat):Prop where
 r:s.1<p
 a:s.2.1<p
 e:s.2.2<18446744073709551616
 v:s.1*s.2.1^s.2.2 % p=v
theorem p7 (a e p:Nat):a^e % p=((a*a % p)^(e / 2)*(if e % 2=1 then a else 1)) % p:=by
 have h1:a^e=(a*a)^(e / 2)*(if e % 2=1 then a else 1):=by
  have he:=Nat.div_add_mod e 2
  conv=>lhs;rw [← he]
  rw [Nat.pow_add,Nat.pow_mul,Nat.pow_two]
  rcases Nat.mod_two_eq_zero_or_one e with h | h <;> simp [h]
 rw [h1,Nat.mul_mod,Nat.pow_mod, ← Nat.mul_mod]
theorem p8 {p k:Nat} (hk:k≤p) (hp:p<4294967296):(p+18446744073709551616 - k) % 18446744073709551616=p - k:=by omega
theorem PowR.start {p a e:Nat} (hp:0<p) (ha:a<p) (he:e<18446744073709551616):PowR p (a^e % p) (1 % p,a,e) :=
 ⟨Nat.mod_lt _ hp,ha,he,by show 1 % p*a^e % p=_;rw [Nat.mod_mul_mod,Nat.one_mul]⟩
theorem PowR.odd {p v r a e:Nat} (h:PowR p v (r,a,e)) (h1:e % 2=1):PowR p v (r*a % p,a*a % p,e / 2):=by
 have hp:0<p:=Nat.lt_of_le_of_lt (Nat.zero_le _) h.r
 have he:e<18446744073709551616:=h.e
 refine ⟨Nat.mod_lt _ hp,Nat.mod_lt _ hp,by show e / 2<_;omega,?_⟩
 have hv:r*a^e % p=v:=h.v
 show r*a % p*(a*a % p)^(e / 2) % p=v
 have hR:r*a^e % p=r*((a*a % p)^(e / 2)*a) % p:=by rw [Nat.mul_mod,p7 a e p,if_pos h1, ← Nat.mul_mod]
 rw [← hv,hR,Nat.mod_mul_mod,Nat.mul_assoc,Nat.mul_comm a]
theorem PowR.even {p v r a e:Nat} (h:PowR p v (r,a,e)) (h1 : ¬ e % 2=1):PowR p v (r,a*a % p,e / 2):=by
 have hp:0<p:=Nat.lt_of_le_of_lt (Nat.zero_le _) h.r
 have he:e<18446744073709551616:=h.e
 refine ⟨h.r,Nat.mod_lt _ hp,by show e / 2<_;omega,?_⟩
 have hv:r*a^e % p=v:=h.v
 show r*(a*a % p)^(e / 2) % p=v
 rw [← hv,Nat.mul_mod r (a^e),p7 a e p,if_neg h1,Nat.mul_one, ← Nat.mul_mod]
theorem PowR.done {p v r a:Nat} (h:PowR p v (r,a,0)):r=v:=by
 have hv:r*a^0 % p=v:=h.v
 rw [Nat.pow_zero,Nat.mul_one,Nat.mod_eq_of_lt h.r] at hv;exact hv
theorem vN {l:List Nat} {n p r:Nat} (hn:n<l.length) (hr:r=lv (l.drop (n+1)) % p):(r*4294967296+l.getD n 0) % p=lv (l.drop n) % p:=by
 rw [fP hn,hr,Nat.add_comm (l.getD n 0),Nat.mul_comm 4294967296,Nat.add_mod,Nat.mod_mul_mod, ← Nat.add_mod]
theorem xW {a:Int} {p:Nat} (hp:0<p) (hn:a<0) (h0:0<a.natAbs % p):p - a.natAbs % p=(a % (p:Int)).toNat:=by
 have:=(sN (AJ:=a.natAbs) hp X).2
 have e : -((a.natAbs:Nat):Int)=a:=by omega
 rw [e] at this;rw [this]; rfl
theorem vO {a:Int} {p:Nat} (hp:0<p) (hn:a<0) (h0 : ¬ 0<a.natAbs % p):a.natAbs % p=(a % (p:Int)).toNat:=by
 have:=(sM (AJ:=a.natAbs) hp X).2
 have e : -((a.natAbs:Nat):Int)=a:=by omega
 rw [e] at this;rw [this]; show _=0;omega
theorem xX {a:Int} {p:Nat} (hn : ¬ a<0):a.natAbs % p=(a % (p:Int)).toNat:=by
 have e:a=((a.natAbs:Nat):Int):=by omega
 conv=>rhs;rw [e, ← Int.natCast_emod]
 rfl
attribute [local irreducible] J PJ aB one slT bJ bB bv exT cd eP aQ aI slV VT.le Ret bN
theorem ms (x p:Nat) (hx:x<18446744073709551616) (hp0:0<p) (hp:p<18446744073709551616):Ok Tryz.prog 113 [one (.int .u64 x),one (.int .u64 p)] (one (.int .u64 ((x % p:Nat):Int))):=by
 refine Ok.enter Tryz.func113 Z Tryz.ntmps113 Z (fun w O => ?_)
 refine ae (ai (AR Z (AT (aa (ae (ae (ai (AQ Z (AP (sF X (cQ Z Z)) ?_)))))))))
 refine AT (aa (aE Z (az (aa (ae (ai (AQ Z (AQ Z (AP (cK _ Z Z Z X) ?_)))))))))
 refine AR Z (AT (aa (aH ?_)))
 refine aX Tryz.results113 (.tmp Z A)
theorem oA (p a b:Nat) (hp0:0<p) (hp:p<4294967296) (ha:a<4294967296) (hb:b≤a+p):Ok Tryz.prog 74 [one (.int .u64 p),one (.int .u64 a),one (.int .u64 b)] (one (.int .u64 (((a+p - b) % p:Nat):Int))):=by
 have hr:=ms (a+p - b) p X hp0 X
 refine Ok.enter Tryz.func74 Z Tryz.ntmps74 Z (fun w O => ?_)
 refine ae (ai (AR Z (AT (aa (ae (ai (AQ Z (AQ Z (AP (ej Z Z X) ?_)))))))))
 refine AQ Z (AP (eI Z Z X X) (AQ Z ?_))
 refine AP (ao (hr) Z ⟨(av (by congr 1;omega)),A,AU⟩) ?_
 refine AR Z (AT (aa (aH ?_)))
 refine aX Tryz.results74 (.tmp Z A)
theorem fQ (p a b:Nat) (hp0:0<p) (hp:p<4294967296) (ha:a<4294967296) (hb:b<4294967296):Ok Tryz.prog 70 [one (.int .u64 p),one (.int .u64 a),one (.int .u64 b)] (one (.int .u64 ((a*b % p:Nat):Int))):=by
 have h64:=Ao ha hb
 have hr:=ms (a*b) p h64 hp0 X
 refine Ok.enter Tryz.func70 Z Tryz.ntmps70 Z (fun w O => ?_)
 refine ae (ai (AR Z (AT (aa (ae (ai (AQ Z (AQ Z (AP (jq Z Z X) ?_)))))))))
 refine AQ Z ?_
 refine AP (ao (hr) Z ⟨A,A,AU⟩) ?_
 refine AR Z (AT (aa (aH ?_)))
 refine aX Tryz.results70 (.tmp Z A)
theorem sP (p a e:Nat) (hp:p<4294967296) (ha:a<p) (he:e<18446744073709551616):Ok Tryz.prog 69 [one (.int .u64 p),one (.int .u64 a),one (.int .u64 e)] (one (.int .u64 ((a^e % p:Nat):Int))):=by
 have hp0:0<p:=by omega
 have hr:=ms 1 p U hp0 X
 refine Ok.enter Tryz.func69 Z Tryz.ntmps69 Z (fun w O => ?_)
 refine ae (ai (AR Z (AT (aa (ae (ai (AQ Z ?_)))))))
 refine AP (ao (hr) Z ⟨A,A,AU⟩) ?_
 refine AR Z (AT (aa (ae (aw (cD (Γ' := [(0,_),(1,_),(2,_),(6,_),(7,_)]) AK (SubM.refl _) ?_)))))
 refine bS (σ:=Nat × Nat × Nat) (Γk := [(0,_),(6,_)]) AK (fun s => [(7,one (.int .u64 (s.1:Nat))),(1,one (.int .u64 (s.2.1:Nat))),(2,one (.int .u64 (s.2.2:Nat)))]) (fun s M0=>M0) (fun s=>PowR p (a^e % p) s) (fun s=>s.2.2) ((1 % p,a,e)) (PowR.start hp0 ha he) AL (.nil) (fun s hs => ?_)
 refine co (Γ' := [(7,_),(1,_),(2,_),(0,_),(6,_)]) (M' := []) Z Z ?_
 obtain ⟨r,b,f⟩:=s
 dsimp only at hs ⊢
 have h1:r<p:=hs.r
 have h2:b<p:=hs.a
 have h3:f<18446744073709551616:=hs.e
 by_cases hf:f=0
 ·subst hf
  have:=hs.done
  subst this
  refine ae (ae (ai (AQ Z (AP (sF X (dk Z Z)) (AT (aa (aE Z (a8 (ay ?_)))))))))
  refine ay (aM (aa (ae (ai (AQ Z (AR Z (AT (aa (aH ?_)))))))))
  refine aX Tryz.results69 (.tmp Z A)
 ·by_cases ho:f % 2=1
  ·have hst:=hs.odd ho
   refine ae (ae (ai (AQ Z (AP (sT X (dk Z Z)) (AT (aa (aP Z (az (aa ?_)))))))))
   refine ae (aw (ae (ae (ai (AQ Z (AP (vr Z X) (AP (sT X (cQ Z Z)) (AT (aa ?_)))))))))
   refine aP Z (ai (AQ Z (AQ Z (AQ Z ?_))))
   refine AP (ao (fQ _ _ _ (by assumption) (by assumption) X X) Z ⟨A,A,A,AU⟩) ?_
   refine AR Z (AT (aa (ai (AQ Z (AQ Z (AQ Z ?_))))))
   refine AP (ao (fQ _ _ _ (by assumption) (by assumption) X X) Z ⟨A,A,A,AU⟩) ?_
   refine AR Z (AT (aK (aa (ai (AQ Z (AP (jv (s:=1) Z Z U) (AR Z (AT ?_))))))))
   refine aZ ((r*b % p,b*b % p,f / 2)) (hst) (by (simp only []; omega)) AL (.nil)
  ·have hst:=hs.even ho
   refine ae (ae (ai (AQ Z (AP (sT X (dk Z Z)) (AT (aa (aP Z (az (aa ?_)))))))))
   refine ae (aw (ae (ae (ai (AQ Z (AP (vr Z X) (AP (sF X (cQ Z Z)) (AT (aa ?_)))))))))
   refine aE Z (az (aa (ai (AQ Z (AQ Z (AQ Z ?_))))))
   refine AP (ao (fQ _ _ _ (by assumption) (by assumption) X X) Z ⟨A,A,A,AU⟩) ?_
   refine AR Z (AT (aK (aa (ai (AQ Z (AP (jv (s:=1) Z Z U) (AR Z (AT ?_))))))))
   refine aZ ((r,b*b % p,f / 2)) (hst) (by (simp only []; omega)) AL (.nil)
theorem sQ (p a:Nat) (hp2:2≤p) (hp:p<4294967296) (ha0:a≠0) (ha:a<p):Ok Tryz.prog 75 [one (.int .u64 p),one (.int .u64 a)] (bv [one (.int .u64 ((a^(p - 2) % p:Nat):Int)),one (.int .i64 0)]):=by
 have hpw:=sP p a (p - 2) hp ha X
 refine Ok.enter Tryz.func75 Z Tryz.ntmps75 Z (fun w O => ?_)
 refine ae (ai (AR Z (AR Z (AT (aa (ae (ae (ai (AQ Z ?_)))))))))
 refine AP (sF X (cQ Z Z)) (AT (aa (aE Z (az (aa (ae (ai (AQ Z (AQ Z ?_)))))))))
 refine AQ Z (AP (eI Z Z X U) ?_)
 refine AP (ao (hpw) Z ⟨A,A,(av (by rw [p8 hp2 hp])),AU⟩) ?_
 refine AR Z (AR Z (AT (aa (aH ?_))))
 refine c5 Tryz.results75 (.tmp Z A) (.tmp Z A)
theorem jF (p:Nat) (a:Int) (hp0:0<p) (hp:p<4294967296) (ha:ci a):Ok Tryz.prog 77 [one (.int .u64 p),aW a] (one (.int .u64 (((a % (p:Int)).toNat:Nat):Int))):=by
 have hva:=bW a.natAbs
 have hla:=bg a.natAbs
 have ha':(aS a.natAbs).length≤1099511627776:=ha
 unfold aW
 generalize aS a.natAbs=l at *
 refine Ok.enter Tryz.func77 Z Tryz.ntmps77 Z (fun w O => ?_)
 refine ae (ai ?_)
 refine bE Z Z (ltN Z) (fun b3 => ?_)
 refine AR Z (AT (aa (ae (ai (AR Z (AT (aa (ae (ae ?_)))))))))
 refine ai (AP (aj Z) (AP (am 0 Z Z Z) (AP (bh Z) (AP (eu Z Z (aT X X)) (AR Z (AT (aa (aw (cD (Γ' := [(0,_),(3,_),(4,_),(5,_),(6,_)]) AK (SubM.refl _) ?_)))))))))
 refine bS (σ:=Nat × Nat) (Γk := [(0,_),(3,_),(4,_)]) AK (fun s => [(6,one (.int .i64 ((s.1:Nat) - 1:Int))),(5,one (.int .u64 (s.2:Nat)))]) (fun s M0=>M0) (fun s=>s.1≤l.length∧s.2=lv (l.drop s.1) % p) (fun s=>s.1) ((l.length,0)) (by (exact ⟨Nat.le_refl _,by rw [List.drop_length]; exact (Nat.zero_mod p).symm⟩)) AL (.keep AO (.nil)) (fun s hs => ?_)
 refine co (Γ' := [(6,_),(5,_),(0,_),(3,_),(4,_)]) (M' := [_]) Z Z ?_
 obtain ⟨n,r⟩:=s
 dsimp only at hs ⊢
 obtain ⟨hn,hr⟩:=hs
 have hrp:r<p:=by rw [hr]; exact Nat.mod_lt _ hp0
 cases n with
 | zero =>
  rw [List.drop_zero,hva] at hr
  subst hr
  by_cases hneg:a<0
  ·by_cases h0:0<a.natAbs % p
   ·refine ae (ae (ai (AQ Z (AP (sF X (eU Z Z)) (AT (aa (aE Z (a8 (ay ?_)))))))))
    refine ay (aM (aa (ae (ae (ai (AP (aj Z) (AP (sT (by assumption) (am 0 Z Z Z)) (AQ Z (AS (ab Z) ?_)))))))))
    refine AS (sT X (dk Z Z)) (AP (bP Z Z) (AT (aa (aP Z (ai (AQ Z (AQ Z (AP (eI Z Z X X) (AR Z ?_)))))))))
    refine AT (aa (ae (ai (AQ Z (AR Z (AT (aa (aH ?_))))))))
    refine aX Tryz.results77 (.tmp Z (av (by rw [p8 (Nat.le_of_lt hrp) hp,xW hp0 hneg h0])))
   ·refine ae (ae (ai (AQ Z (AP (sF X (eU Z Z)) (AT (aa (aE Z (a8 (ay ?_)))))))))
    refine ay (aM (aa (ae (ae (ai (AP (aj Z) (AP (sT (by assumption) (am 0 Z Z Z)) (AQ Z (AS (ab Z) ?_)))))))))
    refine AS (sF X (dk Z Z)) (AP (bP Z Z) (AT (aa (aE Z (az (aa (ae (ai (AQ Z ?_)))))))))
    refine AR Z (AT (aa (aH ?_)))
    refine aX Tryz.results77 (.tmp Z (av (by rw [vO hp0 hneg h0])))
  ·refine ae (ae (ai (AQ Z (AP (sF X (eU Z Z)) (AT (aa (aE Z (a8 (ay ?_)))))))))
   refine ay (aM (aa (ae (ae (ai (AP (aj Z) (AP (sF (by assumption) (am 0 Z Z Z)) (AQ Z (sg0 Z Z Z Z ?_)))))))))
   refine sg0 Z Z Z Z (AP (bY Z Z) (AT (aa (aE Z (az (aa (ae (ai (AQ Z ?_)))))))))
   refine AR Z (AT (aa (aH ?_)))
   refine aX Tryz.results77 (.tmp Z (av (by rw [xX hneg])))
 | succ n =>
  have hx:=a9 hla n
  have hst:=vN (p:=p) (show n<l.length by omega) hr
  have hb:r*4294967296+l.getD n 0<18446744073709551616:=by omega
  have hrm:=ms (r*4294967296+l.getD n 0) p hb hp0 X
  have en:((n+1:Nat):Int) - 1=(n:Nat):=by omega
  rw [en]
  refine ae (ae (ai (AQ Z (AP (sT X (eU Z Z)) (AT (aa (aP Z (az (aa ?_)))))))))
  refine ae (aw (ai (AQ Z (AP (oe Z X) (AP (aj Z) (AP (am 0 Z Z Z) (AQ Z (AP (aR Z Z X) (AP (bj Z) ?_)))))))))
  refine AP (bX Z X) (AP (jt Z Z X X) (AQ Z ?_))
  refine AP (ao (hrm) Z ⟨A,A,AU⟩) ?_
  refine AR Z (AT (aK (aa (ai (AQ Z (AP (eu Z Z (aT X X)) (AR Z (AT ?_))))))))
  refine aZ ((n,(r*4294967296+l.getD n 0) % p)) (⟨by omega,hst⟩) X AL (.keep AO (.nil))
end Tor
end
section
namespace Tor
open Go Go.RowKit Go.Proofs
variable [Tor.Co.Kc]
def c6:Nat→Nat→Nat→Nat × Nat
 | 0, o, t => (o, t)
 | f + 1, o, t => if o % 2 = 0 then c6 f (o / 2) (t + 1) else (o, t)
def sqrF (n:Nat):Nat→Nat→Bool
 | 0, _ => false
 | c + 1, x => if x * x % n = n - 1 then true else sqrF n c (x * x % n)
def gY (n:Nat) (O T b:Nat):Bool:=decide (b^O % n=1) || decide (b^O % n=n - 1) || sqrF n (T - 1) (b^O % n)
def dz (j:Nat):Nat := [2,3,5,7].getD j 0
def ip (n O T:Nat):Nat→Nat→Bool
 | 0, _ => true
 | c + 1, j => if n = dz j then true else gY n O T (dz j) && ip n O T c (j + 1)
def a7 (n:Nat):Bool:=if n<2∨2147483648≤n then false else if n % 2=0 then decide (n=2) else
 ip n (c6 32 (n - 1) 0).1 (c6 32 (n - 1) 0).2 4 0
theorem jG : ∀ (f o t:Nat),0<o→o<2^f→(c6 f o t).1 % 2=1∧0<(c6 f o t).1∧(c6 f o t).1≤o∧(c6 f o t).2≤t+f
 | 0, o, t, h1, h2 => by simp at h2; omega
 | f + 1, o, t, h1, h2 => by
  rw [c6]
  split
  ·have:=jG f (o / 2) (t+1) X (by rw [Nat.pow_succ] at h2;omega)
   omega
  ·simp only;omega
theorem mu (j:Nat):dz j≤7∧(j<4→2≤dz j):=by
 unfold dz
 match j with
 | 0 => decide
 | 1 => decide
 | 2 => decide
 | 3 => decide
 | j + 4 => simp
structure BasR (n:Nat) (O T i:Nat):Prop where
 le:i≤4
 ne : ∀ j,j<i→n≠dz j
 eq:ip n O T 4 0=ip n O T (4 - i) i
theorem BasR.next {n O T i:Nat} (h:BasR n O T i) (hi:i<4) (hn:n≠dz i) (hs:gY n O T (dz i)=true):BasR n O T (i+1):=by
 refine ⟨hi,fun j hj => ?_,?_⟩
 ·rcases Nat.lt_or_eq_of_le (Nat.lt_succ_iff.1 hj) with h' | h'
  ·exact h.ne j h'
  ·rw [h']; exact hn
 ·rw [h.eq,show 4 - i=(4 - (i+1))+1 by omega,ip,if_neg hn,hs]; rfl
theorem BasR.hit {n O T i:Nat} (h:BasR n O T i) (hi:i<4) (hn:n=dz i):ip n O T 4 0=true:=by
 rw [h.eq,show 4 - i=(4 - (i+1))+1 by omega,ip,if_pos hn]
theorem BasR.miss {n O T i:Nat} (h:BasR n O T i) (hi:i<4) (hn:n≠dz i) (hs:gY n O T (dz i)=false):ip n O T 4 0=false:=by
 rw [h.eq,show 4 - i=(4 - (i+1))+1 by omega,ip,if_neg hn,hs]; rfl
theorem BasR.end {n O T:Nat} (h:BasR n O T 4):ip n O T 4 0=true:=by rw [h.eq]; rfl
theorem BasR.lt {n O T i:Nat} (h:BasR n O T i) (hi:i<4) (hn:n≠dz i) (h2:2<n) (ho:n % 2=1):dz i<n:=by
 have h0:=h.ne
 match i,hi with
 | 0, _ => show 2 < n; omega
 | 1, _ => have : n ≠ 3 := hn; show 3 < n; omega
 | 2, _ => have : n ≠ 5 := hn; have : n ≠ 3 := h0 1 X; show 5 < n; omega
 | 3, _ => have : n ≠ 7 := hn; have : n ≠ 3 := h0 1 X; have : n ≠ 5 := h0 2 X; show 7 < n; omega
attribute [local irreducible] J PJ aB one slT bJ bB bv exT cd eP aQ aI slV VT.le Ret bN
set_option maxRecDepth 20000 in
theorem fc (n:Nat) (hn64:n<18446744073709551616):Ok Tryz.prog 49 [one (.int .u64 n)] (one (.bool (a7 n))):=by
 refine Ok.enter Tryz.func49 Z Tryz.ntmps49 Z (fun w O => ?_)
 unfold a7
 by_cases h1:n<2
 ·rw [if_pos (.inl h1)]
  refine ae (ai (AR Z (AT (aa (gP (ae (ae (ai (AQ Z ?_)))))))))
  refine AP (sT X (bH Z Z)) (AQ Z (sg0 Z Z Z Z (sg0 Z Z Z Z (AP (bP Z Z) (AT (aa (aP Z (ae (ai ?_)))))))))
  refine AR Z (AT (aa (aH (aL (dY ?_)))))
  refine aX Tryz.results49 (.tmp Z A)
 ·by_cases h2:2147483648≤n
  ·rw [if_pos (.inr h2)]
   refine ae (ai (AR Z (AT (aa (gP (ae (ae (ai (AQ Z ?_)))))))))
   refine AP (sF X (bH Z Z)) (AQ Z (AS (ab Z) (AS (sT X (eU Z Z)) (AP (bY Z Z) (AT (aa (aP Z (ae (ai ?_)))))))))
   refine AR Z (AT (aa (aH (aL (dY ?_)))))
   refine aX Tryz.results49 (.tmp Z A)
  ·rw [if_neg X]
   by_cases h3:n % 2=0
   ·rw [if_pos h3]
    refine ae (ai (AR Z (AT (aa (gP (ae (ae (ai (AQ Z ?_)))))))))
    refine AP (sF X (bH Z Z)) (AQ Z (AS (ab Z) (AS (sF X (eU Z Z)) (AP (bY Z Z) (AT (aa (aE Z (az (aa ?_)))))))))
    refine ae (ae (ai (AQ Z (AP (cK 2 Z Z Z U) (AP (sT X (cQ Z Z)) (AT (aa (aP Z (ae ?_)))))))))
    refine ai (AQ Z (AP (cQ Z Z) (AR Z (AT (aa (aH (aL (dY ?_))))))))
    refine aX Tryz.results49 (.tmp Z (av (by congr 1;rw [decide_eq_decide]; omega)))
   ·rw [if_neg h3]
    obtain ⟨s1,s2,s3,s4⟩:=jG 32 (n - 1) 0 X X
    have hST:c6 32 (n - 1) 0=((c6 32 (n - 1) 0).1,(c6 32 (n - 1) 0).2):=rfl
    generalize (c6 32 (n - 1) 0).1=OO at *
    generalize (c6 32 (n - 1) 0).2=TT at *
    have hn1:1≤n:=by omega
    refine ae (ai (AR Z (AT (aa (gP (ae (ae (ai (AQ Z ?_)))))))))
    refine AP (sF X (bH Z Z)) (AQ Z (AS (ab Z) (AS (sF X (eU Z Z)) (AP (bY Z Z) (AT (aa (aE Z (az (aa ?_)))))))))
    refine ae (ae (ai (AQ Z (AP (cK 2 Z Z Z U) (AP (sF X (cQ Z Z)) (AT (aa (aE Z (az ?_)))))))))
    refine aa (ae (ai (AQ Z (AP (jy 1 Z Z X X) (AR Z (AR Z (AT (aa (ae ?_)))))))))
    refine aw (cD (Γ' := [(0,_),(2,_),(3,_),(4,_)]) AK (SubM.refl _) ?_)
    refine bS (σ:=Nat × Nat × Nat) (Γk := [(0,_),(2,_)]) AK (fun p => [(3,one (.int .u64 (p.1:Nat))),(4,one (.int .i64 (p.2.1:Nat)))]) (fun p M0=>M0) (fun p=>c6 p.2.2 p.1 p.2.1=(OO,TT)∧0<p.1∧p.1<2^p.2.2∧p.2.1+p.2.2=32) (fun p=>p.1) ((n - 1,0,32)) (⟨hST,(by omega:0<n - 1),(by omega:n - 1<2^32),rfl⟩) AL (.nil) (fun p hp => ?_)
    refine co (Γ' := [(3,_),(4,_),(0,_),(2,_)]) (M' := []) Z Z ?_
    obtain ⟨o,t,f⟩:=p
    dsimp only at hp ⊢
    obtain ⟨p1,p2,p3,p4⟩:=hp
    have ho31:o<4294967296:=Nat.lt_of_lt_of_le p3 (Nat.pow_le_pow_right (n:=2) U (show f≤32 by omega))
    by_cases ho:o % 2=0
    ·have hf0:f≠0:=fun h=>by rw [h] at p3;simp at p3;omega
     obtain ⟨g,rfl⟩ : ∃ g,f=g+1:=⟨f - 1,by omega⟩
     rw [c6,if_pos ho] at p1
     have p5:o / 2<2^g:=by rw [Nat.pow_succ] at p3;omega
     refine ae (ae (ai (AQ Z (AP (cK 2 Z Z Z U) (AP (sT X (cQ Z Z)) (AT (aa (aP Z (az ?_)))))))))
     refine aa (aw (ae (ai (AQ Z (AP (lU Z Z X U) (AR Z (AT (aa (ai ?_)))))))))
     refine AQ Z (AP (bV _ 1 Z Z X) (AR Z (AT (aK ?_))))
     refine aZ ((o / 2,t+1,g)) (⟨p1,(by omega:0<o / 2),p5,(by omega:t+1+g=32)⟩) X AL (.nil)
    ·have e2:c6 f o t=(o,t):=by cases f <;> simp [c6,ho]
     rw [e2] at p1
     obtain ⟨rfl,rfl⟩:=Prod.mk.inj p1
     refine ae (ae (ai (AQ Z (AP (cK 2 Z Z Z U) (AP (sF X (cQ Z Z)) (AT (aa (aE Z (a8 ?_)))))))))
     refine ay (ay (aM (aa (ae (lm (aa (ae (ae (ai ?_)))))))))
     refine stB Z Z Z (BuildK.cons Z Z Z (BuildK.cons Z Z Z (BuildK.cons Z Z Z (BuildK.cons Z Z Z (BuildK.nil (AQ Z (AT (aa (aw ?_)))))))))
     refine cD (Γ' := [(0,_),(2,_),(3,_),(4,_),(28,_),(29,_)]) AK (SubM.refl _) ?_
     refine bS (σ:=Nat) (Γk := [(0,_),(3,_),(4,_),(28,_)]) AK (fun i => [(29,one (.int .i64 (i:Nat)))]) (fun i M0=>M0) (fun i=>BasR n o t i) (fun i=>4 - i) (0) (⟨by decide,fun j hj=>absurd hj (Nat.not_lt_zero j),rfl⟩) AL (.nil) (fun i hi => ?_)
     refine co (Γ' := [(29,_),(0,_),(3,_),(4,_),(28,_)]) (M' := []) Z Z ?_
     have hile:=hi.le
     refine ae (ai (AP (bH Z Z) (AT (aa (ae ?_)))))
     refine kE Z (fun hc => ?_) (fun hc => ?_)
     ·have hi4:i<4:=by omega
      have hbl:=mu i
      refine az (aa (ae (aw (ae (ai ?_)))))
      refine AP (tT (fun j=>one (.int .u64 (dz j:Nat))) Z Z hi4 (fun j hj=>by rcases (show j=0∨j=1∨j=2∨j=3 by omega) with rfl | rfl | rfl | rfl <;> rfl)) ?_
      refine AR Z (AT (aa (ae (ae (ai (AQ Z (AQ Z (AP (cQ Z Z) (AT ?_)))))))))
      refine aa ?_
      refine kE Z (fun hnb => ?_) (fun hnb => ?_)
      ·rw [hi.hit hi4 X]
       refine ae (ai (AR Z (AT (aa (aH (aL (bq (aL (aL ?_)))))))))
       refine bq (aL (dY ?_))
       refine aX Tryz.results49 (.tmp Z A)
      ·have hnb':n≠dz i:=by omega
       have hlt:=hi.lt hi4 hnb' X X
       have hpw:=sP n (dz i) o X hlt X
       have hxl:dz i^o % n<n:=Nat.mod_lt _ X
       have hss:gY n o t (dz i)=(decide (dz i^o % n=1) || decide (dz i^o % n=n - 1) || sqrF n (t - 1) (dz i^o % n)):=rfl
       generalize dz i^o % n=x0 at *
       clear p3 p4 ho31 s3 e2 p1 hST
       by_cases c1:x0=1
       ·have hst:=hi.next hi4 hnb' (by rw [hss,decide_eq_true c1]; rfl)
        refine az (aa (ae (ai (AQ Z (AQ Z (AQ Z ?_))))))
        refine AP (ao (hpw) Z ⟨A,A,A,AU⟩) ?_
        refine AR Z (AT (aa (ae (ae (ai (AQ Z (AP (sT X (cQ Z Z)) (AQ Z (sg0 Z Z Z Z ?_)))))))))
        refine sg0 Z Z Z Z (sg0 Z Z Z Z (sg0 Z Z Z Z (AP (bP Z Z) (AT (aa (aP Z (a8 (ay (aM ?_)))))))))
        refine aa (ai (AP (bV _ 1 Z Z X) (AQ Z (AT ?_))))
        refine aZ (i+1) (hst) X AL (.nil)
       ·by_cases c2:x0=n - 1
        ·have hst:=hi.next hi4 hnb' (by rw [hss,decide_eq_true c2,Bool.or_true]; rfl)
         refine az (aa (ae (ai (AQ Z (AQ Z (AQ Z ?_))))))
         refine AP (ao (hpw) Z ⟨A,A,A,AU⟩) ?_
         refine AR Z (AT (aa (ae (ae (ai (AQ Z (AP (sF X (cQ Z Z)) (AQ Z (AS (ab Z) ?_)))))))))
         refine AS (ab Z) (AS (jy 1 Z Z X X) (AS (sT X (cQ Z Z)) (AP (bY Z Z) (AT (aa (aP Z (a8 (ay (aM ?_)))))))))
         refine aa (ai (AP (bV _ 1 Z Z X) (AQ Z (AT ?_))))
         refine aZ (i+1) (hst) X AL (.nil)
        ·rw [decide_eq_false c1,decide_eq_false c2] at hss
         simp only [Bool.false_or] at hss
         refine az (aa (ae (ai (AQ Z (AQ Z (AQ Z ?_))))))
         refine AP (ao (hpw) Z ⟨A,A,A,AU⟩) ?_
         refine AR Z (AT (aa (ae (ae (ai (AQ Z (AP (sF X (cQ Z Z)) (AQ Z (AS (ab Z) ?_)))))))))
         refine AS (ab Z) (AS (jy 1 Z Z X X) (AS (sF X (cQ Z Z)) (AP (bY Z Z) (AT (aa (aE Z (az (aa (ae ?_)))))))))
         refine ae (ai (AQ Z (AP (eu Z Z (aT X X)) (AQ Z (AT (aa (aw (cD (Γ' := [(0,_),(3,_),(4,_),(7,_),(28,_),(29,_),(48,_),(49,_)]) AK (SubM.refl _) ?_))))))))
         refine bS (σ:=Nat × Nat) (Γk := [(0,_),(3,_),(4,_),(28,_),(29,_),(48,_)]) AK (fun q => [(49,one (.int .i64 (q.1:Nat))),(7,one (.int .u64 (q.2:Nat)))]) (fun q M0=>M0) (fun q=>q.2<n∧sqrF n (t - 1) x0=sqrF n (t - 1 - q.1) q.2) (fun q=>t - 1 - q.1) ((0,x0)) (⟨hxl,rfl⟩) AL (.nil) (fun q hq => ?_)
         refine co (Γ' := [(49,_),(7,_),(0,_),(3,_),(4,_),(28,_),(29,_),(48,_)]) (M' := []) Z Z ?_
         obtain ⟨j,x⟩:=q
         dsimp only at hq ⊢
         obtain ⟨q1,q2⟩:=hq
         by_cases hj:j<t - 1
         ·rw [show t - 1 - j=(t - 1 - (j+1))+1 by omega,sqrF] at q2
          have hxx:x*x % n<n:=Nat.mod_lt _ X
          by_cases c3:x*x % n=n - 1
          ·rw [if_pos c3] at q2
           have hst:=hi.next hi4 hnb' (hss.trans q2)
           have e3:((x*x % n:Nat):Int)=((n - 1:Nat):Int):=by rw [c3]
           refine ae (ai (AP (sT X (bH Z Z)) (AT (aa (ae (aP Z (az (aa (ae ?_)))))))))
           refine aw (ae (ai (AQ Z (AQ Z (AQ Z ?_)))))
           refine AP (ao (fQ _ _ _ (by assumption) X X X) Z ⟨A,A,A,AU⟩) ?_
           refine AR Z (AT (aa (ae (ai (AQ Z (AQ Z (AP (jy 1 Z Z X X) (AP (sT (by assumption) (cQ Z Z)) (AT ?_)))))))))
           refine aa (aP Z (a8 (dm Z (ay (ay (dm Z (ay (aM (aa ?_)))))))))
           refine ai (AP (bV _ 1 Z Z X) (AQ Z (AT ?_)))
           refine aZ (i+1) (hst) X AL (.nil)
          ·rw [if_neg c3] at q2
           refine ae (ai (AP (sT X (bH Z Z)) (AT (aa (ae (aP Z (az (aa (ae ?_)))))))))
           refine aw (ae (ai (AQ Z (AQ Z (AQ Z ?_)))))
           refine AP (ao (fQ _ _ _ (by assumption) X X X) Z ⟨A,A,A,AU⟩) ?_
           refine AR Z (AT (aa (ae (ai (AQ Z (AQ Z (AP (jy 1 Z Z X X) (AP (sF X (cQ Z Z)) (AT ?_)))))))))
           refine aa (aE Z (az (aK (aa (ai (AP (bV _ 1 Z Z X) (AQ Z (AT ?_))))))))
           refine aZ ((j+1,x*x % n)) (⟨hxx,q2⟩) X AL (.nil)
         ·have hf:gY n o t (dz i)=false:=by rw [hss,q2,show t - 1 - j=0 by omega]; rfl
          rw [hi.miss hi4 hnb' hf]
          refine ae (ai (AP (sF X (bH Z Z)) (AT (aa (ae (aE Z (a8 (ay (ay ?_)))))))))
          refine aM (aa (ae (ai (AR Z (AT (aa (aH (bq (aL ?_)))))))))
          refine aL (bq (aL (dY ?_)))
          refine aX Tryz.results49 (.tmp Z A)
     ·have:i=4:=by omega
      subst this
      rw [hi.end]
      refine a8 (ay (ay (aM (aa (ae (ai (AR Z (AT (aa ?_)))))))))
      refine aH (dY ?_)
      refine aX Tryz.results49 (.tmp Z A)
end Tor
end
section
namespace Tor
variable [Tor.Co.Kc]
def kN:Nat→Nat→Nat→Nat→Nat→Nat
 | 0, _, r, _, _ => r
 | f + 1, p, r, a, e => if e = 0 then r else kN f p (if e % 2 = 1 then r * a % p else r) (a * a % p) (e / 2)
theorem oB : ∀ (f:Nat) {p v r a e:Nat},e<2^f→PowR p v (r,a,e)→kN f p r a e=v
 | 0, p, v, r, a, e, h, hR => by
  have:e=0:=by simpa using h
  subst this;exact hR.done
 | f + 1, p, v, r, a, e, h, hR => by
  rw [kN]
  by_cases h0:e=0
  ·subst h0;rw [if_pos Z]; exact hR.done
  ·rw [if_neg h0]
   have h2:e / 2<2^f:=by rw [Nat.pow_succ] at h;omega
   by_cases h1:e % 2=1
   ·rw [if_pos h1]; exact oB f h2 (hR.odd h1)
   ·rw [if_neg h1]; exact oB f h2 (hR.even h1)
def dc (n O T b:Nat):Bool:=decide (kN 64 n (1 % n) b O=1) || decide (kN 64 n (1 % n) b O=n - 1) || sqrF n (T - 1) (kN 64 n (1 % n) b O)
theorem t7 {n O T b:Nat} (hb:b<n) (hO:O<18446744073709551616):gY n O T b=dc n O T b:=by
 have:=oB 64 (e:=O) hO (PowR.start (p:=n) X hb hO)
 unfold gY dc
 rw [this]
def nx (n O T:Nat):Nat→Nat→Bool
 | 0, _ => true
 | c + 1, j => if n = dz j then true else dc n O T (dz j) && nx n O T c (j + 1)
theorem sR {n O T:Nat} (h7:7<n) (hO:O<18446744073709551616) : ∀ c j,ip n O T c j=nx n O T c j
 | 0, _ => rfl
 | c + 1, j => by
  have hb:=(mu j).1
  rw [ip,nx,t7 X hO,sR h7 hO c (j+1)]
def oC (n:Nat):Bool:=if n<2∨2147483648≤n then false else if n % 2=0 then decide (n=2) else
 nx n (c6 32 (n - 1) 0).1 (c6 32 (n - 1) 0).2 4 0
theorem p9 {n:Nat} (h7:7<n):a7 n=oC n:=by
 unfold a7 oC
 by_cases h1:n<2∨2147483648≤n
 ·rw [if_pos h1,if_pos h1]
 ·rw [if_neg h1,if_neg h1]
  by_cases h2:n % 2=0
  ·rw [if_pos h2,if_pos h2]
  ·rw [if_neg h2,if_neg h2]
   have:=jG 32 (n - 1) 0 X X
   exact sR h7 X 4 0
end Tor
end
section
namespace Tor
open Go Go.RowKit Go.Proofs
variable [Tor.Co.Kc]
def lf (v:Nat):Nat:=if v=0 then 0 else 32*((aS v).length - 1)+fp ((aS v).getD ((aS v).length - 1) 0)
attribute [local irreducible] J PJ aB one slT bJ bB bv exT cd eP aQ aI slV VT.le Ret bN
end Tor
end
