/-
  Theorems that the proofs of laws of this seat rest on.
  No condition.
-/
import Derived.Test.YtfaglimgjfhdfaaGreatZN4
set_option maxHeartbeats 20000000
set_option linter.unusedVariables false
set_option linter.unusedSimpArgs false
set_option linter.unusedSectionVars false
section
namespace Tor
open Go Go.RowKit Go.Proofs
variable [Tor.Co.Kc]
structure RTimesR (lx ly zz:List Nat) (i:Nat):Prop where
 le:i≤lx.length
 len:zz.length=lx.length+ly.length+1
 lim:bq zz
 zero : ∀ k,i+ly.length≤k→zz.getD k 0=0
 val:lv zz=lv (lx.take i)*lv ly
structure RTimesI (lx ly z0 zz:List Nat) (i j c:Nat):Prop where
 le:j≤ly.length+1
 top:ly.length<j→c=0
 len:zz.length=lx.length+ly.length+1
 lim:bq zz
 zero : ∀ k,i+ly.length<k→zz.getD k 0=0
 zer1:j≤ly.length→zz.getD (i+ly.length) 0=0
 c1:c<4294967296
 val:lv zz+4294967296^(i+j)*c=lv z0+4294967296^i*(lx.getD i 0*lv (ly.take j))
theorem RTimesI.step {lx ly z0 zz:List Nat} {i j c:Nat} (h:RTimesI lx ly z0 zz i j c) (hx:bq lx) (hy:bq ly) (hi:i<lx.length) (hgo:j<ly.length∨0<c) :
  RTimesI lx ly z0 (zz.set (i+j) ((c+zz.getD (i+j) 0+lx.getD i 0*ly.getD j 0) % 4294967296)) i (j+1) ((c+zz.getD (i+j) 0+lx.getD i 0*ly.getD j 0) / 4294967296):=by
 have hj:j≤ly.length:=by have:=h.le;have:=h.top;omega
 have hlim:=kB (a6 hx i) (a6 hy j) (a6 h.lim (i+j)) h.c1
 have hlt:i+j<zz.length:=by rw [h.len]; omega
 refine ⟨by omega,fun ht => ?_,by rw [List.length_set]; exact h.len,h.lim.set X,fun k hk => ?_,fun hk => ?_,by omega,?_⟩
 ·have e:j=ly.length:=by omega
  subst e
  rw [h.zer1 (Nat.le_refl _)]
  have e2:ly.getD ly.length 0=0:=by simp
  rw [e2,Nat.mul_zero]
  have:=h.c1;omega
 ·rw [dC hlt,if_neg X]; exact h.zero k hk
 ·rw [dC hlt,if_neg X]; exact h.zer1 X
 ·have hs:=fk (l:=zz) (k:=i+j) (v:=(c+zz.getD (i+j) 0+lx.getD i 0*ly.getD j 0) % 4294967296) hlt
  have hv:=h.val
  rw [gy]
  generalize lx.getD i 0=x at *
  generalize ly.getD j 0=y at *
  generalize zz.getD (i+j) 0=z at *
  have e:c+z+x*y=4294967296*((c+z+x*y) / 4294967296)+(c+z+x*y) % 4294967296:=by omega
  generalize (c+z+x*y) / 4294967296=q at *
  generalize (c+z+x*y) % 4294967296=r at *
  rw [show i+(j+1)=(i+j)+1 by omega,Nat.pow_succ]
  have eB:4294967296^i*4294967296^j=4294967296^(i+j):=(Nat.pow_add _ _ _).symm
  have e3:4294967296^i*(x*(lv (ly.take j)+4294967296^j*y))=4294967296^i*(x*lv (ly.take j))+4294967296^(i+j)*(x*y):=by
   rw [Nat.mul_add,Nat.mul_add, ← eB]
   congr 1
   rw [Nat.mul_assoc]; congr 1
   rw [Nat.mul_left_comm]
  rw [e3]
  generalize 4294967296^(i+j)=B at *
  have e2:B*(c+z+x*y)=B*(4294967296*q+r):=by rw [e]
  simp only [Nat.mul_add, ← Nat.mul_assoc] at e2 ⊢ hs hv
  omega
theorem RTimesR.start {lx ly z0:List Nat} {i:Nat} (h:RTimesR lx ly z0 i):RTimesI lx ly z0 z0 i 0 0 :=
 ⟨Nat.zero_le _,fun _=>rfl,h.len,h.lim,fun k hk=>h.zero k X,fun _=>h.zero _ (Nat.le_refl _),by omega,by simp [lv]⟩
theorem RTimesI.finish {lx ly z0 zz:List Nat} {i j:Nat} (h0:RTimesR lx ly z0 i) (h:RTimesI lx ly z0 zz i j 0) (hj:ly.length≤j) (hi:i<lx.length):RTimesR lx ly zz (i+1):=by
 refine ⟨hi,h.len,h.lim,fun k hk=>h.zero k X,?_⟩
 have hv:=h.val
 rw [Nat.mul_zero,Nat.add_zero,List.take_of_length_le hj,h0.val] at hv
 rw [hv,bF hi,Nat.add_mul,Nat.mul_assoc]
attribute [local irreducible] J PJ aC one slT bL bE bw exT cj eP aT aH slV VT.le Ret bQ
attribute [local irreducible] aU
theorem yL (n1 n2:Bool) (v1 v2:Nat) (h1:(aQ v1).length≤1099511627776) (h2:(aQ v2).length≤1099511627776):Ok Tryz.prog 16 [sgT n1 v1,sgT n2 v2] (aU (sv n1 v1*sv n2 v2)):=by
 unfold sgT
 refine Ok.enter Tryz.func16 Z Tryz.ntmps16 Z (fun w O => ?_)
 have hx:=a7 v1
 have hy:=a7 v2
 have hva:=bR v1
 have hvb:=bR v2
 generalize aQ v1=lx at *
 generalize aQ v2=ly at *
 refine ae (ai ?_)
 refine bJ Z Z (ltN Z) (fun b => ?_)
 refine bJ Z Z (ltN Z) (fun b => ?_)
 refine aN (T:=28) Z (ltN Z) (fun b => ?_)
 refine Cf (aa (ae (ai (Cb (aj Z) (Cb (am 2 Z Z Z) (Cb (a9 Z) (Cb (aj Z) (Cb (am 1 Z Z Z) (Cb (a9 Z) ?_)))))))))
 (refine Cb (cz Z Z (aR ?_ ?_)) ?_;omega;omega)
 (refine Cb (cz Z Z (aR ?_ ?_)) ?_;omega;omega)
 rename_i ba bb
 refine cA (lx.length+ly.length+1) (lx.length+ly.length+1) Z Z (by simp) (by simp) (Nat.le_refl _) Z Z X Z Z (fun bz => ?_)
 refine Cd Z (Cf (aa (ae (ae (ai (Cd Z (Cf (aa (aw ?_)))))))))
 refine c6 (σ:=List Nat × Nat) (fun s => [(2,one (.pointer (some ⟨ba,0,none⟩))),(3,one (.pointer (some ⟨bb,0,none⟩))),(4,one (.pointer (some ⟨b,0,none⟩))),(5,one (slV (some bz) (lx.length+ly.length+1) (lx.length+ly.length+1))),(6,one (.int .i64 (s.2:Nat)))])
   (fun s => [aH (some bz) 83 .one (lx.length+ly.length+1) (lx.length+ly.length+1) (fun q=>one (.int .u32 (s.1.getD q 0:Nat))),aT b 28 2 [(0, .agg 2,one (.agg #[.bool false, .slice none 0 0]))],aT bb 28 2 [(0, .one,one (.bool n2)),(1, .one,ch ly)],aT ba 28 2 [(0, .one,one (.bool n1)),(1, .one,ch lx)]])
   (fun s=>RTimesR lx ly s.1 s.2) (fun s=>lx.length - s.2) (List.replicate (lx.length+ly.length+1) 0,0)
   ⟨Nat.zero_le _,by simp,bq.replicate _,fun k _=>co _ _,by simp [dP,lv]⟩ BY (.keep (bV (fun q _=>by rw [co]; rfl)) (SubM.refl _)) (fun s hR => ?_)
 obtain ⟨z0,i⟩:=s
 simp only at hR ⊢
 refine ae (ae (ai (Cc Z (Cb (aj Z) (Cb (am 3 Z Z Z) (Cb (a9 Z) (Cb (bD Z Z) (Cf (aa ?_)))))))))
 refine bv Z (fun hc => ?_) (fun hc => ?_) <;> simp at hc
 ·have g1:=a6 hx i
  refine ay (aa (ae (aw (ae (ai (Cd Z (Cf (aa (ae ?_)))))))))
  refine ai (Cd Z (Cf (aa (aw ?_))))
  refine c6 (σ:=List Nat × Nat × Nat) (fun s => [(2,one (.pointer (some ⟨ba,0,none⟩))),(3,one (.pointer (some ⟨bb,0,none⟩))),(4,one (.pointer (some ⟨b,0,none⟩))),(5,one (slV (some bz) (lx.length+ly.length+1) (lx.length+ly.length+1))),(6,one (.int .i64 (i:Nat))),(7,one (.int .u64 (s.2.2:Nat))),(8,one (.int .i64 (s.2.1:Nat)))])
   (fun s => [aH (some bz) 83 .one (lx.length+ly.length+1) (lx.length+ly.length+1) (fun q=>one (.int .u32 (s.1.getD q 0:Nat))),aT b 28 2 [(0, .agg 2,one (.agg #[.bool false, .slice none 0 0]))],aT bb 28 2 [(0, .one,one (.bool n2)),(1, .one,ch ly)],aT ba 28 2 [(0, .one,one (.bool n1)),(1, .one,ch lx)]])
   (fun s=>RTimesI lx ly z0 s.1 i s.2.1 s.2.2) (fun s=>ly.length+1 - s.2.1) (z0,0,0)
   hR.start BY (SubM.refl _) (fun s hI => ?_)
  obtain ⟨zz,j,c⟩:=s
  simp only at hI ⊢
  have g0:=hI.c1
  have gj:=hI.le
  refine ae (ae ?_)
  refine eW (σ:=Unit) (fun _ => [(2,one (.pointer (some ⟨ba,0,none⟩))),(3,one (.pointer (some ⟨bb,0,none⟩))),(4,one (.pointer (some ⟨b,0,none⟩))),(5,one (slV (some bz) (lx.length+ly.length+1) (lx.length+ly.length+1))),(6,one (.int .i64 (i:Nat))),(7,one (.int .u64 (c:Nat))),(8,one (.int .i64 (j:Nat))),(33,one (.bool (decide (j<ly.length∨0<c))))])
   (fun _ => [aH (some bz) 83 .one (lx.length+ly.length+1) (lx.length+ly.length+1) (fun q=>one (.int .u32 (zz.getD q 0:Nat))),aT b 28 2 [(0, .agg 2,one (.agg #[.bool false, .slice none 0 0]))],aT bb 28 2 [(0, .one,one (.bool n2)),(1, .one,ch ly)],aT ba 28 2 [(0, .one,one (.bool n1)),(1, .one,ch lx)]]) (fun _=>True) ?_ (fun _ _ => ?_)
  ·refine ai (Cc Z (Cb (aj Z) (Cb (am 2 Z Z Z) (Cb (a9 Z) (Cb (bD Z Z) (Cc Z ?_))))))
   refine mq (t:=29) Z (fun bo hb => ?_)
   rw [hb]
   cases bo
   ·simp at hb
    refine Ce (ab Z) (Ce (dx Z Z) (Cb (bT Z Z) (Cf ?_)))
    exact cE () trivial (.cons Z A (.cons Z A (.cons Z A (.cons Z A (.cons Z A (.cons Z A (.cons Z A (.cons Z (av (by congr 1;rw [decide_eq_decide]; omega)) .nil)))))))) (SubM.refl _)
   ·simp at hb
    refine sg0 Z Z Z Z (sg0 Z Z Z Z (Cb (bh Z Z) (Cf ?_)))
    exact cE () trivial (.cons Z A (.cons Z A (.cons Z A (.cons Z A (.cons Z A (.cons Z A (.cons Z A (.cons Z (av (by simp;omega)) .nil)))))))) (SubM.refl _)
  ·refine aa ?_
   refine bv Z (fun hc2 => ?_) (fun hc2 => ?_) <;> simp only [decide_eq_true_eq,decide_eq_false_iff_not] at hc2
   ·have hstep:=hI.step hx hy hc hc2
    have hjl:j≤ly.length:=by have:=hI.top;omega
    have g2:=a6 hy j
    have g3:=a6 hI.lim (i+j)
    have g4:=kB g1 g2 g3 g0
    have hlt:i+j<zz.length:=by rw [hI.len]; omega
    refine ay (aa (ae (aw (ae (ai (Cc Z (Cc Z (Cc Z (Cc Z ?_)))))))))
    (refine Cb (cz Z Z (aR ?_ ?_)) ?_;omega;omega)
    (refine Cb (ar Z Z ?_) ?_;omega)
    (refine Cb (bM 0 Z Z ?_) ?_;omega)
    (refine Cb (cd Z ?_) ?_;omega)
    (refine Cb (d5 Z Z ?_) ?_;omega)
    refine Cd Z (Cf (aa (ae (ae (ai (Cc Z (Cb (aj Z) (Cb (am 2 Z Z Z) (Cb (a9 Z) ?_)))))))))
    refine Cb (bD Z Z) (Cf (aa ?_))
    refine eW (σ:=Unit) (fun _ => [(2,one (.pointer (some ⟨ba,0,none⟩))),(3,one (.pointer (some ⟨bb,0,none⟩))),(4,one (.pointer (some ⟨b,0,none⟩))),(5,one (slV (some bz) (lx.length+ly.length+1) (lx.length+ly.length+1))),(6,one (.int .i64 (i:Nat))),(7,one (.int .u64 (c+zz.getD (i+j) 0+lx.getD i 0*ly.getD j 0:Nat))),(8,one (.int .i64 (j:Nat)))])
     (fun _ => [aH (some bz) 83 .one (lx.length+ly.length+1) (lx.length+ly.length+1) (fun q=>one (.int .u32 (zz.getD q 0:Nat))),aT b 28 2 [(0, .agg 2,one (.agg #[.bool false, .slice none 0 0]))],aT bb 28 2 [(0, .one,one (.bool n2)),(1, .one,ch ly)],aT ba 28 2 [(0, .one,one (.bool n1)),(1, .one,ch lx)]]) (fun _=>True) ?_ (fun _ _ => ?_)
    ·refine bv Z (fun hc3 => ?_) (fun hc3 => ?_) <;> simp only [decide_eq_true_eq,decide_eq_false_iff_not] at hc3
     ·skip
      refine bG 16 bH Y U (Cc Z (Cb (aj Z) (Cb (am 3 Z Z Z) (Cc Z ?_))))
      (refine Cb (aI Z Z ?_) ?_;omega)
      refine Cb (aY Z) ?_
      (refine Cb (cd Z ?_) ?_;omega)
      refine Cb (aj Z) (Cb (am 2 Z Z Z) (Cc Z ?_))
      (refine Cb (aI Z Z ?_) ?_;omega)
      refine Cb (aY Z) ?_
      (refine Cb (cd Z ?_) ?_;omega)
      (refine Cb (jM Z Z ?_) ?_;omega)
      (refine Cb (d5 Z Z ?_) ?_;omega)
      refine Cd Z (Cf (Cf ?_))
      exact cE () trivial BY (SubM.refl _)
     ·have e0:ly.getD j 0=0:=by simp [List.getElem?_eq_none (show ly.length≤j by omega)]
      refine ay ?_
      refine cE () trivial ?_ (SubM.refl _)
      rw [e0,Nat.mul_zero,Nat.add_zero]
      exact BY
    ·refine aa (ae (ai (Cc Z (Cc Z (Cc Z ?_)))))
     (refine Cb (cz Z Z (aR ?_ ?_)) ?_;omega;omega)
     refine Cc Z (Cb (cF Z) ?_)
     (refine Cb (ar Z Z ?_) ?_;omega)
     (refine au 0 Z Z Z ?_ Z ?_;omega)
     refine Cf (aa (ai (Cc Z ?_)))
     (refine Cb (tq Z ?_) ?_;omega)
     refine Cd Z (Cf (aK (aa (ai (Cc Z ?_)))))
     (refine Cb (cz Z Z (aR ?_ ?_)) ?_;omega;omega)
     refine Cd Z (Cf ?_)
     refine cD (s:=(zz,j,c)) (zz.set (i+j) ((c+zz.getD (i+j) 0+lx.getD i 0*ly.getD j 0) % 4294967296),j+1,(c+zz.getD (i+j) 0+lx.getD i 0*ly.getD j 0) / 4294967296) hstep (by show ly.length+1 - (j+1)<ly.length+1 - j;omega) BY (.keep (bV (fun q hq => ?_)) (SubM.refl _))
     unfold upd;rw [dC hlt]; split <;> rfl
   ·have hc0:c=0:=by omega
    subst hc0
    have hfin:=hI.finish hR X hc
    refine a8 (ax (ax (aL (aK (aa (ai (Cc Z ?_)))))))
    (refine Cb (cz Z Z (aR ?_ ?_)) ?_;omega;omega)
    refine Cd Z (Cf ?_)
    exact cD (s:=(z0,i)) (zz,i+1) hfin (by show lx.length - (i+1)<lx.length - i;omega) BY (SubM.refl _)
 ·have hi:i=lx.length:=by have:=hR.le;omega
  refine a8 (ax (ax (aL (aa (ae (ai (Cc Z (Cb (aj Z) (Cb (am 3 Z Z Z) ?_)))))))))
  refine Cb (aj Z) (Cb (am 2 Z Z Z) (Cb (pU Z Z) (ij (t:=74) (j:=0) Z Z ?_)))
  skip
  refine Cb (ao (gw _ (v1*v2)) Z ⟨VT.le_trans (cH (m:=z0.length) (ψ:=fun i=>one (.int .u32 (z0.getD i 0:Nat))) hR.len.symm (fun q hq=>rfl)) (kD (l:=z0) hR.lim ?_ ?_),A,Cg⟩) ?_
  ·rw [hR.val,hi,List.take_length,hva,hvb]
  ·rw [hR.len]; omega
  refine az 0 Z Z Z Z Z (leN Z) Z (Cf (aa (aG ?_)))
  exact aV Tryz.results16 (.cellB 0 Z Z Z (cL (by cases n1 <;> cases n2 <;> simp [sv,Int.neg_mul,Int.mul_neg])))
end Tor
end
section
namespace Tor
open Go Go.RowKit Go.Proofs
variable [Tor.Co.Kc]
def jW (neg:Bool) (l:List Nat):VT:=bE 2 [(0, .one,one (.bool neg)),(1, .one,ch l)]
def fm (neg:Bool) (l:List Nat):Bool:=if l.length=0 then !neg else decide (l.getD (l.length - 1) 0≠0)
theorem wI (x:Int):VT.le (aU x) (jW (decide (x<0)) (aQ x.natAbs)):=VT.le_refl _
attribute [local irreducible] J PJ aC one slT bL bE bw exT cj eP aT aH slV VT.le Ret bQ
theorem uR (neg:Bool) (l:List Nat) (hl:l.length≤4398046511104):Ok Tryz.prog 46 [jW neg l] (one (.bool (fm neg l))):=by
 unfold jW
 refine Ok.enter Tryz.func46 Z Tryz.ntmps46 Z (fun w O => ?_)
 by_cases h0:l.length=0
 ·refine ae (ai ?_)
  refine bJ Z Z (ltN Z) (fun b => ?_)
  refine Cd Z (Cf (aa (ae (ae (ai (Cb (aj Z) (Cb (am 0 Z Z Z) (Cb (a9 Z) (Cb (cQ Z Z) ?_)))))))))
  refine Cf (aa ?_)
  refine bv Z (fun hc => ?_) (fun hc => ?_) <;> simp only [decide_eq_true_eq,decide_eq_false_iff_not] at hc
  ·refine ae (ai (Cb (aj Z) (Cb (am 0 Z Z Z) (Cb (c8 Z) (Cd Z (Cf (aa (aG (aJ ?_)))))))))
   exact aV Tryz.results46 (.tmp Z (av (by unfold fm;rw [if_pos h0])))
  ·omega
 ·refine ae (ai ?_)
  refine bJ Z Z (ltN Z) (fun b => ?_)
  refine Cd Z (Cf (aa (ae (ae (ai (Cb (aj Z) (Cb (am 0 Z Z Z) (Cb (a9 Z) (Cb (cQ Z Z) ?_)))))))))
  refine Cf (aa ?_)
  refine bv Z (fun hc => ?_) (fun hc => ?_) <;> simp only [decide_eq_true_eq,decide_eq_false_iff_not] at hc
  ·omega
  ·refine ay (aa (ae (ai (Cb (aj Z) (Cb (am 0 Z Z Z) (Cb (aj Z) (Cb (am 0 Z Z Z) (Cb (a9 Z) ?_))))))))
   (refine Cb (ef Z Z (aR ?_ ?_)) ?_;omega;omega)
   (refine Cb (ej Z Z ?_ ?_) ?_;omega;omega)
   refine Cb (aY Z) (Cb (ek Z Z) (Cd Z (Cf (aa (aG ?_)))))
   refine aV Tryz.results46 (.tmp Z (av ?_))
   have e:(↑l.length - 1:Int).toNat=l.length - 1:=by omega
   unfold fm;rw [if_neg h0,e]; congr 1;rw [decide_eq_decide]; omega
end Tor
end
section
namespace Tor
open Go Go.RowKit Go.Proofs
variable [Tor.Co.Kc]
def cf (x:Int):Prop:=(aQ x.natAbs).length≤1099511627776
theorem dD {x:Int} (h:x.natAbs<2^2048):cf x:=by
 have:(aQ x.natAbs).length≤64:=dm (Nat.lt_of_lt_of_le h V)
 unfold cf;omega
theorem fZ (x y:Int) (hx:cf x) (hy:cf y):Ok Tryz.prog 86 [aU x,aU y] (aU (x+y)):=by
 have h:=wG (decide (x<0)) (decide (y<0)) x.natAbs y.natAbs hx hy
 rw [fl,fl] at h
 exact h.le ⟨ee _,ee _,Cg⟩ A
theorem yM (x y:Int) (hx:cf x) (hy:cf y):Ok Tryz.prog 90 [aU x,aU y] (aU (x - y)):=by
 have h:=AA (decide (x<0)) (decide (y<0)) x.natAbs y.natAbs hx hy
 rw [fl,fl] at h
 exact h.le ⟨ee _,ee _,Cg⟩ A
theorem f7 (x y:Int) (hx:cf x) (hy:cf y):Ok Tryz.prog 87 [aU x,aU y] (aU (x*y)):=by
 have h:=AB (decide (x<0)) (decide (y<0)) x.natAbs y.natAbs hx hy
 rw [fl,fl] at h
 exact h.le ⟨ee _,ee _,Cg⟩ A
theorem qA (x:Int):Ok Tryz.prog 132 [aU x] (one (.int .i64 (kG x))):=by
 have h:=o4 (decide (x<0)) x.natAbs
 rw [fl] at h
 exact h.le ⟨ee _,Cg⟩ A
theorem jt (x y:Int):Ok Tryz.prog 89 [aU x,aU y] (one (.int .i64 (c4 x y))):=by
 have h:=AC (decide (x<0)) (decide (y<0)) x.natAbs y.natAbs
 rw [fl,fl] at h
 exact h.le ⟨ee _,ee _,Cg⟩ A
theorem kI (x y:Int) (hx:cf x) (hy:cf y):Ok Tryz.prog 15 [aU x,aU y] (aU (x+y)):=by
 have h:=yK (decide (x<0)) (decide (y<0)) x.natAbs y.natAbs hx hy
 rw [fl,fl] at h
 exact h.le ⟨ee _,ee _,Cg⟩ A
theorem g9 (x y:Int) (hx:cf x) (hy:cf y):Ok Tryz.prog 16 [aU x,aU y] (aU (x*y)):=by
 have h:=yL (decide (x<0)) (decide (y<0)) x.natAbs y.natAbs hx hy
 rw [fl,fl] at h
 exact h.le ⟨ee _,ee _,Cg⟩ A
def gS (x:Int):Prop:=x.natAbs≤2^400
theorem wJ {x y:Int} (hx:gS x) (hy:gS y):(x*y).natAbs≤2^800:=by
 rw [Int.natAbs_mul]
 exact Nat.le_trans (Nat.mul_le_mul hx hy) V
theorem gz {x:Int} {n:Nat} (h:x.natAbs≤n) (hn:n<2^2048):cf x:=dD (Nat.lt_of_le_of_lt h hn)
theorem cM {x:Int} (hx:gS x):cf x:=gz hx V
def qB (x:Int):Prop:=(aQ x.natAbs).length≤274877906944
theorem gS.L {x:Int} (h:gS x):qB x:=Nat.le_trans (dm (k:=64) (Nat.lt_of_le_of_lt h V)) U
theorem mM {x:Int} (h:qB x):cf x:=Nat.le_trans h U
theorem AD {x:Int} {k:Nat} (h:(aQ x.natAbs).length≤k):x.natAbs<4294967296^k:=Nat.lt_of_lt_of_le (d6 _) (Nat.pow_le_pow_right U h)
theorem wK {x y:Int} {j k:Nat} (hx:(aQ x.natAbs).length≤j) (hy:(aQ y.natAbs).length≤k):(aQ (x*y).natAbs).length≤j+k:=dm (by
 rw [Int.natAbs_mul,Nat.pow_add]
 have h1:=AD hx
 have h2:=AD hy
 exact Nat.lt_of_le_of_lt (Nat.mul_le_mul_left _ (Nat.le_of_lt h2)) (Nat.mul_lt_mul_of_pos_right h1 (Nat.pow_pos U)))
theorem qC {x y:Int} (hx:qB x) (hy:qB y):(aQ (x*y).natAbs).length≤549755813888:=wK hx hy
theorem uS {x y:Int} (hx:qB x) (hy:qB y):cf (x*y):=Nat.le_trans (qC hx hy) U
theorem nX:cf 1:=dD V
theorem uT {x:Int} (h:cf x):cf (-x):=by unfold cf at *; rw [Int.natAbs_neg]; exact h
theorem o5 (φ:VT):VT.le φ bQ:=fun _ _ _=>trivial
instance {neg:Bool} {l:List Nat} : Flat (jW neg l) (.agg 2):=by unfold jW;infer_instance
attribute [local irreducible] J PJ aC one slT bL bE bw exT cj eP aT aH slV VT.le Ret bQ
theorem wL (l:List Nat) (hl:l.length≤1099511627776):Ok Tryz.prog 167 [ch l] (ch l):=by
 unfold ch
 refine Ok.enter Tryz.func167 Z Tryz.ntmps167 Z (fun w O => ?_)
 refine ae (ai (Cd Z (Cf (aa (ae (ae (ai (Cc Z (Cb (tv Z) ?_)))))))))
 refine Cf (aa ?_)
 refine yv (t:=4) Z (fun b => ?_)
 refine tn (t:=4) Z (fun hb => ?_)
 refine bv Z (fun hc => ?_) (fun hc => ?_)
 ·have h0:=hb hc
  refine ae (ai (Cd Z (Cf (aa (aG (aJ ?_))))))
  refine aV Tryz.results167 (.tmp Z (by (rw [h0]; exact gL)))
 ·refine ay (aa (ae (ai (oJ (n:=0) Z Z Z Z Z ?_))))
  refine PartsK.nil (fun bl => ?_)
  refine Cc Z ?_
  (refine dB 0 Z Z Z (leN Z) ?_ ?_ Z (ltN Z) (fun sv7 cap7 => ?_);omega;omega)
  refine Cd Z (Cf (aa (aG (dh (t:=2) (i:=0) Z Z ?_))))
  refine aV Tryz.results167 (.tmp Z (cH (by simp) (fun i hi=>by simp)))
theorem uU {n:Nat} (h:(aQ n).length≤1099511627776):VT.le (ch (aQ n)) (uP n):=kD (a7 n) (bR n) X
theorem qD (x:Int) (hx:cf x):Ok Tryz.prog 31 [aU x] (aU (-x)):=by
 have hv:=(gw (!decide (x<0)) x.natAbs).le (gl _) (cL (y := -x) (by by_cases h:x<0 <;> simp [h] <;> omega))
 have hx:(aQ x.natAbs).length≤1099511627776:=hx
 unfold aU at *
 refine Ok.enter Tryz.func31 Z Tryz.ntmps31 Z (fun w O => ?_)
 refine ae (ai ?_)
 refine bJ Z Z (ltN Z) (fun b1 => ?_)
 refine aN (T:=28) Z (ltN Z) (fun b2 => ?_)
 refine Cf (aa (ae (ai (Cb (aj Z) (Cb (am 1 Z Z Z) (Cb (aj Z) (Cb (am 1 Z Z Z) (Cb (c8 Z) ?_))))))))
 refine Cb (ao (hv) Z ⟨(uU hx),A,Cg⟩) ?_
 refine az 0 Z Z Z Z Z (leN Z) Z (Cf (aa (aG ?_)))
 refine aV Tryz.results31 (.cellB 0 Z Z Z A)
end Tor
end
section
namespace Tor
open Go Go.RowKit Go.Proofs
variable [Tor.Co.Kc]
def gA:Nat→Nat→Nat
 | 0, _ => 0
 | f + 1, x => if x = 0 then 0 else gA f (x / 2) + 1
def fH (x:Nat):Nat:=gA 64 x
theorem gB : ∀ (f x:Nat),x<2^f→x<2^gA f x∧(x=0→gA f x=0)∧(x≠0→0<gA f x∧2^(gA f x - 1)≤x)∧gA f x≤f
 | 0, x, h => by simp at h; subst h; simp [gA]
 | f + 1, x, h => by
  rw [gA]
  split
  ·rename_i h0;subst h0;simp
  ·rename_i h0
   have h1:x / 2<2^f:=by rw [Nat.pow_succ] at h;omega
   obtain ⟨i1,i2,i3,i4⟩:=gB f (x / 2) h1
   refine ⟨by rw [Nat.pow_succ]; omega,fun h=>absurd h h0,fun _=>⟨by omega,?_⟩,by omega⟩
   rw [Nat.add_sub_cancel]
   by_cases h2:x / 2=0
   ·rw [i2 h2]; simp;omega
   ·obtain ⟨j1,j2⟩:=i3 h2
    obtain ⟨m,hm⟩ : ∃ m,gA f (x / 2)=m+1:=⟨gA f (x / 2) - 1,by omega⟩
    rw [hm] at j2 ⊢
    rw [Nat.add_sub_cancel] at j2
    rw [Nat.pow_succ]; omega
theorem o6 {x:Nat} (h:x<2^64):x<2^fH x:=(gB 64 x h).1
theorem o7 {x:Nat} (h:x<2^64) (h0:x≠0):0<fH x∧2^(fH x - 1)≤x:=(gB 64 x h).2.2.1 h0
theorem uV {x n:Nat} (h:x<2^64) (h1:x<2^n) (h2:n=0∨2^(n - 1)≤x):fH x=n:=by
 obtain ⟨i1,i2,i3,_⟩:=gB 64 x h
 show gA 64 x=n
 by_cases h0:x=0
 ·rw [i2 h0]
  rcases h2 with h2 | h2
  ·exact h2.symm
  ·subst h0;have:=Nat.two_pow_pos (n - 1);omega
 ·obtain ⟨j1,j2⟩:=i3 h0
  rcases Nat.lt_trichotomy (gA 64 x) n with h3 | h3 | h3
  ·have:=Nat.pow_le_pow_right (n:=2) U (show gA 64 x≤n - 1 by omega)
   rcases h2 with h2 | h2
   ·omega
   ·omega
  ·exact h3
  ·have:=Nat.pow_le_pow_right (n:=2) U (show n≤gA 64 x - 1 by omega)
   omega
theorem ju {x n:Nat} (h:x<2^n) (hn:n≤64):fH x≤n:=by
 have hx:x<2^64:=Nat.lt_of_lt_of_le h (Nat.pow_le_pow_right U hn)
 by_cases h0:x=0
 ·have:=(gB 64 x hx).2.1 h0
  unfold fH;omega
 ·obtain ⟨j1,j2⟩:=o7 hx h0
  rcases Nat.lt_or_ge n (fH x) with h3 | h3
  ·have:=Nat.pow_le_pow_right (n:=2) U (show n≤fH x - 1 by omega)
   omega
  ·exact h3
theorem mN {x k:Nat} (h:x<2^64) (hk:2^k≤x):fH x=k+fH (x / 2^k):=by
 have hp:=Nat.two_pow_pos k
 have hy:x / 2^k<2^64:=Nat.lt_of_le_of_lt (Nat.div_le_self _ _) h
 have hy0:x / 2^k≠0:=by
  have:=(Nat.le_div_iff_mul_le hp (x:=1) (y:=x)).2 X;omega
 obtain ⟨j1,j2⟩:=o7 hy hy0
 have j3:=o6 hy
 refine uV h ?_ (.inr ?_)
 ·rw [Nat.pow_add]
  have:=Nat.lt_mul_div_succ x hp
  exact Nat.lt_of_lt_of_le this (Nat.mul_le_mul_left _ j3)
 ·have e:k+fH (x / 2^k) - 1=(fH (x / 2^k) - 1)+k:=by omega
  rw [e,Nat.pow_add]
  exact Nat.le_trans (Nat.mul_le_mul_right _ j2) (Nat.div_mul_le_self x (2^k))
theorem mO {s:ByteArray} (h:((List.range 256).all fun i=>(s[i]?).map UInt8.toNat == some (fH i))=true) {i:Nat} (hi:i<256):(s[i]?).map UInt8.toNat=some (fH i):=by
 have:=List.all_eq_true.1 h i (List.mem_range.2 hi)
 simpa using this
attribute [local irreducible] J PJ aC one slT bL bE bw exT cj eP aT aH slV VT.le Ret bQ
theorem qE (x:Nat) (hx:x<4294967296):Ok Tryz.prog 154 [one (.int .u32 x)] (one (.int .i64 (fH x))):=by
 refine Ok.enter Tryz.func154 Z Tryz.ntmps154 Z (fun w O => ?_)
 have key : ∀ y:Nat,y<256→fH y≤8:=fun y hy=>ju (n:=8) X U
 by_cases h1:65536≤x
 ·have e1:=mN (k:=16) (x:=x) X X
  by_cases h2:256≤x / 2^16
  ·have e2:=mN (k:=8) (x:=x / 2^16) X X
   have k2:=key (x / 2^16 / 2^8) X
   refine ae (ai (Cd Z (Cf (aa (ae (ae (ai (Cc Z (Cb (sT X (eR Z Z)) ?_)))))))))
   refine Cf (aa (aM Z (ae (ai (Cc Z (Cb (jR (s:=16) Z Z U) (Cd Z (Cf (aa ?_)))))))))
   refine ai (Cd Z (Cf (aa (ae (ae (ai (Cc Z (Cb (sT X (eR Z Z)) (Cf ?_)))))))))
   refine aa (aM Z (ae (ai (Cc Z (Cb (jR (s:=8) Z Z U) (Cd Z (Cf (aa (ai ?_)))))))))
   refine Cc Z (Cb (cz Z Z (aR X X)) (Cd Z (Cf (aa (ae (ai (Cc Z (Cc Z (Cb (kv Z X X) ?_)))))))))
   refine Cb (gp Y Z Z (mO V X)) (Cb (dc Z X X) (Cb (cz Z Z (aR X X)) (Cd Z (Cf (aa (aG ?_))))))
   refine aV Tryz.results154 (.tmp Z (av (by congr 1;omega)))
  ·have k2:=key (x / 2^16) X
   refine ae (ai (Cd Z (Cf (aa (ae (ae (ai (Cc Z (Cb (sT X (eR Z Z)) ?_)))))))))
   refine Cf (aa (aM Z (ae (ai (Cc Z (Cb (jR (s:=16) Z Z U) (Cd Z (Cf (aa ?_)))))))))
   refine ai (Cd Z (Cf (aa (ae (ae (ai (Cc Z (Cb (sF X (eR Z Z)) (Cf ?_)))))))))
   refine aa (aD Z (ay (aa (ae (ai (Cc Z (Cc Z (Cb (kv Z X X) (Cb (gp Y Z Z (mO V X)) ?_)))))))))
   refine Cb (dc Z X X) (Cb (cz Z Z (aR X X)) (Cd Z (Cf (aa (aG ?_)))))
   refine aV Tryz.results154 (.tmp Z (av (by congr 1;omega)))
 ·by_cases h2:256≤x
  ·have e2:=mN (k:=8) (x:=x) X X
   have k2:=key (x / 2^8) X
   refine ae (ai (Cd Z (Cf (aa (ae (ae (ai (Cc Z (Cb (sF X (eR Z Z)) ?_)))))))))
   refine Cf (aa (aD Z (ay (aa (ae (ae (ai (Cc Z (Cb (sT X (eR Z Z)) ?_)))))))))
   refine Cf (aa (aM Z (ae (ai (Cc Z (Cb (jR (s:=8) Z Z U) (Cd Z (Cf (aa ?_)))))))))
   refine ai (Cc Z (Cb (cz Z Z (aR X X)) (Cd Z (Cf (aa (ae (ai (Cc Z (Cc Z ?_)))))))))
   refine Cb (kv Z X X) (Cb (gp Y Z Z (mO V X)) (Cb (dc Z X X) (Cb (cz Z Z (aR X X)) (Cd Z (Cf (aa (aG ?_)))))))
   refine aV Tryz.results154 (.tmp Z (av (by congr 1;omega)))
  ·have k2:=key x X
   refine ae (ai (Cd Z (Cf (aa (ae (ae (ai (Cc Z (Cb (sF X (eR Z Z)) ?_)))))))))
   refine Cf (aa (aD Z (ay (aa (ae (ae (ai (Cc Z (Cb (sF X (eR Z Z)) ?_)))))))))
   refine Cf (aa (aD Z (ay (aa (ae (ai (Cc Z (Cc Z (Cb (kv Z X X) ?_)))))))))
   refine Cb (gp Y Z Z (mO V X)) (Cb (dc Z X X) (Cb (cz Z Z (aR X X)) (Cd Z (Cf (aa (aG ?_))))))
   refine aV Tryz.results154 (.tmp Z (av (by congr 1;omega)))
theorem yN (x:Nat) (hx:x<4294967296):Ok Tryz.prog 170 [one (.int .u32 x)] (one (.int .i64 ((32 - fH x:Nat):Int))):=by
 have h:=ju (n:=32) (x:=x) X U
 refine Ok.enter Tryz.func170 Z Tryz.ntmps170 Z (fun w O => ?_)
 refine ae (ai (Cd Z (Cf (aa (ae (ai (Cc Z ?_)))))))
 refine Cb (ao (qE _ (by assumption)) Z ⟨A,Cg⟩) ?_
 refine Cb (ef Z Z (aR X X)) (Cd Z (Cf (aa (aG ?_))))
 refine aV Tryz.results170 (.tmp Z (av (by congr 1;omega)))
theorem qF (i:Nat):4294967296^i=2^(32*i):=by rw [Nat.pow_mul]
theorem jX {l:List Nat} (h:bq l) (i:Nat):lv (l.take i)<2^(32*i):=by
 have h1:=gu (h.take i)
 rw [← qF]
 exact Nat.lt_of_lt_of_le h1 (Nat.pow_le_pow_right U (by simp;omega))
theorem sa {d e i:Nat} (hd:d<4294967296) (hb:e<2^(32*i)) (hi:i≤1):d*2^(32*i)+e<18446744073709551616:=by
 rcases (show i=0∨i=1 by omega) with rfl | rfl
 ·rw [show 2^(32*0)=1 by simp] at hb ⊢; omega
 ·rw [show 2^(32*1)=4294967296 by simp] at hb ⊢
  have h1:d*4294967296+e<(d+1)*4294967296:=by rw [Nat.add_mul]; exact Nat.add_lt_add_left (by rw [Nat.one_mul]; exact hb) _
  exact Nat.lt_of_lt_of_le h1 (Nat.le_trans (Nat.mul_le_mul_right _ hd) (Nat.le_of_eq Z))
theorem tN (l:List Nat) (hl:bq l) (h2:l.length≤2):Ok Tryz.prog 168 [ch l] (one (.int .u64 (lv l))):=by
 refine Ok.enter Tryz.func168 Z Tryz.ntmps168 Z (fun w O => ?_)
 refine ae (ai (Cd Z (Cf (aa (ae (ai (Cd Z (Cf (aa ?_)))))))))
 refine ae (ae (ai (Cc Z (Cb (a9 Z) (Cc Z (Cf (aa (aw (cv (Γ' := [(2,_),(3,_),(6,_),(7,_),(8,_)]) BW (SubM.refl _) ?_)))))))))
 refine bO (σ:=Nat) (Γk := [(2,_),(6,_),(7,_)]) BW (fun i => [(8,one (.int .i64 (i:Nat))),(3,one (.int .u64 (lv (l.take i))))]) (fun i M0=>M0) (fun i=>i≤l.length) (fun i=>l.length - i) (0) (Nat.zero_le _) BX (.nil) (fun i hi => ?_)
 refine cg (Γ' := [(8,_),(3,_),(2,_),(6,_),(7,_)]) (M' := []) Z Z (ae (ai (Cb (bD Z Z) (Cf (aa (ae ?_))))))
 refine ku Z (fun hc => ?_) (fun hc => ?_)
 ·have hi1:i≤1:=by omega
  have hd:=a6 hl i
  have hb:=jX hl i
  have hab:=sa hd hb hi1
  have ha:l.getD i 0*2^(32*i)<18446744073709551616:=Nat.lt_of_le_of_lt (Nat.le_add_right _ _) hab
  have hn:lv (l.take i)+l.getD i 0*2^(32*i)=lv (l.take (i+1)):=by
   rw [bF X,qF,Nat.mul_comm]
  refine ay (aa (ae (aw (ae (ai (Cc Z (Cb (aI Z Z X) (Cb (aY Z) (Cd Z ?_)))))))))
  refine Cd Z (Cf (aa (ai (Cc Z (Cc Z (Cb (cd Z X) (Cc Z (Cb (wo 32 _ Z Z X) (Cb (jQ Z Z X X) ?_)))))))))
  refine Cb (Ac Z Z X X) (Cd Z (Cf (aK (aa (ai (Cb (bU _ 1 Z Z X) (Cc Z (Cf ?_))))))))
  rw [hn]
  refine aX (i+1) X X BX (.nil)
 ·have e:i=l.length:=by omega
  subst e
  rw [List.take_length]
  refine a8 (ax (ax (aL (aa (ae (ai (Cc Z (Cd Z (Cf ?_)))))))))
  refine aa (aG ?_)
  refine aV Tryz.results168 (.tmp Z A)
end Tor
end
section
namespace Tor
open Go Go.RowKit Go.Proofs
variable [Tor.Co.Kc]
structure ShortR (l:List Nat) (d:Nat) (s:List Nat × Nat × Nat):Prop where
 le:s.2.1≤l.length
 len:s.1.length=l.length
 lim:bq s.1
 r:s.2.2<d
 zero : ∀ k,k<s.2.1→s.1.getD k 0=0
 val:lv l=lv (l.take s.2.1)+(lv s.1*d+4294967296^s.2.1*s.2.2)
theorem ShortR.start {l:List Nat} {d:Nat} (hd:0<d):ShortR l d (List.replicate l.length 0,l.length,0) :=
 ⟨Nat.le_refl _,by simp,bq.replicate _,hd,fun k _=>co _ _,by simp [dP]⟩
theorem ShortR.bound {x r d:Nat} (hx:x<4294967296) (hr:r<d) (hd:d<4294967296):r*4294967296+x<18446744073709551616∧(r*4294967296+x) / d<4294967296:=by
 have h1:r*4294967296+x<d*4294967296:=by omega
 exact ⟨by omega,Nat.div_lt_of_lt_mul h1⟩
theorem ShortR.step {l:List Nat} {d:Nat} {z:List Nat} {n r:Nat} (h:ShortR l d (z,n+1,r)) (hl:bq l) (hd:d<4294967296) :
  ShortR l d (z.set n ((r*4294967296+l.getD n 0) / d),n,(r*4294967296+l.getD n 0) % d):=by
 have hn:n<l.length:=h.le
 have hz:n<z.length:=by have:=h.len;simp only at this;omega
 have hx:=a6 hl n
 have hr:r<d:=h.r
 have hb:=ShortR.bound hx hr hd
 have h0:z.getD n 0=0:=h.zero n (Nat.lt_succ_self n)
 have hs:=fk (l:=z) (v:=(r*4294967296+l.getD n 0) / d) hz
 rw [h0,Nat.mul_zero,Nat.add_zero] at hs
 refine ⟨Nat.le_of_lt hn,by rw [List.length_set]; exact h.len,bq.set h.lim hb.2,Nat.mod_lt _ X,fun k hk => ?_,?_⟩
 ·simp only at hk ⊢
  rw [dC hz,if_neg X]; exact h.zero k (Nat.lt_succ_of_lt hk)
 ·have hv:lv l=lv (l.take (n+1))+(lv z*d+4294967296^(n+1)*r):=h.val
  simp only
  rw [hs,hv,bF hn]
  have e:=Nat.div_add_mod (r*4294967296+l.getD n 0) d
  generalize (r*4294967296+l.getD n 0) / d=q at *
  generalize (r*4294967296+l.getD n 0) % d=m at *
  generalize l.getD n 0=x at *
  rw [Nat.pow_succ]
  generalize 4294967296^n=B at *
  have e2:B*(d*q+m)=B*(r*4294967296+x):=by rw [e]
  have e3:(lv z+B*q)*d=lv z*d+B*(d*q):=by rw [Nat.add_mul,Nat.mul_assoc,Nat.mul_comm q d]
  have e4:B*4294967296*r=B*(r*4294967296):=by rw [Nat.mul_assoc,Nat.mul_comm r]
  rw [e3,e4]
  rw [Nat.mul_add,Nat.mul_add] at e2
  omega
theorem ShortR.finish {l:List Nat} {d:Nat} {z:List Nat} {r:Nat} (h:ShortR l d (z,0,r)):lv z=lv l / d∧r=lv l % d:=by
 have hv:lv l=lv (l.take 0)+(lv z*d+4294967296^0*r):=h.val
 have hr:r<d:=h.r
 have e:lv l=lv z*d+r:=by simpa [lv] using hv
 rw [e]
 constructor
 ·rw [Nat.mul_comm,Nat.mul_add_div X,Nat.div_eq_of_lt hr]; rfl
 ·rw [Nat.mul_comm,Nat.mul_add_mod,Nat.mod_eq_of_lt hr]
theorem tO {b:Option Nat} {T:TypeId} {n cap:Nat} {z:List Nat} {k v v':Nat} (hk:k<z.length) (hv:v'=v):Own.le (aH b T .one n cap (upd (fun q=>one (.int .u32 (z.getD q 0:Nat))) k (one (.int .u32 (v':Nat))))) (aH b T .one n cap (fun q=>one (.int .u32 ((z.set k v).getD q 0:Nat)))):=by
 subst hv
 exact bV (fun q _=>by unfold upd;rw [dC hk]; split <;> rfl)
attribute [local irreducible] J PJ aC one slT bL bE bw exT cj eP aT aH slV VT.le Ret bQ
theorem wM (l:List Nat) (d:Nat) (hl:bq l) (h1:l.length≤1099511627776) (hd0:0<d) (hd:d<4294967296):Ok Tryz.prog 169 [ch l,one (.int .u32 (d:Nat))] (bw [kC (lv l / d),one (.int .u32 ((lv l % d:Nat):Int))]):=by
 refine Ok.enter Tryz.func169 Z Tryz.ntmps169 Z (fun w O => ?_)
 refine ae (ai (Cd Z (Cd Z (Cf (aa (ae (ai (Cc Z (Cb (a9 Z) ?_)))))))))
 refine cA l.length l.length Z Z Z Z (Nat.le_refl _) Z Z X Z Z (fun bz => ?_)
 refine Cd Z (Cf (aa (ae (ai (Cd Z (Cf (aa (ae (ae ?_)))))))))
 refine ai (Cc Z (Cb (a9 Z) (Cb (ef Z Z (aR X X)) (Cd Z (Cf (aa (aw (cv (Γ' := [(0,_),(1,_),(4,_),(5,_),(6,_),(7,_),(8,_)]) BW (SubM.refl _) ?_))))))))
 refine bO (σ:=List Nat × Nat × Nat) (Γk := [(0,_),(1,_),(4,_),(5,_),(6,_)]) BW (fun s => [(8,one (.int .i64 ((s.2.1:Nat) - 1:Int))),(7,one (.int .u64 (s.2.2:Nat)))]) (fun s M0=>(M0.set 0 (aH (some bz) 83 .one l.length l.length (fun q=>one (.int .u32 (s.1.getD q 0:Nat)))))) (fun s=>ShortR l d s) (fun s=>s.2.1) ((List.replicate l.length 0,l.length,0)) (ShortR.start hd0) BX (.keep (bV (fun q _=>by rw [co]; rfl)) (.nil)) (fun s hs => ?_)
 refine cg (Γ' := [(8,_),(7,_),(0,_),(1,_),(4,_),(5,_),(6,_)]) (M' := [_]) Z Z ?_
 obtain ⟨z,n,r⟩:=s
 dsimp only at hs ⊢
 refine ae (ae (ai (Cc Z (Cb (eR Z Z) (Cf (aa ?_))))))
 cases n with
 | zero =>
  obtain ⟨f1,f2⟩:=hs.finish
  have hlen:z.length=l.length:=hs.len
  have hr:r<d:=hs.r
  rw [← f1, ← f2]
  refine l6 Z X (a8 (ax (ax (aL (aa (ae (ai (Cc Z (Cc Z ?_)))))))))
  refine Cb (cF Z) (Cd Z (Cd Z (Cf (aa (aG (dh (t:=4) (i:=0) Z Z ?_))))))
  refine db Tryz.results169 (.tmp Z (VT.le_trans (cH (m:=z.length) (ψ:=fun i=>one (.int .u32 (z.getD i 0:Nat))) hlen.symm (fun q hq=>rfl)) (e7 (l:=z) hs.lim Z))) (.tmp Z (av (by congr 1;omega)))
 | succ n =>
  have hx:=a6 hl n
  have hr:r<d:=hs.r
  have hb:=ShortR.bound hx hr hd
  have hst:=hs.step hl hd
  have hn:n<l.length:=hs.le
  have hzn:n<z.length:=by have:=hs.len;dsimp only at this;omega
  have en:((n+1:Nat):Int) - 1=(n:Nat):=by omega
  rw [en]
  refine l5 Z X (ay (aa (ae (aw (ae (ai (Cc Z (Cb (jQ (s:=32) Z Z X X) (Cc Z ?_)))))))))
  refine Cc Z (Cb (aI Z Z X) (Cb (aY Z) (Cb (cd Z X) (Cb (jP Z Z X X) (Cd Z (Cf (aa (ae (ai ?_)))))))))
  refine Cc Z (Cc Z (Cc Z (Cc Z (Cb (cd Z X) (Cb (mw Z Z X X) (Cb (cF Z) (Cb (ar Z Z X) ?_)))))))
  (refine au 0 Z Z Z ?_ Z ?_;omega)
  refine Cf (aa (ai (Cc Z (Cc Z (Cb (cd Z X) (Cb (eh _ Z Z Z X) (Cd Z (Cf (aK ?_)))))))))
  refine aa (ai (Cc Z (Cb (ef Z Z (aR X X)) (Cd Z (Cf ?_)))))
  refine aX ((z.set n ((r*4294967296+l.getD n 0) / d),n,(r*4294967296+l.getD n 0) % d)) (hst) (by (simp only []; omega)) BX (.keep (tO hzn (Nat.mod_eq_of_lt hb.2)) (.nil))
end Tor
end
section
namespace Tor
open Go Go.RowKit Go.Proofs
variable [Tor.Co.Kc]
structure ShiftR (l:List Nat) (s:Nat) (p:List Nat × Nat × Nat):Prop where
 le:p.2.1≤l.length
 len:p.1.length=l.length+1
 lim:bq p.1
 c:p.2.2<2^s
 zero : ∀ k,p.2.1≤k→p.1.getD k 0=0
 val:lv p.1+4294967296^p.2.1*p.2.2=lv (l.take p.2.1)*2^s
theorem ShiftR.start (l:List Nat) (s:Nat):ShiftR l s (List.replicate (l.length+1) 0,0,0) :=
 ⟨Nat.zero_le _,by simp,bq.replicate _,Nat.two_pow_pos s,fun k _=>co _ _,by simp [dP,lv]⟩
theorem ShiftR.bound {d c s:Nat} (hd:d<4294967296) (hc:c<2^s) (hs:s<32):d*2^s+c<4294967296*2^s∧d*2^s+c<18446744073709551616∧d*2^s<18446744073709551616∧2^s<4294967296:=by
 have h1:(d+1)*2^s≤4294967296*2^s:=Nat.mul_le_mul_right _ hd
 have h2:2^s≤2^31:=Nat.pow_le_pow_right U X
 rw [Nat.add_mul,Nat.one_mul] at h1
 have h3:(2:Nat)^31=2147483648:=rfl
 generalize d*2^s=x at *
 generalize 2^s=y at *
 omega
theorem ShiftR.step {l:List Nat} {s:Nat} {z:List Nat} {i c:Nat} (h:ShiftR l s (z,i,c)) (hl:bq l) (hs:s<32) (hi:i<l.length) :
  ShiftR l s (z.set i ((c+l.getD i 0*2^s) % 4294967296),i+1,(c+l.getD i 0*2^s) / 4294967296):=by
 have hlen:z.length=l.length+1:=h.len
 have hz:i<z.length:=by omega
 have hc:c<2^s:=h.c
 have hb:=ShiftR.bound (a6 hl i) hc hs
 have h0:z.getD i 0=0:=h.zero i (Nat.le_refl _)
 have hv:lv z+4294967296^i*c=lv (l.take i)*2^s:=h.val
 have hse:=fk (l:=z) (v:=(c+l.getD i 0*2^s) % 4294967296) hz
 rw [h0,Nat.mul_zero,Nat.add_zero] at hse
 refine ⟨hi,by rw [List.length_set]; exact hlen,bq.set h.lim (Nat.mod_lt _ U),?_,fun k hk => ?_,?_⟩
 ·show (c+l.getD i 0*2^s) / 4294967296<2^s
  exact Nat.div_lt_of_lt_mul X
 ·simp only at hk ⊢
  rw [dC hz,if_neg X]; exact h.zero k (by show i≤k;omega)
 ·show lv (z.set i _)+4294967296^(i+1)*_=lv (l.take (i+1))*2^s
  dsimp only
  rw [hse,bF hi,Nat.pow_succ,Nat.add_mul, ← hv]
  generalize l.getD i 0=x at *
  generalize 2^s=p at *
  have e:=Nat.div_add_mod (c+x*p) 4294967296
  generalize (c+x*p) / 4294967296=q at *
  generalize (c+x*p) % 4294967296=m at *
  generalize 4294967296^i=B at *
  have e2:B*(4294967296*q+m)=B*(c+x*p):=by rw [e]
  rw [Nat.mul_add,Nat.mul_add, ← Nat.mul_assoc, ← Nat.mul_assoc] at e2
  omega
theorem ShiftR.finish {l:List Nat} {s:Nat} {z:List Nat} {c:Nat} (h:ShiftR l s (z,l.length,c)) (hs:s<32) :
  (z.set l.length c).length=l.length+1∧bq (z.set l.length c)∧lv (z.set l.length c)=lv l*2^s∧c<4294967296∧l.length<z.length:=by
 have hlen:z.length=l.length+1:=h.len
 have hc:c<2^s:=h.c
 have hb:=ShiftR.bound (d:=0) U hc hs
 have h0:z.getD l.length 0=0:=h.zero _ (Nat.le_refl _)
 have hv:lv z+4294967296^l.length*c=lv (l.take l.length)*2^s:=h.val
 have hse:=fk (l:=z) (k:=l.length) (v:=c) X
 rw [h0,Nat.mul_zero,Nat.add_zero] at hse
 rw [List.take_length] at hv
 exact ⟨by rw [List.length_set]; exact hlen,bq.set h.lim X,by rw [hse,hv],by omega,by omega⟩
abbrev f8 (z:List Nat):Nat→VT:=fun q=>one (.int .u32 (z.getD q 0:Nat))
theorem fI {b:Option Nat} {T:TypeId} {n cap:Nat} {z:List Nat} {k v v':Nat} (hk:k<z.length) (hv:v'=v):Own.le (aH b T .one n cap (upd (f8 z) k (one (.int .u32 (v':Nat))))) (aH b T .one n cap (f8 (z.set k v))):=tO hk hv
abbrev o8 (l:List Nat) (s:Nat):Type := {p:Nat × List Nat // p.2.length=l.length+1∧bq p.2∧lv p.2=lv l*2^s}
attribute [local irreducible] J PJ aC one slT bL bE bw exT cj eP aT aH slV VT.le Ret bQ
theorem qG (l:List Nat) (s:Nat) (hl:bq l) (h1:l.length≤1099511627776) (hs:s<32):OkM Tryz.prog 171 [ch l,one (.int .i64 (s:Nat))] (fun p:o8 l s=>one (slV (some p.1.1) (l.length+1) (l.length+1))) (fun p => [aH (some p.1.1) 83 .one (l.length+1) (l.length+1) (f8 p.1.2)]):=by
 refine OkM.enter Tryz.func171 Z Tryz.ntmps171 Z (fun w O => ?_)
 refine ae (ai (Cd Z (Cf (aa (ae (ai (Cc Z (Cb (a9 Z) (Cb (bU _ 1 Z Z X) ?_)))))))))
 refine cA (l.length+1) (l.length+1) Z Z (by simp) (by simp) (Nat.le_refl _) Z Z X Z Z (fun bz => ?_)
 refine Cd Z (Cf (aa (ae (ai (Cd Z (Cf (aa (ae (ae ?_)))))))))
 refine ai (Cc Z (Cb (a9 Z) (Cc Z (Cf (aa (aw (cv (Γ' := [(0,_),(1,_),(4,_),(5,_),(6,_),(13,_),(14,_),(15,_)]) BW (SubM.refl _) ?_)))))))
 refine bO (σ:=List Nat × Nat × Nat) (Γk := [(0,_),(1,_),(4,_),(5,_),(13,_),(14,_)]) BW (fun p => [(15,one (.int .i64 (p.2.1:Nat))),(6,one (.int .u64 (p.2.2:Nat)))]) (fun p M0=>(M0.set 0 (aH (some bz) 83 .one (l.length+1) (l.length+1) (f8 p.1)))) (fun p=>ShiftR l s p) (fun p=>l.length - p.2.1) ((List.replicate (l.length+1) 0,0,0)) (ShiftR.start l s) BX (.keep (bV (fun q _=>by unfold f8;rw [co]; rfl)) (.nil)) (fun p hp => ?_)
 refine cg (Γ' := [(15,_),(6,_),(0,_),(1,_),(4,_),(5,_),(13,_),(14,_)]) (M' := [_]) Z Z ?_
 obtain ⟨z,i,c⟩:=p
 dsimp only at hp ⊢
 refine ae (ai (Cb (bD Z Z) (Cf (aa (ae ?_)))))
 refine ku Z (fun hcc => ?_) (fun hcc => ?_)
 ·have hc:c<2^s:=hp.c
  have hi:i<l.length:=by omega
  have hb:=ShiftR.bound (a6 hl i) hc hs
  have hst:=hp.step hl hs hi
  have hx:=a6 hl i
  have hzn:i<z.length:=by have:=hp.len;dsimp only at this;omega
  refine ay (aa (ae (aw (ae (ai (Cc Z (Cb (aI Z Z X) (Cb (aY Z) (Cd Z ?_)))))))))
  refine Cd Z (Cf (aa (ae (ai (Cc Z (Cc Z (Cb (cd Z X) (Cc Z (Cb (jQ Z Z X X) ?_)))))))))
  refine Cb (Ac Z Z X X) (Cd Z (Cf (aa (ae (ai (Cc Z (Cc Z (Cc Z (Cb (cF Z) ?_)))))))))
  refine Cb (ar Z Z X) ?_
  (refine au 0 Z Z Z ?_ Z ?_;omega)
  refine Cf (aa (ai (Cc Z (Cb (fw Z) (Cd Z (Cf (aK (aa (ai ?_)))))))))
  refine Cb (bU _ 1 Z Z X) (Cc Z (Cf ?_))
  refine aX ((z.set i ((c+l.getD i 0*2^s) % 4294967296),i+1,(c+l.getD i 0*2^s) / 4294967296)) (hst) (by (simp only []; omega)) BX (.keep (fI hzn Z) (.nil))
 ·have e:i=l.length:=by have:=hp.le;dsimp only at this;omega
  subst e
  obtain ⟨f1,f2,f3,f4,f5⟩:=hp.finish hs
  have hc:c<2^s:=hp.c
  refine a8 (ax (ax (aL (aa (ae (ai (Cc Z (Cc Z (Cb (a9 Z) ?_)))))))))
  refine Cc Z (Cb (cF Z) (Cb (ar Z Z X) ?_))
  (refine au 0 Z Z Z ?_ Z ?_;omega)
  refine Cf (aa (ae (ai (Cc Z (Cd Z (Cf (aa (aG ?_))))))))
  refine mz (⟨(bz,z.set l.length c),f1,f2,f3⟩:o8 l s) Tryz.results171 (.tmp Z A) (.keep (fI f5 (Nat.mod_eq_of_lt f4)) .nil)
end Tor
end
section
namespace Tor
variable [Tor.Co.Kc]
def win (W:List Nat) (j m:Nat):List Nat:=(W.drop j).take m
theorem tP {W:List Nat} {j m:Nat} (h:j+m≤W.length):(win W j m).length=m:=by unfold win;simp;omega
theorem gC {W:List Nat} {j m i:Nat} (h:i<m):(win W j m).getD i 0=W.getD (j+i) 0:=by
 unfold win;simp [List.getD,List.getElem?_take,h]
theorem kJ {W:List Nat} {j m i x:Nat} (h:i<m):win (W.set (j+i) x) j m=(win W j m).set i x:=by
 unfold win;rw [List.drop_set,if_neg X,Nat.add_sub_cancel_left,List.take_set]
theorem bq.win {W:List Nat} (h:bq W) (j m:Nat):bq (win W j m):=fun d hd=>h d (List.mem_of_mem_drop (List.mem_of_mem_take hd))
theorem yP {l:List Nat} {k:Nat} (h:l.length=k+2):lv l=lv (l.take k)+4294967296^k*(l.getD k 0+4294967296*l.getD (k+1) 0):=by
 have e:l=l.take (k+2):=by rw [List.take_of_length_le X]
 conv=>lhs;rw [e]
 rw [bF X,bF X,Nat.pow_succ,Nat.mul_add,Nat.mul_assoc]; omega
theorem yQ {l:List Nat} {k:Nat} (h:l.length=k+3):lv l=lv (l.take k)+4294967296^k*(l.getD k 0+4294967296*(l.getD (k+1) 0+4294967296*l.getD (k+2) 0)):=by
 have e:l=l.take (k+3):=by rw [List.take_of_length_le X]
 conv=>lhs;rw [e]
 rw [bF X,bF X,bF X]
 simp only [Nat.pow_succ,Nat.mul_add,Nat.mul_assoc]; omega
structure Gss (BT BU B P h v2 top u2:Nat):Prop where
 P0:0<P
 iv1:(h*B+v2)*P≤BU
 iv2:BU<(h*B+v2+1)*P
 iu1:(top*B+u2)*P≤BT
 iu2:BT<(top*B+u2+1)*P
 l2:v2<B
 m2:u2<B
 h0:0<h
 lt:BT<BU*B
theorem Gss.V0 {BT BU B P h v2 top u2:Nat} (g:Gss BT BU B P h v2 top u2):0<BU:=by
 rcases Nat.eq_zero_or_pos BU with h | h
 ·have:=g.lt;rw [h] at this;simp at this
 ·exact h
theorem Gss.top {BT BU B P h v2 top u2:Nat} (g:Gss BT BU B P h v2 top u2):top<(h+1)*B:=by
 have h1:top*(B*P)<(h+1)*B*(B*P):=by
  calc top*(B*P)=top*B*P:=(Nat.mul_assoc _ _ _).symm
   _≤(top*B+u2)*P:=Nat.mul_le_mul_right _ (Nat.le_add_right _ _)
   _≤BT:=g.iu1
   _<BU*B:=g.lt
   _≤(h*B+v2+1)*P*B:=Nat.mul_le_mul_right _ (Nat.le_of_lt g.iv2)
   _≤((h+1)*B)*P*B:=Nat.mul_le_mul_right _ (Nat.mul_le_mul_right _ (by rw [Nat.add_mul,Nat.one_mul]; have:=g.l2;omega))
   _=(h+1)*B*(B*P):=by rw [Nat.mul_assoc,Nat.mul_comm P B]
 exact Nat.lt_of_mul_lt_mul_right h1
theorem Gss.q_lt {BT BU B P h v2 top u2:Nat} (g:Gss BT BU B P h v2 top u2):BT / BU<B:=Nat.div_lt_of_lt_mul g.lt
theorem Gss.start {BT BU B P h v2 top u2:Nat} (g:Gss BT BU B P h v2 top u2):BT / BU≤top / h:=by
 rw [Nat.le_div_iff_mul_le g.h0]
 have h1:(BT / BU*h)*(B*P)<(top+1)*(B*P):=by
  calc (BT / BU*h)*(B*P)=BT / BU*(h*B*P):=by rw [Nat.mul_assoc,Nat.mul_assoc]
   _≤BT / BU*((h*B+v2)*P):=Nat.mul_le_mul_left _ (Nat.mul_le_mul_right _ (Nat.le_add_right _ _))
   _≤BT / BU*BU:=Nat.mul_le_mul_left _ g.iv1
   _≤BT:=Nat.div_mul_le_self _ _
   _<(top*B+u2+1)*P:=g.iu2
   _≤((top+1)*B)*P:=Nat.mul_le_mul_right _ (by rw [Nat.add_mul,Nat.one_mul]; have:=g.m2;omega)
   _=(top+1)*(B*P):=Nat.mul_assoc _ _ _
 exact Nat.lt_succ_iff.1 (Nat.lt_of_mul_lt_mul_right h1)
theorem Gss.low {BT BU B P h v2 top u2:Nat} (g:Gss BT BU B P h v2 top u2) {q r:Nat} (e:q*h+r=top) (hc:r*B+u2<q*v2):BT / BU<q:=by
 have h1:(BT / BU*(h*B+v2))*P<(top*B+u2+1)*P:=by
  calc (BT / BU*(h*B+v2))*P=BT / BU*((h*B+v2)*P):=Nat.mul_assoc _ _ _
   _≤BT / BU*BU:=Nat.mul_le_mul_left _ g.iv1
   _≤BT:=Nat.div_mul_le_self _ _
   _<(top*B+u2+1)*P:=g.iu2
 have h2:=Nat.lt_of_mul_lt_mul_right h1
 have h3:top*B+u2<q*(h*B+v2):=by
  rw [← e,Nat.add_mul,Nat.mul_add,Nat.mul_assoc]; omega
 exact Nat.lt_of_mul_lt_mul_right (Nat.lt_of_lt_of_le h2 h3)
theorem Gss.done {BT BU B P h v2 top u2:Nat} (g:Gss BT BU B P h v2 top u2) {q r:Nat} (e:q*h+r=top) (hq:q<B) (hc:q*v2≤r*B+u2∨B≤r):q≤BT / BU+1:=by
 rcases Nat.eq_zero_or_pos q with h0 | h0
 ·rw [h0]; exact Nat.zero_le _
 obtain ⟨p,rfl⟩ : ∃ p,q=p+1:=⟨q - 1,by omega⟩
 have hh:(p+1)*v2≤r*B+u2:=by
  rcases hc with hc | hc
  ·exact hc
  ·have h1:(p+1)*v2≤B*B:=Nat.mul_le_mul (Nat.le_of_lt hq) (Nat.le_of_lt g.l2)
   have h2:B*B≤r*B:=Nat.mul_le_mul_right _ hc
   omega
 have h3:(p+1)*(h*B+v2)≤top*B+u2:=by
  rw [← e,Nat.add_mul _ r,Nat.mul_add,Nat.mul_assoc]; omega
 have h4:p*(h*B+v2+1)≤top*B+u2:=by
  refine Nat.le_trans ?_ h3
  rw [Nat.add_mul p 1,Nat.mul_add p (h*B+v2) 1,Nat.one_mul,Nat.mul_one]
  have:B≤h*B:=Nat.le_mul_of_pos_left _ g.h0
  omega
 have h5:p*BU≤BT:=by
  calc p*BU≤p*((h*B+v2+1)*P):=Nat.mul_le_mul_left _ (Nat.le_of_lt g.iv2)
   _=p*(h*B+v2+1)*P:=(Nat.mul_assoc _ _ _).symm
   _≤(top*B+u2)*P:=Nat.mul_le_mul_right _ h4
   _≤BT:=g.iu1
 have:=(Nat.le_div_iff_mul_le g.V0).2 h5
 omega
theorem AE {u v:List Nat} {k:Nat} (hu:bq u) (hv:bq v) (lu:u.length=k+3) (lw:v.length=k+2) (hh:0<v.getD (k+1) 0) (hlt:lv u<lv v*4294967296) :
  Gss (lv u) (lv v) 4294967296 (4294967296^k) (v.getD (k+1) 0) (v.getD k 0) (u.getD (k+2) 0*4294967296+u.getD (k+1) 0) (u.getD k 0):=by
 have e1:=yQ lu
 have e2:=yP lw
 have h1:=gu (hu.take k)
 have h2:=gu (hv.take k)
 rw [List.length_take_of_le X] at h1 h2
 have g1:=a6 hu k
 have g2:=a6 hv k
 refine ⟨Nat.pow_pos U,?_,?_,?_,?_,g2,g1,hh,hlt⟩
 ·rw [e2,Nat.mul_comm _ (4294967296^k),show v.getD (k+1) 0*4294967296+v.getD k 0=v.getD k 0+4294967296*v.getD (k+1) 0 by omega]; omega
 ·rw [e2,Nat.mul_comm _ (4294967296^k),show v.getD (k+1) 0*4294967296+v.getD k 0+1=v.getD k 0+4294967296*v.getD (k+1) 0+1 by omega,Nat.mul_add (4294967296^k) _ 1]; omega
 ·rw [e1,Nat.mul_comm _ (4294967296^k),show (u.getD (k+2) 0*4294967296+u.getD (k+1) 0)*4294967296+u.getD k 0=u.getD k 0+4294967296*(u.getD (k+1) 0+4294967296*u.getD (k+2) 0) by omega]; omega
 ·rw [e1,Nat.mul_comm _ (4294967296^k),show (u.getD (k+2) 0*4294967296+u.getD (k+1) 0)*4294967296+u.getD k 0+1=u.getD k 0+4294967296*(u.getD (k+1) 0+4294967296*u.getD (k+2) 0)+1 by omega,Nat.mul_add (4294967296^k) _ 1]; omega
structure GuessR (h top Q:Nat) (p:Nat × Nat):Prop where
 e:p.1*h+p.2=top
 r:p.2<4294967296
 q:Q≤p.1
 m:p.1≤4294967297
structure SubR (u v:List Nat) (q:Nat) (z:List Nat) (i b c:Nat):Prop where
 le:i≤v.length
 len:z.length=u.length
 lim:bq z
 hb:b≤1
 hc:c<4294967296
 val:lv z+q*lv (v.take i)=lv u+4294967296^i*(b+c)
theorem o9 {x y b d:Nat} (hx:x<4294967296) (hy:y<4294967296) (hb:b≤1) (hd:d=((x+18446744073709551616 - y) % 18446744073709551616+18446744073709551616 - b) % 18446744073709551616) :
  d % 4294967296+y+b=x+4294967296*(d / 9223372036854775808)∧d / 9223372036854775808≤1:=by
 rcases Nat.lt_or_ge x (y+b) with h | h
 ·have h1:d=x+18446744073709551616 - (y+b):=by omega
  omega
 ·have h1:d=x - (y+b):=by omega
  omega
theorem SubR.start {u v:List Nat} {q:Nat} (hu:bq u):SubR u v q u 0 0 0:=⟨Nat.zero_le _,rfl,hu,by decide,by decide,by simp [lv]⟩
theorem pa {q y c:Nat} (hq:q<4294967296) (hy:y<4294967296) (hc:c<4294967296):q*y<18446744073709551616∧c+q*y<18446744073709551616∧(c+q*y) / 4294967296<4294967296:=by
 have h1:q*y≤4294967295*4294967295:=Nat.mul_le_mul X X
 omega
theorem SubR.step {u v z:List Nat} {q i b c d:Nat} (h:SubR u v q z i b c) (hv:bq v) (hq:q<4294967296) (hi:i<v.length) (hl:v.length≤u.length)
  (hd:d=((z.getD i 0+18446744073709551616 - (c+q*v.getD i 0) % 4294967296) % 18446744073709551616+18446744073709551616 - b) % 18446744073709551616) :
  SubR u v q (z.set i (d % 4294967296)) (i+1) (d / 9223372036854775808) ((c+q*v.getD i 0) / 4294967296):=by
 have hlim:=pa hq (a6 hv i) h.hc
 obtain ⟨h1,h2⟩:=o9 (a6 h.lim i) (Nat.mod_lt _ U) h.hb hd
 have hz:i<z.length:=by rw [h.len]; omega
 have hs:=fk (l:=z) (v:=d % 4294967296) hz
 have hvv:=h.val
 refine ⟨hi,by rw [List.length_set]; exact h.len,h.lim.set (Nat.mod_lt _ U),h2,hlim.2.2,?_⟩
 rw [bF hi,Nat.pow_succ,Nat.mul_add q]
 have e:=Nat.div_add_mod (c+q*v.getD i 0) 4294967296
 have e5:q*(4294967296^i*v.getD i 0)=4294967296^i*(q*v.getD i 0):=Nat.mul_left_comm _ _ _
 rw [e5]
 clear hd
 generalize z.getD i 0=x at *
 generalize q*v.getD i 0=y at *
 generalize 4294967296^i=B at *
 generalize (c+y) / 4294967296=t1 at *
 generalize (c+y) % 4294967296=t2 at *
 generalize d % 4294967296=r at *
 generalize d / 9223372036854775808=q' at *
 have e2:B*(r+t2+b)=B*(x+4294967296*q'):=by rw [h1]
 have e3:B*(4294967296*t1+t2)=B*(c+y):=by rw [e]
 simp only [Nat.mul_add,Nat.mul_assoc] at e2 e3 hvv ⊢
 omega
structure BackR (u v:List Nat) (z:List Nat) (i c:Nat):Prop where
 le:i≤v.length
 len:z.length=u.length
 lim:bq z
 hc:c≤1
 val:lv z+4294967296^i*c=lv u+lv (v.take i)
theorem BackR.start {u v:List Nat} (hu:bq u):BackR u v u 0 0:=⟨Nat.zero_le _,rfl,hu,by decide,by simp [lv]⟩
theorem BackR.step {u v z:List Nat} {i c:Nat} (h:BackR u v z i c) (hv:bq v) (hi:i<v.length) (hl:v.length≤u.length) :
  BackR u v (z.set i ((c+(z.getD i 0+v.getD i 0)) % 4294967296)) (i+1) ((c+(z.getD i 0+v.getD i 0)) / 4294967296):=by
 have hz:i<z.length:=by rw [h.len]; omega
 have hs:=fk (l:=z) (v:=(c+(z.getD i 0+v.getD i 0)) % 4294967296) hz
 have hvv:=h.val
 have g1:=a6 h.lim i
 have g2:=a6 hv i
 have hc:=h.hc
 refine ⟨hi,by rw [List.length_set]; exact h.len,h.lim.set (Nat.mod_lt _ U),by omega,?_⟩
 rw [bF hi,Nat.pow_succ]
 generalize z.getD i 0=x at *
 generalize v.getD i 0=y at *
 generalize 4294967296^i=B at *
 have e:4294967296*((c+(x+y)) / 4294967296)+(c+(x+y)) % 4294967296=c+(x+y):=by omega
 generalize (c+(x+y)) / 4294967296=t1 at *
 generalize (c+(x+y)) % 4294967296=t2 at *
 have e3:B*(4294967296*t1+t2)=B*(c+(x+y)):=by rw [e]
 simp only [Nat.mul_add,Nat.mul_assoc] at e3 hvv ⊢
 omega
theorem SubR.good {u v z:List Nat} {q b c d:Nat} (h:SubR u v q z v.length b c) (hl:u.length=v.length+1) (hV:0<lv v)
  (hQ:lv u / lv v≤q) (hd:d=((z.getD v.length 0+18446744073709551616 - c) % 18446744073709551616+18446744073709551616 - b) % 18446744073709551616) (h0:d / 9223372036854775808=0) :
  q=lv u / lv v∧bq (z.set v.length (d % 4294967296))∧lv (z.set v.length (d % 4294967296))=lv u % lv v:=by
 obtain ⟨h1,h2⟩:=o9 (a6 h.lim v.length) h.hc h.hb hd
 have hz:v.length<z.length:=by rw [h.len]; omega
 have hs:=fk (l:=z) (v:=d % 4294967296) hz
 have hvv:=h.val
 rw [List.take_length] at hvv
 have e:lv (z.set v.length (d % 4294967296))+q*lv v=lv u:=by
  rw [h0] at h1
  generalize z.getD v.length 0=x at *
  clear hd
  generalize d % 4294967296=r at *
  generalize 4294967296^v.length=B at *
  have e2:B*(r+c+b)=B*(x+4294967296*0):=by rw [h1]
  simp only [Nat.mul_add] at e2 hvv
  omega
 have e4:lv (z.set v.length (d % 4294967296))=lv u - q*lv v:=by omega
 have hle:q≤lv u / lv v:=(Nat.le_div_iff_mul_le hV).2 X
 have eq:q=lv u / lv v:=by omega
 refine ⟨eq,h.lim.set (Nat.mod_lt _ U),?_⟩
 have:=Nat.div_add_mod (lv u) (lv v)
 rw [e4,eq,Nat.mul_comm]; omega
theorem SubR.bad {u v z:List Nat} {q b c d:Nat} (h:SubR u v q z v.length b c) (hl:u.length=v.length+1) (hV:0<lv v)
  (hQ:lv u / lv v≤q) (hq:q≤lv u / lv v+1) (hd:d=((z.getD v.length 0+18446744073709551616 - c) % 18446744073709551616+18446744073709551616 - b) % 18446744073709551616) (h0:d / 9223372036854775808≠0) :
  q=lv u / lv v+1∧bq (z.set v.length (d % 4294967296))∧lv (z.set v.length (d % 4294967296))+lv v=lv u % lv v+4294967296^(v.length+1):=by
 obtain ⟨h1,h2⟩:=o9 (a6 h.lim v.length) h.hc h.hb hd
 have hz:v.length<z.length:=by rw [h.len]; omega
 have hs:=fk (l:=z) (v:=d % 4294967296) hz
 have hvv:=h.val
 rw [List.take_length] at hvv
 have hL:bq (z.set v.length (d % 4294967296)):=h.lim.set (Nat.mod_lt _ U)
 have hlt:=gu hL
 rw [List.length_set,h.len,hl] at hlt
 have h3:d / 9223372036854775808=1:=by omega
 have e:lv (z.set v.length (d % 4294967296))+q*lv v=lv u+4294967296^(v.length+1):=by
  rw [h3] at h1
  generalize z.getD v.length 0=x at *
  clear hd hL hlt h0 h2 h3
  generalize lv (z.set v.length (d % 4294967296))=y at *
  generalize d % 4294967296=r at *
  rw [Nat.pow_succ]
  generalize 4294967296^v.length=B at *
  have e2:B*(r+c+b)=B*(x+4294967296*1):=by rw [h1]
  simp only [Nat.mul_add] at e2 hvv
  omega
 have hm:=Nat.div_add_mod (lv u) (lv v)
 have hne:q≠lv u / lv v:=fun hx=>by
  rw [hx,Nat.mul_comm] at e;omega
 have eq:q=lv u / lv v+1:=by omega
 refine ⟨eq,hL,?_⟩
 rw [eq,Nat.add_mul,Nat.one_mul,Nat.mul_comm] at e
 omega
theorem BackR.good {u v z:List Nat} {c R x:Nat} (h:BackR u v z v.length c) (hl:u.length=v.length+1) (hV:R<lv v) (hv:bq v)
  (hu:lv u+lv v=R+4294967296^(v.length+1)) (hx:x=(z.getD v.length 0+c) % 4294967296):bq (z.set v.length x)∧lv (z.set v.length x)=R:=by
 have hz:v.length<z.length:=by rw [h.len]; omega
 have hs:=fk (l:=z) (v:=x) hz
 have hvv:=h.val
 rw [List.take_length] at hvv
 have hL:bq (z.set v.length x):=h.lim.set (by rw [hx]; exact Nat.mod_lt _ U)
 have hlt:=gu hL
 rw [List.length_set,h.len,hl] at hlt
 have hzl:=a6 h.lim v.length
 have hc:=h.hc
 have hvl:=gu hv
 refine ⟨hL,?_⟩
 rcases Nat.lt_or_ge (z.getD v.length 0+c) 4294967296 with h5 | h5
 ·have h6:x=z.getD v.length 0+c:=by omega
  have e:lv (z.set v.length x)=lv u+lv v:=by
   rw [h6] at hs
   rw [h6]
   rw [Nat.mul_add] at hs
   omega
  omega
 ·have h6:x+4294967296=z.getD v.length 0+c:=by omega
  have e:lv (z.set v.length x)+4294967296^(v.length+1)=lv u+lv v:=by
   generalize lv (z.set v.length x)=y at *
   clear hlt
   rw [hu,Nat.pow_succ]
   generalize z.getD v.length 0=t at *
   rw [hu,Nat.pow_succ] at hvv
   generalize 4294967296^v.length=B at *
   have e2:B*(x+4294967296)=B*(t+c):=by rw [h6]
   simp only [Nat.mul_add] at e2
   omega
  omega
end Tor
end
section
namespace Tor
open Go Go.RowKit Go.Proofs
variable [Tor.Co.Kc]
def gO (W0 W:List Nat) (j m:Nat):Prop:=W.length=W0.length∧W.take j=W0.take j∧W.drop (j+m)=W0.drop (j+m)
theorem gO.refl (W:List Nat) (j m:Nat):gO W W j m:=⟨rfl,rfl,rfl⟩
theorem gO.set {W0 W:List Nat} {j m i x:Nat} (h:gO W0 W j m) (hi:i<m):gO W0 (W.set (j+i) x) j m :=
 ⟨by rw [List.length_set]; exact h.1,by rw [List.take_set_of_le X]; exact h.2.1,by rw [List.drop_set_of_lt X]; exact h.2.2⟩
theorem Bt {q Q:Nat} (h:q=Q+1) (hq:q<4294967296):(q+18446744073709551616 - 1) % 18446744073709551616 % 4294967296=Q:=by omega
structure DgS (W0 v:List Nat) (j k q:Nat) (s:List Nat × Nat × Nat × Nat):Prop where
 out:gO W0 s.1 j (k+3)
 lim:bq s.1
 sub:SubR (win W0 j (k+3)) v q (win s.1 j (k+3)) s.2.1 s.2.2.1 s.2.2.2
structure DgB (W0 W1 v:List Nat) (j k:Nat) (s:List Nat × Nat × Nat):Prop where
 out:gO W0 s.1 j (k+3)
 lim:bq s.1
 back:BackR (win W1 j (k+3)) v (win s.1 j (k+3)) s.2.1 s.2.2
abbrev AF (W v:List Nat) (j k:Nat):Type := {W':List Nat // gO W W' j (k+3)∧bq W'∧lv (win W' j (k+3))=lv (win W j (k+3)) % lv v}
theorem GuessR.aux {top h:Nat} (ht:top<(h+1)*4294967296) (hh:2147483648≤h):top<h*4294967298:=by
 have e1:h*4294967298=h*4294967296+h*2:=by rw [← Nat.mul_add]
 have e2:(h+1)*4294967296=h*4294967296+4294967296:=by rw [Nat.add_mul]
 have e3:4294967296≤h*2:=Nat.mul_le_mul_right 2 hh
 rw [e1]; rw [e2] at ht
 exact Nat.lt_of_lt_of_le ht (Nat.add_le_add_left e3 _)
theorem GuessR.start {BT BU P h v2 top u2:Nat} (g:Gss BT BU 4294967296 P h v2 top u2) (hh:2147483648≤h) (hl:h<4294967296):GuessR h top (BT / BU) (top / h,top % h):=by
 have hm:=Nat.mod_lt top (show 0<h by omega)
 refine ⟨?_,?_,g.start,?_⟩
 ·show top / h*h+top % h=top
  rw [Nat.mul_comm]; exact Nat.div_add_mod top h
 ·show top % h<_;omega
 ·have ht:=g.top
  have h1:top<h*4294967298:=GuessR.aux ht hh
  exact Nat.lt_succ_iff.1 (Nat.div_lt_of_lt_mul h1)
theorem GuessR.next {h top Q q r:Nat} (s:GuessR h top Q (q,r)) (hQ:Q<q) (hr:r+h<4294967296):GuessR h top Q (q - 1,r+h):=by
 obtain ⟨p,rfl⟩ : ∃ p,q=p+1:=⟨q - 1,by omega⟩
 have e:(p+1)*h+r=top:=s.e
 have m:p+1≤4294967297:=s.m
 refine ⟨?_,hr,?_,?_⟩
 ·show (p+1 - 1)*h+(r+h)=top
  rw [Nat.add_mul,Nat.one_mul] at e
  rw [Nat.add_sub_cancel]; omega
 ·show Q≤p+1 - 1;omega
 ·show p+1 - 1≤_;omega
theorem GuessR.last {BT BU P h v2 top u2 q r:Nat} (g:Gss BT BU 4294967296 P h v2 top u2) (s:GuessR h top (BT / BU) (q,r)) (hQ:BT / BU<q) (hr:4294967296≤r+h):q - 1<4294967296∧BT / BU≤q - 1∧q - 1≤BT / BU+1:=by
 obtain ⟨p,rfl⟩ : ∃ p,q=p+1:=⟨q - 1,by have:=Nat.lt_of_le_of_lt (Nat.zero_le _) hQ;omega⟩
 have e:(p+1)*h+r=top:=s.e
 have ht:=g.top
 have e2:p*h+(r+h)=top:=by rw [Nat.add_mul,Nat.one_mul] at e;omega
 have h1:p<4294967296:=by
  rcases Nat.lt_or_ge p 4294967296 with h1 | h1
  ·exact h1
  ·have:=Nat.mul_le_mul_right h h1
   omega
 rw [Nat.add_sub_cancel]
 exact ⟨h1,Nat.lt_succ_iff.1 hQ,g.done e2 h1 (.inr hr)⟩
attribute [local irreducible] J PJ aC one slT bL bE bw exT cj eP aT aH slV VT.le Ret bQ
set_option maxRecDepth 20000 in
theorem wN (b N j cap k:Nat) (W v:List Nat) (hW:bq W) (hv:bq v) (hN:W.length=N) (hj:j+(k+3)≤N) (hk:v.length=k+2) (hb31:v.length≤1099511627776) (hh:2147483648≤v.getD (k+1) 0) (hlt:lv (win W j (k+3))<lv v*4294967296) :
  OkI Tryz.prog 172 [one (ws b j 1 (k+3) cap),ch v] [aH (some b) 83 .one N N (f8 W)] (fun _:AF W v j k=>one (.int .u32 ((lv (win W j (k+3)) / lv v:Nat):Int))) (fun s => [aH (some b) 83 .one N N (f8 s.1)]):=by
 unfold ch
 rw [hk]
 refine OkI.enter Tryz.func172 Z Tryz.ntmps172 Z (fun w O => ?_)
 have lw:=tP (W:=W) (j:=j) (m:=k+3) X
 have g:=AE (hW.win j (k+3)) hv lw hk X hlt
 rw [gC X,gC X,gC X] at g
 have x0:=a6 hW (j+k)
 have x1:=a6 hW (j+(k+1))
 have x2:=a6 hW (j+(k+2))
 have y1:=a6 hv (k+1)
 have y0:=a6 hv k
 rw [hk] at hb31
 have y1':v.getD (k+2 - 1) 0<4294967296:=y1
 have y0':v.getD (k+2 - 2) 0<4294967296:=y0
 have yh':2147483648≤v.getD (k+2 - 1) 0:=hh
 have x1':W.getD (j+(k+2 - 1)) 0<4294967296:=x1
 have x0':W.getD (j+(k+2 - 2)) 0<4294967296:=x0
 refine ae (ai (Cd Z (Cf (aa (ae (ai (Cc Z (Cb (a9 Z) (Cd Z ?_)))))))))
 refine Cf (aa (ae (ai (Cc Z (Cc Z (Cb (cm _ 1 Z Z X X) (Cb (aI Z Z X) (Cb (aY Z) (Cb (cd Z X) ?_)))))))))
 refine Cd Z (Cf (aa (ae (bG 13 bH Y U (Cc Z (Cc Z (Cb (dl Z Z X) (Cb (bM 0 Z Z X) (Cb (cd Z X) ?_)))))))))
 refine Cb (jQ (s:=32) Z Z X X) (Cc Z (Cc Z (Cb (cm _ 1 Z Z X X) (Cb (dl Z Z X) (Cb (bM 0 Z Z X) (Cb (cd Z X) (Cb (jP Z Z X X) (Cf (Cd Z ?_)))))))))
 refine Cf (aa (ae (bG 7 bH Y U (Cc Z (Cc Z (Cb (mw Z Z X X) (Cc Z (Cc Z (Cb (eh _ Z Z Z X) ?_)))))))))
 refine Cd Z (Cf (Cd Z (Cf (aa (ae (aw (cv (Γ' := [(0,_),(1,_),(4,_),(5,_),(6,_),(8,_),(9,_)]) BW (SubM.refl _) ?_)))))))
 refine yG (σ:=Nat) (Γk := [(0,_),(1,_),(4,_),(5,_)]) (dO.cons Z A (dO.cons Z A (dO.cons Z A (dO.cons Z A dO.nil)))) (fun q => [(8,one (.int .u64 (q:Nat)))]) (fun _ M0=>M0) (fun q=>q<4294967296∧lv (win W j (k+3)) / lv v≤q∧q≤lv (win W j (k+3)) / lv v+1) ?_ (fun q hq => ?_)
 ·refine cv (Γ' := [(0,_),(1,_),(4,_),(5,_),(6,_),(8,_),(9,_)]) BW (SubM.refl _) ?_
  refine bO (σ:=Nat × Nat) (Γk := [(0,_),(1,_),(4,_),(5,_),(6,_)]) BW (fun p => [(8,one (.int .u64 (p.1:Nat))),(9,one (.int .u64 (p.2:Nat)))]) (fun p M0=>M0) (fun p=>GuessR (v.getD (k+1) 0) (W.getD (j+(k+2)) 0*4294967296+W.getD (j+(k+1)) 0) (lv (win W j (k+3)) / lv v) p) (fun p=>p.1) (((W.getD (j+(k+2)) 0*4294967296+W.getD (j+(k+1)) 0) / v.getD (k+1) 0,(W.getD (j+(k+2)) 0*4294967296+W.getD (j+(k+1)) 0) % v.getD (k+1) 0)) (GuessR.start g hh y1) BX (.keep Ca (.nil)) (fun p hp => ?_)
  refine cg (Γ' := [(8,_),(9,_),(0,_),(1,_),(4,_),(5,_),(6,_)]) (M' := [_]) Z Z ?_
  obtain ⟨q,r⟩:=p
  dsimp only at hp ⊢
  have hr:r<4294967296:=hp.r
  have hqm:q≤4294967297:=hp.m
  by_cases hA:4294967295<q
  ·have hQ:lv (win W j (k+3)) / lv v<q:=Nat.lt_of_lt_of_le g.q_lt hA
   have hq1:1≤q:=Nat.lt_of_le_of_lt (Nat.zero_le _) hQ
   have hq2:(q+18446744073709551616 - 1) % 18446744073709551616=q - 1:=by omega
   by_cases hC:4294967296≤r+v.getD (k+2 - 1) 0
   ·refine ae (ae (bG 22 bH Y U (Cc Z (Cb (sT X (dx Z Z)) (Cc Z (sg0 Z Z Z Z (sg0 Z Z Z Z (sg0 Z Z Z Z (sg0 Z Z Z Z ?_)))))))))
    refine sg0 Z Z Z Z (sg0 Z Z Z Z (sg0 Z Z Z Z (sg0 Z Z Z Z (sg0 Z Z Z Z (sg0 Z Z Z Z (sg0 Z Z Z Z (sg0 Z Z Z Z (sg0 Z Z Z Z (sg0 Z Z Z Z ?_)))))))))
    refine sg0 Z Z Z Z (sg0 Z Z Z Z (sg0 Z Z Z Z (sg0 Z Z Z Z (Cb (bh Z Z) (Cf (Cf (aa (aM Z (ay ?_)))))))))
    refine aa (aw (ae (ai (Cc Z (Cb (eX Z Z X U) (Cd Z (Cf (aa (ae ?_)))))))))
    refine ai (Cc Z (Cc Z (Cb (d5 Z Z X) (Cd Z (Cf (aa (ae (ai (Cc Z ?_)))))))))
    refine Cb (sT X (dx Z Z)) (Cf (aa (aM Z (a8 (dG Z (ax (aL ?_)))))))
    rw [hq2]
    refine cE (q - 1) (hp.last g hQ hC) BX (.keep Ca (.nil))
   ·refine ae (ae (bG 22 bH Y U (Cc Z (Cb (sT X (dx Z Z)) (Cc Z (sg0 Z Z Z Z (sg0 Z Z Z Z (sg0 Z Z Z Z (sg0 Z Z Z Z ?_)))))))))
    refine sg0 Z Z Z Z (sg0 Z Z Z Z (sg0 Z Z Z Z (sg0 Z Z Z Z (sg0 Z Z Z Z (sg0 Z Z Z Z (sg0 Z Z Z Z (sg0 Z Z Z Z (sg0 Z Z Z Z (sg0 Z Z Z Z ?_)))))))))
    refine sg0 Z Z Z Z (sg0 Z Z Z Z (sg0 Z Z Z Z (sg0 Z Z Z Z (Cb (bh Z Z) (Cf (Cf (aa (aM Z (ay ?_)))))))))
    refine aa (aw (ae (ai (Cc Z (Cb (eX Z Z X U) (Cd Z (Cf (aa (ae ?_)))))))))
    refine ai (Cc Z (Cc Z (Cb (d5 Z Z X) (Cd Z (Cf (aa (ae (ai (Cc Z ?_)))))))))
    refine Cb (sF X (dx Z Z)) (Cf (aa (aD Z (ay (aK ?_)))))
    rw [hq2]
    refine aX ((q - 1,r+v.getD (k+1) 0)) (hp.next hQ (Nat.lt_of_not_le hC)) X BX (.keep Ca (.nil))
  ·have hqv:=pa (q:=q) (c:=0) X y0 U
   have hqv1:q*v.getD (k+2 - 2) 0<18446744073709551616:=hqv.1
   by_cases hB:r*4294967296+W.getD (j+(k+2 - 2)) 0<q*v.getD (k+2 - 2) 0
   ·have hQ:lv (win W j (k+3)) / lv v<q:=g.low hp.e hB
    have hq1:1≤q:=Nat.lt_of_le_of_lt (Nat.zero_le _) hQ
    have hq2:(q+18446744073709551616 - 1) % 18446744073709551616=q - 1:=by omega
    by_cases hC:4294967296≤r+v.getD (k+2 - 1) 0
    ·refine ae (ae (bG 22 bH Y U (Cc Z (Cb (sF X (dx Z Z)) (Cc Z (Ce (ab Z) (Ce (ab Z) (Ce (ab Z) (Ce (cm _ 2 Z Z X X) ?_)))))))))
     refine Ce (aI Z Z X) (Ce (aY Z) (Ce (cd Z X) (Ce (jM Z Z X) (Ce (ab Z) (Ce (oS Z X) (Ce (ab Z) (Ce (ab Z) (Ce (cm _ 2 Z Z X X) (Ce (dl Z Z X) ?_)))))))))
     refine Ce (bM 0 Z Z X) (Ce (cd Z X) (Ce (jP Z Z X X) (Ce (sT X (dx Z Z)) (Cb (bT Z Z) (Cf (Cf (aa (aM Z (ay ?_)))))))))
     refine aa (aw (ae (ai (Cc Z (Cb (eX Z Z X U) (Cd Z (Cf (aa (ae ?_)))))))))
     refine ai (Cc Z (Cc Z (Cb (d5 Z Z X) (Cd Z (Cf (aa (ae (ai (Cc Z ?_)))))))))
     refine Cb (sT X (dx Z Z)) (Cf (aa (aM Z (a8 (dG Z (ax (aL ?_)))))))
     rw [hq2]
     refine cE (q - 1) (hp.last g hQ hC) BX (.keep Ca (.nil))
    ·refine ae (ae (bG 22 bH Y U (Cc Z (Cb (sF X (dx Z Z)) (Cc Z (Ce (ab Z) (Ce (ab Z) (Ce (ab Z) (Ce (cm _ 2 Z Z X X) ?_)))))))))
     refine Ce (aI Z Z X) (Ce (aY Z) (Ce (cd Z X) (Ce (jM Z Z X) (Ce (ab Z) (Ce (oS Z X) (Ce (ab Z) (Ce (ab Z) (Ce (cm _ 2 Z Z X X) (Ce (dl Z Z X) ?_)))))))))
     refine Ce (bM 0 Z Z X) (Ce (cd Z X) (Ce (jP Z Z X X) (Ce (sT X (dx Z Z)) (Cb (bT Z Z) (Cf (Cf (aa (aM Z (ay ?_)))))))))
     refine aa (aw (ae (ai (Cc Z (Cb (eX Z Z X U) (Cd Z (Cf (aa (ae ?_)))))))))
     refine ai (Cc Z (Cc Z (Cb (d5 Z Z X) (Cd Z (Cf (aa (ae (ai (Cc Z ?_)))))))))
     refine Cb (sF X (dx Z Z)) (Cf (aa (aD Z (ay (aK ?_)))))
     rw [hq2]
     refine aX ((q - 1,r+v.getD (k+1) 0)) (hp.next hQ (Nat.lt_of_not_le hC)) X BX (.keep Ca (.nil))
   ·refine ae (ae (bG 22 bH Y U (Cc Z (Cb (sF X (dx Z Z)) (Cc Z (Ce (ab Z) (Ce (ab Z) (Ce (ab Z) (Ce (cm _ 2 Z Z X X) ?_)))))))))
    refine Ce (aI Z Z X) (Ce (aY Z) (Ce (cd Z X) (Ce (jM Z Z X) (Ce (ab Z) (Ce (jQ (s:=32) Z Z X X) (Ce (ab Z) (Ce (ab Z) (Ce (cm _ 2 Z Z X X) (Ce (dl Z Z X) ?_)))))))))
    refine Ce (bM 0 Z Z X) (Ce (cd Z X) (Ce (jP Z Z X X) (Ce (sF X (dx Z Z)) (Cb (bT Z Z) (Cf (Cf (aa (aD Z (a8 ?_)))))))))
    refine ax (ax (aL ?_))
    have hqB:q<4294967296:=by omega
    refine cE (q) (⟨hqB,hp.q,g.done hp.e hqB (.inl (Nat.le_of_not_lt hB))⟩) BX (.keep Ca (.nil))
 ·obtain ⟨hq1,hq2,hq3⟩:=hq
  have lu:=lw
  refine aa (ae (ai (Cd Z (Cd Z (Cf (aa (ae (ae (ai ?_)))))))))
  refine Cc Z (Cb (a9 Z) (Cc Z (Cf (aa (aw (cv (Γ' := [(0,_),(1,_),(4,_),(5,_),(8,_),(10,_),(11,_),(74,_),(75,_),(76,_)]) BW (SubM.refl _) ?_))))))
  refine bO (σ:=List Nat × Nat × Nat × Nat) (Γk := [(0,_),(1,_),(4,_),(5,_),(8,_),(74,_),(75,_)]) BW (fun s => [(76,one (.int .i64 (s.2.1:Nat))),(10,one (.int .u64 (s.2.2.1:Nat))),(11,one (.int .u64 (s.2.2.2:Nat)))]) (fun s M0=>(M0.set 0 (aH (some b) 83 .one N N (f8 s.1)))) (fun s=>DgS W v j k q s) (fun s=>k+2 - s.2.1) ((W,0,0,0)) (⟨gO.refl _ _ _,hW,SubR.start (hW.win _ _)⟩) BX (.keep Ca (.nil)) (fun s hs => ?_)
  refine cg (Γ' := [(76,_),(10,_),(11,_),(0,_),(1,_),(4,_),(5,_),(8,_),(74,_),(75,_)]) (M' := [_]) Z Z ?_
  obtain ⟨W1,i,br,c⟩:=s
  dsimp only at hs ⊢
  have h1o:=hs.out
  have h1l:=hs.lim
  have h1s:=hs.sub
  dsimp only at h1o h1l h1s
  have hbr:=h1s.hb
  have hcr:=h1s.hc
  have hN1:W1.length=N:=h1o.1.trans hN
  refine ae (ai (Cb (bD Z Z) (Cf (aa (ae ?_)))))
  refine ku Z (fun hc => ?_) (fun hc => ?_)
  ·have hi:i<k+2:=by omega
   have z1:=a6 h1l (j+i)
   have v1:=a6 hv i
   have sl:=pa hq1 v1 hcr
   have sl1:=sl.1
   have sl2:=sl.2.1
   have sl3:=sl.2.2
   obtain ⟨d,hd⟩ : ∃ d,d=((W1.getD (j+i) 0+18446744073709551616 - (c+q*v.getD i 0) % 4294967296) % 18446744073709551616+18446744073709551616 - br) % 18446744073709551616:=⟨_,rfl⟩
   have hst:=h1s.step hv hq1 X (by rw [lu,hk]; omega) (d:=d) (by rw [gC X]; exact hd)
   rw [← kJ X] at hst
   refine ay (aa (ae (aw (ae (ai (Cc Z (Cb (aI Z Z X) (Cb (aY Z) (Cd Z ?_)))))))))
   refine Cd Z (Cf (aa (ae (ai (Cc Z (Cc Z (Cc Z (Cb (cd Z X) (Cb (jM Z Z X) ?_)))))))))
   refine Cb (d5 Z Z X) (Cd Z (Cf (aa (ae (ai (Cc Z (Cc Z (Cb (dl Z Z X) (Cb (bM 0 Z Z X) ?_)))))))))
   refine Cb (cd Z X) (Cc Z (Cb (rY Z X) (Cb (eX Z Z X X) (Cc Z (Cb (eX Z Z X X) (Cd Z (Cf (aa (ae ?_)))))))))
   refine ai (Cc Z (Cc Z (Cc Z (Cb (cF Z) (Cb (dl Z Z X) ?_)))))
   (refine au 0 Z Z Z ?_ Z ?_;omega)
   refine Cf (aa (ae (ai (Cc Z (Cb (oI Z) (Cd Z (Cf (aa (ai ?_)))))))))
   refine Cc Z (Cb (fw Z) (Cd Z (Cf (aK (aa (ai (Cb (bU _ 1 Z Z X) (Cc Z (Cf ?_)))))))))
   rw [← hd]
   refine aX ((W1.set (j+i) (d % 4294967296),i+1,d / 9223372036854775808,(c+q*v.getD i 0) / 4294967296)) (⟨h1o.set X,h1l.set (Nat.mod_lt _ U),hst⟩) (by (simp only []; omega)) BX (.keep (fI X Z) (.nil))
  ·have hi:i=k+2:=by have:=h1s.le;omega
   subst hi
   have z1:=a6 h1l (j+(k+2))
   obtain ⟨d,hd⟩ : ∃ d,d=((W1.getD (j+(k+2)) 0+18446744073709551616 - c) % 18446744073709551616+18446744073709551616 - br) % 18446744073709551616:=⟨_,rfl⟩
   have h1v:SubR (win W j (k+3)) v q (win W1 j (k+3)) v.length br c:=by rw [hk]; exact h1s
   have hdw:d=(((win W1 j (k+3)).getD v.length 0+18446744073709551616 - c) % 18446744073709551616+18446744073709551616 - br) % 18446744073709551616:=by rw [hk,gC X]; exact hd
   refine a8 (ax (ax (aL (aa (ae (ai (Cc Z (Cc Z (Cb (dl Z Z X) ?_)))))))))
   refine Cb (bM 0 Z Z X) (Cb (cd Z X) (Cc Z (Cb (eX Z Z X X) (Cc Z (Cb (eX Z Z X X) (Cd Z (Cf (aa (ae ?_)))))))))
   refine ai (Cc Z (Cc Z (Cc Z (Cb (cF Z) (Cb (dl Z Z X) ?_)))))
   (refine au 0 Z Z Z ?_ Z ?_;omega)
   refine Cf (aa (ae (ae (ai (Cc Z (Cb (oI Z) (Cb (cQ Z Z) (Cf (aa ?_)))))))))
   rw [← hd]
   refine ku Z (fun h0 => ?_) (fun h0 => ?_)
   ·obtain ⟨f1,f2,f3⟩:=h1v.good (by rw [lu,hk]) g.V0 hq2 hdw X
    rw [hk, ← kJ X] at f3
    refine ae (ai (Cc Z (Cb (cF Z) (Cd Z (Cf (aa (aG (aJ ?_))))))))
    refine tG (⟨W1.set (j+(k+2)) (d % 4294967296),h1o.set X,h1l.set (Nat.mod_lt _ U),f3⟩:AF W v j k) Tryz.results172 (.tmp Z (av (by rw [← f1,Nat.mod_eq_of_lt hq1]))) (.keep (fI X Z) .nil)
   ·obtain ⟨f1,f2,f3⟩:=h1v.bad (by rw [lu,hk]) g.V0 hq2 hq3 hdw X
    rw [hk, ← kJ X] at f3
    obtain ⟨W2,hW2⟩ : ∃ W2,W2=W1.set (j+(k+2)) (d % 4294967296):=⟨_,rfl⟩
    have h2o:gO W W2 j (k+3):=hW2▸h1o.set X
    have h2l:bq W2:=hW2▸h1l.set (Nat.mod_lt _ U)
    have hN2:W2.length=N:=h2o.1.trans hN
    rw [← hW2] at f3
    refine ay (aa (ae (ai (Cd Z (Cf (aa (ae (ae (ai ?_)))))))))
    refine Cc Z (Cb (a9 Z) (Cc Z (Cf (aa (aw (cv (Γ' := [(0,_),(4,_),(5,_),(8,_),(11,_),(126,_),(127,_),(128,_)]) BW (SubM.refl _) ?_))))))
    refine bO (σ:=List Nat × Nat × Nat) (Γk := [(0,_),(4,_),(5,_),(8,_),(126,_),(127,_)]) BW (fun s => [(128,one (.int .i64 (s.2.1:Nat))),(11,one (.int .u64 (s.2.2:Nat)))]) (fun s M0=>(M0.set 0 (aH (some b) 83 .one N N (f8 s.1)))) (fun s=>DgB W W2 v j k s) (fun s=>k+2 - s.2.1) ((W2,0,0)) (⟨h2o,h2l,BackR.start (h2l.win _ _)⟩) BX (.keep (by (subst hW2;exact fI X Z)) (.nil)) (fun s hs => ?_)
    refine cg (Γ' := [(128,_),(11,_),(0,_),(4,_),(5,_),(8,_),(126,_),(127,_)]) (M' := [_]) Z Z ?_
    obtain ⟨W3,i,c3⟩:=s
    dsimp only at hs ⊢
    have h3o:=hs.out
    have h3l:=hs.lim
    have h3s:=hs.back
    dsimp only at h3o h3l h3s
    have hcr:=h3s.hc
    have hN3:W3.length=N:=h3o.1.trans hN
    have lu2:(win W2 j (k+3)).length=k+3:=tP X
    refine ae (ai (Cb (bD Z Z) (Cf (aa (ae ?_)))))
    refine ku Z (fun hc => ?_) (fun hc => ?_)
    ·have hi:i<k+2:=by omega
     have z1:=a6 h3l (j+i)
     have v1:=a6 hv i
     have hst:=h3s.step hv X (by rw [lu2,hk]; omega)
     rw [gC X, ← kJ X] at hst
     refine ay (aa (ae (aw (ae (ai (Cc Z (Cb (aI Z Z X) (Cb (aY Z) (Cd Z ?_)))))))))
     refine Cd Z (Cf (aa (ae (ai (Cc Z (Cc Z (Cc Z (Cb (dl Z Z X) (Cb (bM 0 Z Z X) ?_)))))))))
     refine Cb (cd Z X) (Cc Z (Cb (cd Z X) (Cb (d5 Z Z X) (Cb (d5 Z Z X) (Cd Z (Cf (aa (ae (ai ?_)))))))))
     refine Cc Z (Cc Z (Cc Z (Cb (cF Z) (Cb (dl Z Z X) ?_))))
     (refine au 0 Z Z Z ?_ Z ?_;omega)
     refine Cf (aa (ai (Cc Z (Cb (fw Z) (Cd Z (Cf (aK (aa (ai ?_)))))))))
     refine Cb (bU _ 1 Z Z X) (Cc Z (Cf ?_))
     refine aX ((W3.set (j+i) ((c3+(W3.getD (j+i) 0+v.getD i 0)) % 4294967296),i+1,(c3+(W3.getD (j+i) 0+v.getD i 0)) / 4294967296)) (⟨h3o.set X,h3l.set (Nat.mod_lt _ U),hst⟩) (by (simp only []; omega)) BX (.keep (fI X Z) (.nil))
    ·have hi:i=k+2:=by have:=h3s.le;omega
     subst hi
     have z1:=a6 h3l (j+(k+2))
     have h3v:BackR (win W2 j (k+3)) v (win W3 j (k+3)) v.length c3:=by rw [hk]; exact h3s
     obtain ⟨f4,f5⟩:=h3v.good (R:=lv (win W j (k+3)) % lv v) (x:=(W3.getD (j+(k+2)) 0+c3) % 4294967296) (by rw [lu2,hk]) (Nat.mod_lt _ g.V0) hv (by rw [hk]; exact f3) (by rw [hk,gC X])
     rw [hk, ← kJ X] at f5
     refine a8 (ax (ax (aL (aa (ae (ai (Cc Z (Cc Z (Cb (dl Z Z X) ?_)))))))))
     refine Cb (bM 0 Z Z X) (Cc Z (Cb (cF Z) (Cb (Av Z Z) (Cb (dl Z Z X) ?_))))
     (refine au 0 Z Z Z ?_ Z ?_;omega)
     refine Cf (aa (ae (ai (Cc Z (Cb (eX Z Z X U) (Cb (cF Z) (Cd Z (Cf (aa ?_)))))))))
     refine aG ?_
     have e1:(q+18446744073709551616 - 1) % 18446744073709551616 % 4294967296=lv (win W j (k+3)) / lv v:=Bt f1 hq1
     refine tG (⟨W3.set (j+(k+2)) ((W3.getD (j+(k+2)) 0+c3) % 4294967296),h3o.set X,h3l.set (Nat.mod_lt _ U),f5⟩:AF W v j k) Tryz.results172 (.tmp Z (av (by rw [e1]))) (.keep (fI X (by rw [Nat.mod_eq_of_lt (show c3<4294967296 by omega)])) .nil)
end Tor
end
section
namespace Tor
open Go Go.RowKit Go.Proofs
variable [Tor.Co.Kc]
theorem qH (BT:List Nat) {j m:Nat} (h:j+m≤BT.length):lv (BT.drop j)=lv (win BT j m)+4294967296^m*lv (BT.drop (j+m)):=by
 have h1:=fG (BT.drop j) m (by simp;omega)
 rw [List.drop_drop] at h1
 exact h1
theorem f9 {BT:List Nat} {j:Nat} (h:j<BT.length):lv (BT.drop j)=BT.getD j 0+4294967296*lv (BT.drop (j+1)):=by
 rw [fj h]; rfl
structure DivR (BU BV n e:Nat) (p:List Nat × List Nat × Nat):Prop where
 le:p.2.2≤e+1
 lu:p.1.length=n+e+1
 lq:p.2.1.length=e+1
 limU:bq p.1
 limQ:bq p.2.1
 zero : ∀ k,k<p.2.2→p.2.1.getD k 0=0
 lt:lv (p.1.drop p.2.2)<BU
 val:lv p.1+lv p.2.1*BU=BV
theorem DivR.pre {BU BV n e j:Nat} {BT Q:List Nat} (h:DivR BU BV n e (BT,Q,j+1)) (hV:BU<4294967296^n):j+(n+1)≤BT.length∧lv (BT.drop (j+(n+1)))=0∧lv (BT.drop j)=lv (win BT j (n+1))∧lv (win BT j (n+1))<BU*4294967296:=by
 have hle:j+1≤e+1:=h.le
 have hlu:BT.length=n+e+1:=h.lu
 have hlt:lv (BT.drop (j+1))<BU:=h.lt
 have h1:j+(n+1)≤BT.length:=by omega
 have h2:=f9 (BT:=BT) (j:=j) X
 have h3:=qH BT h1
 have hd:=a6 (show bq BT from h.limU) j
 have h4:lv (BT.drop j)<BU*4294967296:=by
  rw [h2]
  generalize lv (BT.drop (j+1))=x at *
  generalize BT.getD j 0=y at *
  omega
 have h5:lv (BT.drop (j+(n+1)))=0:=by
  rcases Nat.eq_zero_or_pos (lv (BT.drop (j+(n+1)))) with h | h
  ·exact h
  ·exfalso
   have h6:4294967296^(n+1)≤4294967296^(n+1)*lv (BT.drop (j+(n+1))):=Nat.le_mul_of_pos_right _ h
   have h7:BU*4294967296<4294967296^(n+1):=by rw [Nat.pow_succ]; exact Nat.mul_lt_mul_of_pos_right hV U
   omega
 rw [h5,Nat.mul_zero,Nat.add_zero] at h3
 exact ⟨h1,h5,h3,h3▸h4⟩
theorem DivR.step {BU BV n e j q:Nat} {BT Q U':List Nat} (h:DivR BU BV n e (BT,Q,j+1)) (hV0:0<BU) (hV:BU<4294967296^n) (ho:gO BT U' j (n+1)) (hl:bq U') (hr:lv (win U' j (n+1))=lv (win BT j (n+1)) % BU) (hq:q=lv (win BT j (n+1)) / BU) :
  DivR BU BV n e (U',Q.set j q,j):=by
 obtain ⟨p1,p2,p3,p4⟩:=h.pre hV
 obtain ⟨o1,o2,o3⟩:=ho
 have hle:j+1≤e+1:=h.le
 have hlq:Q.length=e+1:=h.lq
 have hqB:q<4294967296:=by rw [hq]; exact Nat.div_lt_of_lt_mul p4
 have h0:Q.getD j 0=0:=h.zero j (Nat.lt_succ_self j)
 have hs:=fk (l:=Q) (k:=j) (v:=q) X
 rw [h0,Nat.mul_zero,Nat.add_zero] at hs
 have d1:=fG BT j X
 have d2:=fG U' j X
 have e1:=qH U' (j:=j) (m:=n+1) X
 rw [o3,p2,Nat.mul_zero,Nat.add_zero] at e1
 have hm:=Nat.div_add_mod (lv (win BT j (n+1))) BU
 have hv:lv BT+lv Q*BU=BV:=h.val
 refine ⟨Nat.le_of_succ_le hle,o1.trans h.lu,by rw [List.length_set]; exact h.lq,hl,bq.set h.limQ hqB,fun k hk => ?_,?_,?_⟩
 ·simp only at hk ⊢
  rw [dC X,if_neg X]; exact h.zero k (Nat.lt_succ_of_lt hk)
 ·show lv (U'.drop j)<BU
  rw [e1,hr]; exact Nat.mod_lt _ hV0
 ·show lv U'+lv (Q.set j q)*BU=BV
  rw [hs, ← hv,d1,d2,o2,e1,p3,hr,hq]
  generalize lv (win BT j (n+1))=w at *
  have e2:(lv Q+4294967296^j*(w / BU))*BU=lv Q*BU+4294967296^j*(BU*(w / BU)):=by rw [Nat.add_mul,Nat.mul_assoc,Nat.mul_comm (w / BU)]
  have e3:4294967296^j*w=4294967296^j*(BU*(w / BU))+4294967296^j*(w % BU):=by rw [← Nat.mul_add,hm]
  rw [e2,e3]; omega
theorem DivR.start {BU BV n e:Nat} {BT:List Nat} (hU:bq BT) (hlu:BT.length=n+e+1) (hA:lv BT=BV) (hlt:BV<BU*4294967296^(e+1)):DivR BU BV n e (BT,List.replicate (e+1) 0,e+1):=by
 refine ⟨Nat.le_refl _,hlu,by simp,hU,bq.replicate _,fun k _=>co _ _,?_,by simp [dP,hA]⟩
 show lv (BT.drop (e+1))<BU
 have h1:=fG BT (e+1) X
 have h2:lv (BT.drop (e+1))*4294967296^(e+1)<BU*4294967296^(e+1):=by
  rw [Nat.mul_comm]; omega
 exact Nat.lt_of_mul_lt_mul_right h2
theorem DivR.finish {a b s n e:Nat} {BT Q:List Nat} (h:DivR (b*2^s) (a*2^s) n e (BT,Q,0)) (hb:0<b):lv Q=a / b∧lv BT=(a % b)*2^s:=by
 have hp:=Nat.two_pow_pos s
 have hlt:lv BT<b*2^s:=h.lt
 have hv:lv BT+lv Q*(b*2^s)=a*2^s:=h.val
 have hq:lv Q=a / b:=by
  have h1:lv Q*b≤a:=by
   refine Nat.le_of_mul_le_mul_right (c:=2^s) ?_ hp
   rw [Nat.mul_assoc]; omega
  have h2:a<(lv Q+1)*b:=by
   refine Nat.lt_of_mul_lt_mul_right (a:=2^s) ?_
   rw [Nat.mul_assoc,Nat.add_mul]; omega
  have h3:lv Q≤a / b:=(Nat.le_div_iff_mul_le hb).2 h1
  have h4:a / b<lv Q+1:=Nat.div_lt_of_lt_mul (by rw [Nat.mul_comm]; exact h2)
  omega
 refine ⟨hq,?_⟩
 have hm:=Nat.div_add_mod a b
 rw [hq] at hv
 have e1:a*2^s=(b*(a / b))*2^s+(a % b)*2^s:=by rw [← Nat.add_mul,hm]
 have e2:a / b*(b*2^s)=(b*(a / b))*2^s:=by rw [← Nat.mul_assoc,Nat.mul_comm (a / b)]
 omega
def uW (BT:List Nat) (s i:Nat):Nat:=(BT.getD (i+1) 0*4294967296+BT.getD i 0) / 2^s % 4294967296
theorem kK (F:Nat→Nat) : ∀ (n i:Nat) (S:Nat→Nat),(∀ k,i≤k→k<i+n→S k=F k+4294967296*S (k+1))→S (i+n)=0→lv ((List.range' i n).map F)=S i
 | 0, i, S, _, h0 => by simpa [lv] using h0.symm
 | n + 1, i, S, h, h0 => by
  rw [List.range'_succ,List.map_cons,lv,kK F n (i+1) S (fun k h1 h2=>h k X X) (by rw [← h0]; congr 1;omega),h i (Nat.le_refl _) X]
theorem wO {BT:List Nat} (hU:bq BT) {s i:Nat} (hs:s<32) (hi:i+1<BT.length):lv (BT.drop i) / 2^s=uW BT s i+4294967296*(lv (BT.drop (i+1)) / 2^s):=by
 have h1:=f9 (BT:=BT) (j:=i) X
 have h2:=f9 (BT:=BT) (j:=i+1) hi
 have hp:=Nat.two_pow_pos s
 obtain ⟨t,ht⟩ : ∃ t,4294967296=2^s*t:=⟨2^(32 - s),by rw [← Nat.pow_add,show s+(32 - s)=32 by omega]⟩
 have hd:=a6 hU i
 have e1:lv (BT.drop i) / 2^s % 4294967296=uW BT s i:=by
  unfold uW
  rw [h1,h2]
  generalize lv (BT.drop (i+1+1))=W
  generalize BT.getD (i+1) 0=x
  generalize BT.getD i 0=y
  have:y+4294967296*(x+4294967296*W)=(x*4294967296+y)+2^s*(t*(4294967296*W)):=by
   rw [← Nat.mul_assoc (2^s), ← ht]; omega
  rw [this,Nat.add_mul_div_left _ _ hp]
  rw [show t*(4294967296*W)=4294967296*(t*W) by rw [Nat.mul_left_comm],Nat.add_mul_mod_self_left]
 have e2:lv (BT.drop i) / 2^s / 4294967296=lv (BT.drop (i+1)) / 2^s:=by
  rw [Nat.div_div_eq_div_mul,Nat.mul_comm, ← Nat.div_div_eq_div_mul]
  congr 1
  rw [h1]; omega
 have:=Nat.div_add_mod (lv (BT.drop i) / 2^s) 4294967296
 rw [e1,e2] at this
 omega
def ey (BT:List Nat) (s n:Nat):List Nat:=(List.range' 0 n).map (uW BT s)
theorem yR {BT:List Nat} (hU:bq BT) {s n:Nat} (hs:s<32) (hn:n<BT.length) (h0:lv BT<4294967296^n):lv (ey BT s n)=lv BT / 2^s:=by
 have h1:lv (BT.drop n)=0:=by
  have h2:=fG BT n X
  rcases Nat.eq_zero_or_pos (lv (BT.drop n)) with h | h
  ·exact h
  ·have:=Nat.le_mul_of_pos_right (4294967296^n) h;omega
 have:=kK (uW BT s) n 0 (fun k=>lv (BT.drop k) / 2^s) (fun k _ hk=>wO hU hs X) (by rw [Nat.zero_add,h1]; exact Nat.zero_div _)
 unfold ey
 rw [this]; rfl
theorem yS (BT:List Nat) (s n:Nat):bq (ey BT s n):=fun d hd=>by
 obtain ⟨i,_,rfl⟩:=List.mem_map.1 hd
 exact Nat.mod_lt _ U
theorem nz (F:Nat→Nat) {n i:Nat} (h:i<n):((List.range' 0 n).map F).getD i 0=F i:=by
 simp [List.getD,h]
theorem yT (BT:List Nat) (s:Nat) {n i:Nat} (h:i<n):(ey BT s n).getD i 0=uW BT s i:=nz _ h
theorem yU (BT:List Nat) (s n:Nat):(ey BT s n).length=n:=by unfold ey;simp
theorem yV {l:List Nat} (h:fY l) : ∀ {k:Nat},l.length=k+1→l.getD k 0≠0:=by
 induction l with
 | nil => intro k h; simp at h
 | cons d l ih =>
  intro k hk
  cases l with
  | nil => simp at hk; subst hk; simpa using (show d ≠ 0 from h)
  | cons e l =>
   obtain ⟨j,rfl⟩ : ∃ j,k=j+1:=⟨k - 1,by simp at hk;omega⟩
   have:=ih h.tail (k:=j) (by simpa using hk)
   simpa using this
structure Shf (b:Nat) (l:List Nat) (s k:Nat):Prop where
 s32:s<32
 lim:bq l
 lo:2147483648*4294967296^(k+1)≤b*2^s
 hi:b*2^s<4294967296^(k+2)
theorem AG {b k:Nat} (hk:(aQ b).length=k+2):Shf b (aQ b) (32 - fH ((aQ b).getD (k+1) 0)) k:=by
 have hl:=a7 b
 have ht:=yV (kA b) (k:=k+1) hk
 have hd:=a6 hl (k+1)
 generalize hx:(aQ b).getD (k+1) 0=x at *
 obtain ⟨j1,j2⟩:=o7 (x:=x) X ht
 have j3:=o6 (x:=x) X
 have j4:=ju (x:=x) (n:=32) X U
 have hb:b=lv ((aQ b).take (k+1))+4294967296^(k+1)*x:=by
  have e:aQ b=(aQ b).take (k+2):=by rw [List.take_of_length_le X]
  have h1:=bF (l:=aQ b) (k:=k+1) X
  rw [← e,bR,hx] at h1;exact h1
 have hlo:=gu (hl.take (k+1))
 rw [List.length_take_of_le X] at hlo
 generalize lv ((aQ b).take (k+1))=y at *
 obtain ⟨t,ht2⟩ : ∃ t,fH x=t+1:=⟨fH x - 1,by omega⟩
 rw [ht2] at j2 j3 j4 ⊢
 rw [Nat.add_sub_cancel] at j2
 have p1:2^t*2^(32 - (t+1))=2147483648:=by rw [← Nat.pow_add,show t+(32 - (t+1))=31 by omega]
 have p2:2^(t+1)*2^(32 - (t+1))=4294967296:=by rw [← Nat.pow_add,show t+1+(32 - (t+1))=32 by omega]
 have hp:=Nat.two_pow_pos (32 - (t+1))
 refine ⟨by omega,hl,?_,?_⟩
 ·rw [← p1,hb]
  calc 2^t*2^(32 - (t+1))*4294967296^(k+1)≤x*2^(32 - (t+1))*4294967296^(k+1):=Nat.mul_le_mul_right _ (Nat.mul_le_mul_right _ j2)
   _=4294967296^(k+1)*x*2^(32 - (t+1)):=by rw [Nat.mul_comm,Nat.mul_assoc]
   _≤_:=Nat.mul_le_mul_right _ (Nat.le_add_left _ _)
 ·have h1:b<4294967296^(k+1)*(x+1):=by rw [Nat.mul_add,Nat.mul_one]; omega
  calc b*2^(32 - (t+1))<4294967296^(k+1)*(x+1)*2^(32 - (t+1)):=Nat.mul_lt_mul_of_pos_right h1 hp
   _≤4294967296^(k+1)*2^(t+1)*2^(32 - (t+1)):=Nat.mul_le_mul_right _ (Nat.mul_le_mul_left _ j3)
   _=4294967296^(k+2):=by rw [Nat.mul_assoc,p2, ← Nat.pow_succ]
theorem Shf.v {b s k:Nat} {l z:List Nat} (h:Shf b l s k) (hz:bq z) (hl:z.length=k+3) (hv:lv z=b*2^s) :
  bq (z.take (k+2))∧(z.take (k+2)).length=k+2∧lv (z.take (k+2))=b*2^s∧2147483648≤(z.take (k+2)).getD (k+1) 0:=by
 have h1:=fG z (k+2) X
 have h0:lv (z.drop (k+2))=0:=by
  rcases Nat.eq_zero_or_pos (lv (z.drop (k+2))) with h' | h'
  ·exact h'
  ·have:=Nat.le_mul_of_pos_right (4294967296^(k+2)) h';have:=h.hi;omega
 rw [h0,Nat.mul_zero,Nat.add_zero,hv] at h1
 have hlen:(z.take (k+2)).length=k+2:=by rw [List.length_take_of_le X]
 have hL:=hz.take (k+2)
 refine ⟨hL,hlen,h1.symm,?_⟩
 generalize z.take (k+2)=v at *
 have h2:=bF (l:=v) (k:=k+1) X
 rw [List.take_of_length_le X] at h2
 have h3:=gu (hL.take (k+1))
 rw [List.length_take_of_le X] at h3
 have h4:=h.lo
 rw [h1,h2] at h4
 generalize lv (v.take (k+1))=y at *
 generalize v.getD (k+1) 0=x at *
 generalize 4294967296^(k+1)=B at *
 rcases Nat.lt_or_ge x 2147483648 with h5 | h5
 ·have h6:B*x+B≤B*2147483648:=by rw [← Nat.mul_succ]; exact Nat.mul_le_mul_left _ h5
  rw [Nat.mul_comm 2147483648] at h4;omega
 ·exact h5
theorem Shf.u {a b s k e:Nat} {l:List Nat} (h:Shf b l s k) (ha:(aQ a).length=k+2+e):a*2^s<b*2^s*4294967296^(e+1):=by
 have h1:=d6 a
 rw [ha] at h1
 have h2:2^s≤2147483648:=Nat.pow_le_pow_right (n:=2) U (show s≤31 by have:=h.s32;omega)
 calc a*2^s<4294967296^(k+2+e)*2^s:=Nat.mul_lt_mul_of_pos_right h1 (Nat.two_pow_pos s)
  _≤4294967296^(k+2+e)*2147483648:=Nat.mul_le_mul_left _ h2
  _=2147483648*4294967296^(k+1)*4294967296^(e+1):=by rw [Nat.mul_assoc, ← Nat.pow_add,Nat.mul_comm,show k+1+(e+1)=k+2+e by omega]
  _≤b*2^s*4294967296^(e+1):=Nat.mul_le_mul_right _ h.lo
end Tor
end
section
namespace Tor
open Go Go.RowKit Go.Proofs
variable [Tor.Co.Kc]
theorem yW:VT.le (one (.slice none 0 0)) (kC 0):=VT.le_trans gL (e7 (l := []) (fun _ h=>by cases h) Z)
theorem tQ {a b:Nat} : (lm a b<0)=(a<b):=by unfold lm;split <;> simp_all <;> (try split) <;> omega
theorem wP {b:Nat} (h:(aQ b).length=1):(aQ b).getD 0 0=b:=by
 have h1:=bF (l:=aQ b) (k:=0) X
 rw [List.take_of_length_le X,bR] at h1
 simpa [lv] using h1.symm
theorem yX {v:Nat} (h:v<4294967296):VT.le (slT .one 1 fun _=>one (.int .u32 (v:Nat))) (kC v) :=
 VT.le_trans (cH (m := [v].length) (ψ:=fun i=>one (.int .u32 ([v].getD i 0:Nat))) Z (fun q hq=>by
  have hq:q<1:=hq
  have:q=0:=by omega
  subst this;rfl)) (e7 (l := [v]) (fun d hd=>by simp at hd;omega) (by simp [lv]))
def lV:Nat→Nat→List Nat
 | 0, _ => []
 | n + 1, v => v % 4294967296 :: lV n (v / 4294967296)
theorem mP : ∀ n v,(lV n v).length=n
 | 0, _ => rfl
 | n + 1, v => by rw [lV, List.length_cons, mP n]
theorem mQ : ∀ n v,bq (lV n v)
 | 0, _ => fun d hd => by cases hd
 | n + 1, v => fun d hd => by
  rw [lV] at hd
  rcases List.mem_cons.1 hd with rfl | hd
  ·exact Nat.mod_lt _ U
  ·exact mQ n _ d hd
theorem mR : ∀ n v,v<4294967296^n→lv (lV n v)=v
 | 0, v, h => by simp at h; subst h; rfl
 | n + 1, v, h => by
  have:v / 4294967296<4294967296^n:=Nat.div_lt_of_lt_mul (by rw [Nat.mul_comm, ← Nat.pow_succ]; exact h)
  rw [lV,lv,mR n _ this]; omega
theorem qI : ∀ {z:List Nat},bq z→z=lV z.length (lv z)
 | [], _ => rfl
 | d :: z, h => by
  have hd:=h.head
  have ih:=qI h.tail
  rw [List.length_cons,lV,lv]
  rw [show (d+4294967296*lv z) % 4294967296=d by omega,show (d+4294967296*lv z) / 4294967296=lv z by omega, ← ih]
theorem wQ {l:List Nat} {s:Nat} (hl:bq l) (hs:s<32):lv l*2^s<4294967296^(l.length+1):=by
 rw [Nat.pow_succ]
 have h1:2^s≤4294967296:=Nat.pow_le_pow_right (n:=2) U (show s≤32 by omega)
 exact Nat.lt_of_lt_of_le (Nat.mul_lt_mul_of_pos_right (gu hl) (Nat.two_pow_pos s)) (Nat.mul_le_mul_left _ h1)
def AH (l:List Nat) (s:Nat) (hl:bq l) (hs:s<32):o8 l s:=⟨(0,lV (l.length+1) (lv l*2^s)),mP _ _,mQ _ _,mR _ _ (wQ hl hs)⟩
theorem uX (l:List Nat) (s:Nat) (hl:bq l) (h1:l.length≤1099511627776) (hs:s<32):Ok Tryz.prog 171 [ch l,one (.int .i64 (s:Nat))] (slT .one (l.length+1) (f8 (lV (l.length+1) (lv l*2^s)))) :=
 (qG l s hl h1 hs).ok fun p=>by
  have h:=qI p.2.2.1
  rw [p.2.1,p.2.2.2] at h
  rw [← h]
  exact Ent.sl List.mem_cons_self
theorem uY {z:List Nat} {q m:Nat} (h:q<m):f8 z (Int.toNat 0+q)=f8 (z.take m) q:=by
 have e:Int.toNat 0+q=q:=Nat.zero_add q
 rw [e]
 unfold f8
 rw [show (z.take m).getD q 0=z.getD q 0 by simp [List.getD,List.getElem?_take,h]]
theorem yY {br:Option Nat} {T:TypeId} {n i s:Nat} {BT:List Nat} (hi:i<n):Own.le (aH br T .one n n (upd (fun q=>one (.int .u32 ((if q<i then (ey BT s n).getD q 0 else 0:Nat):Int))) i (one (.int .u32 (((BT.getD (i+1) 0*4294967296+BT.getD i 0) / 2^s % 4294967296:Nat):Int)))))
  (aH br T .one n n (fun q=>one (.int .u32 ((if q<i+1 then (ey BT s n).getD q 0 else 0:Nat):Int)))):=bV (fun q hq=>by
 unfold upd
 by_cases h:q=i
 ·subst h;rw [if_pos Z,if_pos (Nat.lt_succ_self q),yT BT s hi]; rfl
 ·rw [if_neg h]
  dsimp only
  by_cases h2:q<i
  ·rw [if_pos h2,if_pos (Nat.lt_succ_of_lt h2)]
  ·rw [if_neg h2,if_neg X])
attribute [local irreducible] J PJ aC one slT bL bE bw exT cj eP aT aH slV VT.le Ret bQ
set_option maxRecDepth 20000 in
theorem uZ (a b:Nat) (hb:b≠0) (ha:(aQ a).length≤1099511627776):Ok Tryz.prog 155 [ch (aQ a),ch (aQ b)] (bw [kC (a / b),kC (a % b)]):=by
 have hcl:=wL (aQ a) ha
 have hcm:=jV a b
 refine Ok.enter Tryz.func155 Z Tryz.ntmps155 Z (fun w O => ?_)
 by_cases h1:a<b
 ·rw [Nat.div_eq_of_lt h1,Nat.mod_eq_of_lt h1]
  have hlt:lm a b<0:=by rw [tQ]; exact h1
  refine ae (ai (Cd Z (Cd Z (Cf (aa (ae (aw (ae (ai ?_)))))))))
  refine Cc Z (Cc Z ?_)
  refine Cb (ao (hcm) Z ⟨A,A,Cg⟩) ?_
  refine Cb (sT (by assumption) (bD Z Z)) (Cd Z (Cf (aa (aM Z (ae (ai (Cc Z ?_)))))))
  refine Cb (ao (hcl) Z ⟨A,Cg⟩) ?_
  refine Cd Z (Cd Z (Cf (aa (aG (bp (aJ ?_))))))
  refine db Tryz.results155 (.tmp Z (yW)) (.tmp Z (cB _))
 ·have hlt : ¬ lm a b<0:=by rw [tQ]; exact h1
  have hlen:=eZ (Nat.le_of_not_lt h1)
  by_cases h2:(aQ a).length≤2
  ·have hw1:=tN (aQ a) (a7 a) h2
   have hw2:=tN (aQ b) (a7 b) X
   rw [bR] at hw1 hw2
   have a64:a<18446744073709551616:=Nat.lt_of_lt_of_le (d6 a) (Nat.pow_le_pow_right (n:=4294967296) U h2)
   have b64:b<18446744073709551616:=by omega
   have q64:a / b<18446744073709551616:=Nat.lt_of_le_of_lt (Nat.div_le_self _ _) a64
   have r64:a % b<18446744073709551616:=Nat.lt_of_le_of_lt (Nat.mod_le _ _) a64
   have hk1:=kF (a / b) q64
   have hk2:=kF (a % b) r64
   refine ae (ai (Cd Z (Cd Z (Cf (aa (ae (aw (ae (ai ?_)))))))))
   refine Cc Z (Cc Z ?_)
   refine Cb (ao (hcm) Z ⟨A,A,Cg⟩) ?_
   refine Cb (sF (by assumption) (bD Z Z)) (Cd Z (Cf (aa (aD Z (ae (ai (Cc Z (Cb (a9 Z) (Cb (sT X (yu Z Z)) ?_)))))))))
   refine Cd Z (Cf (aa (aM Z (ae (ai (Cc Z ?_))))))
   refine Cb (ao (hw1) Z ⟨A,Cg⟩) ?_
   refine Cc Z ?_
   refine Cb (ao (hw2) Z ⟨A,Cg⟩) ?_
   refine Cd Z (Cd Z (Cf (aa (ae (bG 9 bH Y U (Cc Z (Cc Z (Cb (mw Z Z X X) ?_))))))))
   refine Cb (ao (hk1) Z ⟨A,Cg⟩) ?_
   refine Cc Z (Cc Z (Cb (eh _ Z Z Z X) ?_))
   refine Cb (ao (hk2) Z ⟨A,Cg⟩) ?_
   refine Cd Z (Cf (Cd Z (Cf (aa (aG (bp (aJ ?_)))))))
   refine db Tryz.results155 (.tmp Z A) (.tmp Z A)
  ·by_cases h3:(aQ b).length=1
   ·have hb1:=wP h3
    have hd:=a6 (a7 b) 0
    have hsh:=wM (aQ a) b (a7 a) ha X X
    rw [bR] at hsh
    have hr:=Nat.mod_lt a (show 0<b by omega)
    refine ae (ai (Cd Z (Cd Z (Cf (aa (ae (aw (ae (ai ?_)))))))))
    refine Cc Z (Cc Z ?_)
    refine Cb (ao (hcm) Z ⟨A,A,Cg⟩) ?_
    refine Cb (sF (by assumption) (bD Z Z)) (Cd Z (Cf (aa (aD Z (ae (ai (Cc Z (Cb (a9 Z) (Cb (sF X (yu Z Z)) ?_)))))))))
    refine Cd Z (Cf (aa (aD Z (ae (ai (Cc Z (Cb (a9 Z) (Cb (sT X (cQ Z Z)) (Cd Z ?_)))))))))
    refine Cf (aa (aM Z (ae (ai (Cc Z (Cc Z (Cb (ej Z Z X X) (Cb (aY Z) ?_))))))))
    refine Cb (ao (hsh) Z ⟨A,(av (by rw [show (aQ b).getD (Int.toNat 0) 0=b from hb1])),Cg⟩) ?_
    refine Cc Z (Cb (aA Z Z) (Cb (aA Z Z) (Cd Z (Cd Z (Cf (aa (ae (ai (Cc Z ?_)))))))))
    refine Cc Z (my Z Z Z Z (Cd Z (Cd Z (Cf (aa (aG (bp (aJ ?_))))))))
    refine db Tryz.results155 (.tmp Z A) (.tmp Z (yX X))
   ·have hdb:aQ b ≠ []:=fun h=>hb (by rw [← bR b,h]; rfl)
    obtain ⟨k,hk⟩ : ∃ k,(aQ b).length=k+2:=⟨(aQ b).length - 2,by have:=List.length_pos_iff.2 hdb;omega⟩
    obtain ⟨e,he⟩ : ∃ e,(aQ a).length=k+2+e:=⟨(aQ a).length - (k+2),by omega⟩
    have hx:=a6 (a7 b) ((aQ b).length - 1)
    have S0:=AG hk
    rw [show k+1=(aQ b).length - 1 by omega] at S0
    have hlz:=yN ((aQ b).getD ((aQ b).length - 1) 0) hx
    generalize 32 - fH ((aQ b).getD ((aQ b).length - 1) 0)=s at S0 hlz
    have s32:=S0.s32
    have hsv:=uX (aQ b) s (a7 b) X s32
    have hsu:=qG (aQ a) s (a7 a) ha s32
    refine ae (ai (Cd Z (Cd Z (Cf (aa (ae (aw (ae (ai ?_)))))))))
    refine Cc Z (Cc Z ?_)
    refine Cb (ao (hcm) Z ⟨A,A,Cg⟩) ?_
    refine Cb (sF (by assumption) (bD Z Z)) (Cd Z (Cf (aa (aD Z (ae (ai (Cc Z (Cb (a9 Z) (Cb (sF X (yu Z Z)) ?_)))))))))
    refine Cd Z (Cf (aa (aD Z (ae (ai (Cc Z (Cb (a9 Z) (Cb (sF X (cQ Z Z)) (Cd Z ?_)))))))))
    refine Cf (aa (aD Z (ay (aK (aa (ae (ai (Cc Z (Cc Z ?_)))))))))
    refine Cb (a9 Z) (Cb (cm _ 1 Z Z X X) (Cb (aI Z Z X) (Cb (aY Z) ?_)))
    refine Cb (ao (hlz) Z ⟨A,Cg⟩) ?_
    refine Cc Z (Cb (a9 Z) (Cd Z (Cd Z (Cf (aa (ae (cv (Γ' := [(0,_),(1,_),(4,_),(5,_),(10,_),(11,_)]) BW (SubM.refl _) ?_)))))))
    refine Aw (σ:=o8 (aQ a) s) 2 (AH (aQ a) s (a7 a) s32) (fun p=>one (slV (some p.1.1) ((aQ a).length+1) ((aQ a).length+1))) (fun p => [aH (some p.1.1) 83 .one ((aQ a).length+1) ((aQ a).length+1) (f8 p.1.2)]) bH Y U ?_
    refine vx Z (fun s B=>ab Z) Z ?_
    refine vx Z (fun s B=>ab Z) Z ?_
    refine vc Z hsu (fun s=>rfl) ⟨A,A,Cg⟩ Z ?_
    refine vx Z (fun s B=>ab Z) Z ?_
    refine vx Z (fun s B=>ab Z) Z ?_
    refine vx Z (fun s B=>ao hsv Z ⟨A,A,Cg⟩) Z ?_
    refine vx Z (fun s B=>ab Z) Z ?_
    refine vx Z (fun s B=>ab Z) Z ?_
    refine vx Z (fun s B=>fT Z Z Z Z (fun _=>rfl) X X X X) Z ?_
    refine vd Z Y (fun s B=>ah Z) Z ?_
    refine vx Z (fun s B=>ah Z) Z ?_
    refine .nil (fun p => ?_)
    obtain ⟨⟨bu,BT⟩,hu1,hu2,hu3⟩:=p
    dsimp only at hu1 hu2 hu3 ⊢
    rw [bR] at hu3
    rw [he] at hu1
    rw [bR,hk,he]
    obtain ⟨z,hz⟩ : ∃ z,z=lV (k+2+1) (b*2^s):=⟨_,rfl⟩
    have z1:=mP (k+2+1) (b*2^s)
    have z2:=mQ (k+2+1) (b*2^s)
    have z3:=mR (k+2+1) (b*2^s) (Nat.lt_of_lt_of_le S0.hi (Nat.pow_le_pow_right U X))
    rw [← hz] at z1 z2 z3 ⊢
    obtain ⟨v1,v2,v3,v4⟩:=S0.v z2 z1 z3
    refine oE (Γ' := [(0,slT .one (k+2+e) (f8 (aQ a))),(4,_),(5,_),(10,_),(11,one (.int .i64 ((k+2:Nat):Int))),(12,one (slV (some bu) (k+2+e+1) (k+2+e+1))),(13,ch (z.take (k+2)))]) (.cons Z (cH he (fun _ _=>rfl)) (.cons Z A (.cons Z A (.cons Z A (.cons Z A (.cons Z A (.cons Z ?_ .nil))))))) (SubM.refl _) ?_
    ·exact cH (by rw [v2]; omega) (fun q hq=>uY X)
    generalize z.take (k+2)=v at *
    have hV0:0<b*2^s:=Nat.mul_pos X (Nat.two_pow_pos s)
    have hVn:=S0.hi
    have hA:=S0.u he
    refine aa (ae (ai (Cc Z (Cb (a9 Z) (Cc Z (Cb (cm _ _ Z Z X X) (Cb (bU _ 1 Z Z X) ?_)))))))
    refine cA (e+1) (e+1) Z Z X X (Nat.le_refl _) Z Z X Z Z (fun bz => ?_)
    refine Cd Z (Cf (aa (ae (ae (ai (Cc Z (Cb (a9 Z) (Cc Z (Cb (cm _ _ Z Z X X) ?_)))))))))
    refine Cd Z (Cf (aa (aw (cv (Γ' := [(4,_),(5,_),(10,_),(11,_),(12,_),(13,_),(14,_),(15,_)]) BW (SubM.refl _) ?_))))
    refine bO (σ:=List Nat × List Nat × Nat) (Γk := [(4,_),(5,_),(10,_),(11,_),(12,_),(13,_),(14,_)]) BW (fun p => [(15,one (.int .i64 ((p.2.2:Nat) - 1:Int)))]) (fun p M0=>((M0.set 0 (aH (some bz) 83 .one (e+1) (e+1) (f8 p.2.1))).set 1 (aH (some bu) 83 .one (k+2+e+1) (k+2+e+1) (f8 p.1)))) (fun p=>DivR (b*2^s) (a*2^s) (k+2) e p) (fun p=>p.2.2) ((BT,List.replicate (e+1) 0,e+1)) (DivR.start hu2 hu1 hu3 hA) BX (.keep (bV (fun q _=>by unfold f8;rw [co]; rfl)) (.keep Ca (.nil))) (fun p hp => ?_)
    refine cg (Γ' := [(15,_),(4,_),(5,_),(10,_),(11,_),(12,_),(13,_),(14,_)]) (M' := [_,_]) Z Z ?_
    obtain ⟨U1,Q,c⟩:=p
    dsimp only at hp ⊢
    have hu1:U1.length=k+2+e+1:=hp.lu
    have hq1:Q.length=e+1:=hp.lq
    have hcl:c≤e+1:=hp.le
    refine ae (ae (ai (Cc Z (Cb (eR Z Z) (Cf (aa ?_))))))
    cases c with
    | zero =>
     refine l6 Z X (a8 (ax (ax (aL (aa (ae (ai (Cc Z ?_))))))))
     obtain ⟨f1,f2⟩:=hp.finish X
     refine cA (k+2) (k+2) Z Z Z Z (Nat.le_refl _) Z Z X Z Z (fun br => ?_)
     refine Cd Z (Cf (aa (ae (ae (ai (Cc Z (Cc Z (Cf (aa ?_)))))))))
     refine aw (cv (Γ' := [(4,_),(5,_),(10,_),(12,_),(14,_),(16,_),(102,_),(103,_)]) BW (SubM.refl _) ?_)
     refine bO (σ:=Nat) (Γk := [(4,_),(5,_),(10,_),(12,_),(14,_),(16,_),(102,_)]) BW (fun i => [(103,one (.int .i64 (i:Nat)))]) (fun i M0=>(M0.set 0 (aH (some br) 83 .one (k+2) (k+2) (fun q=>one (.int .u32 ((if q<i then (ey U1 s (k+2)).getD q 0 else 0:Nat):Int)))))) (fun i=>i≤k+2) (fun i=>k+2 - i) (0) (Nat.zero_le _) BX (.keep Ca (.keep Ca (.keep Ca (.nil)))) (fun i hi => ?_)
     refine cg (Γ' := [(103,_),(4,_),(5,_),(10,_),(12,_),(14,_),(16,_),(102,_)]) (M' := [_,_,_]) Z Z (ae (ai (Cb (bD Z Z) (Cf (aa (ae ?_))))))
     refine ku Z (fun hc => ?_) (fun hc => ?_)
     ·have hik:i<k+2:=by omega
      have g0:=a6 (show bq U1 from hp.limU) i
      have g1:=a6 (show bq U1 from hp.limU) (i+1)
      refine ay (aa (ae (aw (ae (ai (Cc Z (Cd Z (Cf (aa ?_)))))))))
      refine bG 18 bH Y U (Cc Z (Cc Z (Cc Z (Cc Z (Cb (bU _ 1 Z Z X) (Cb (ar Z Z X) (Cb (bM 2 Z Z X) (Cb (cd Z X) (Cb (jQ (s:=32) Z Z X X) ?_)))))))))
      refine Cc Z (Cc Z (Cb (ar Z Z X) (Cb (bM 2 Z Z X) (Cb (cd Z X) (Cb (jP Z Z X X) (Cc Z ?_))))))
      refine Cb (jR Z Z (by (show _<64;omega))) ?_
      refine Cb (cF Z) (Cf (Cb (ar Z Z X) ?_))
      (refine au 0 Z Z Z ?_ Z ?_;omega)
      refine Cf (aK (aa (ai (Cb (bU _ 1 Z Z X) (Cc Z (Cf ?_))))))
      refine aX (i+1) (by assumption) X BX (.keep (yY hik) (.keep Ca (.keep Ca (.nil))))
     ·have hik:i=k+2:=by omega
      subst hik
      refine a8 (ax (ax (aL (aa (ae (ai (Cc Z (Cc Z (Cd Z ?_)))))))))
      refine Cd Z (Cf (aa (aG ?_)))
      have hlU:lv U1<4294967296^(k+2):=Nat.lt_trans (show lv (U1.drop 0)<_ from hp.lt) hVn
      have hrv:lv (ey U1 s (k+2))=a % b:=by rw [yR hp.limU s32 (by dsimp only;omega) hlU,f2,Nat.mul_div_cancel _ (Nat.two_pow_pos s)]
      refine dh (t:=5) (i:=0) Z Z (dh (t:=4) (i:=0) Z Z ?_)
      refine db Tryz.results155 (.tmp Z (VT.le_trans (cH (m:=Q.length) (ψ:=f8 Q) hq1.symm (fun _ _=>rfl)) (e7 hp.limQ f1))) (.tmp Z (VT.le_trans (cH (m:=(ey U1 s (k+2)).length) (ψ:=f8 (ey U1 s (k+2))) (yU _ _ _).symm (fun q hq=>by rw [if_pos hq])) (e7 (yS _ _ _) hrv)))
    | succ j =>
     obtain ⟨p1,p2,p3,p4⟩:=hp.pre hVn
     have en:((j+1:Nat):Int) - 1=(j:Nat):=by omega
     rw [en]
     refine l5 Z X (ay (aa (ae (aw (ai (Cc Z (Cc Z (Cc Z (Cc Z ?_)))))))))
     refine Cc Z (Cc Z (Cb (bU _ _ Z Z X) (Cb (bU _ 1 Z Z X) (Cb (wu Z Z Z X X X) (Cc Z ?_)))))
     refine ir (Min := [aH (some bu) 83 .one (k+2+e+1) (k+2+e+1) (f8 U1)]) (Kp := [aH (some bz) 83 .one (e+1) (e+1) (f8 Q)]) (wN bu (k+2+e+1) j (k+2+e+1 - j) k U1 v hp.limU v1 hu1 X v2 X v4 (by rw [v3]; exact p4)) Z ⟨av (by rw [show j+(k+2)+1 - j=k+3 by omega]; rfl),A,Cg⟩ (List.Perm.swap _ _ _) Z Z (fun r => ?_)
     obtain ⟨U2,o1,o2,o3⟩:=r
     dsimp only
     refine wa (List.Perm.swap _ _ _) (Cb (ar Z Z X) ?_)
     (refine au 0 Z Z Z ?_ Z ?_;omega)
     refine Cf (aK (aa (ai (Cc Z (Cb (ef Z Z (aR X X)) (Cd Z (Cf ?_)))))))
     refine aX ((U2,Q.set j (lv (win U1 j (k+3)) / lv v),j)) (hp.step hV0 hVn o1 o2 (by rw [o3,v3]) (by rw [v3])) (by (simp only []; omega)) BX (.keep (fI X Z) (.keep Ca (.nil)))
end Tor
end
section
namespace Tor
open Go Go.RowKit Go.Proofs
variable [Tor.Co.Kc]
theorem tR {BV B:Nat} (hB:0<B) (h:BV % B=0):(-(BV:Int)) / B = -((BV / B:Nat):Int)∧(-(BV:Int)) % B=0:=by
 have hm:=Nat.div_add_mod BV B
 refine (Int.ediv_emod_unique X).2 ⟨?_,by omega,by omega⟩
 have e:((B*(BV / B)+BV % B:Nat):Int)=(BV:Int):=by rw [hm]
 rw [h] at e
 rw [Int.natCast_add,Int.natCast_mul] at e
 rw [Int.mul_neg]; omega
theorem tS {BV B:Nat} (hB:0<B) (h:BV % B≠0):(-(BV:Int)) / B = -((BV / B+1:Nat):Int)∧(-(BV:Int)) % B=((B - BV % B:Nat):Int):=by
 have hm:=Nat.div_add_mod BV B
 have hl:=Nat.mod_lt BV hB
 refine (Int.ediv_emod_unique X).2 ⟨?_,by omega,by omega⟩
 have e:((B*(BV / B)+BV % B:Nat):Int)=(BV:Int):=by rw [hm]
 rw [Int.natCast_add,Int.natCast_mul] at e
 rw [Int.mul_neg,Int.natCast_add,Int.mul_add]
 omega
theorem yZ {a b:Int} (hb:b≠0):(0≤a→a / b=(if b<0 then -((a.natAbs / b.natAbs:Nat):Int) else ((a.natAbs / b.natAbs:Nat):Int))∧a % b=((a.natAbs % b.natAbs:Nat):Int)) ∧
  (a<0→a.natAbs % b.natAbs=0→a / b=(if b<0 then ((a.natAbs / b.natAbs:Nat):Int) else -((a.natAbs / b.natAbs:Nat):Int))∧a % b=0) ∧
  (a<0→a.natAbs % b.natAbs≠0→a / b=(if b<0 then ((a.natAbs / b.natAbs+1:Nat):Int) else -((a.natAbs / b.natAbs+1:Nat):Int))∧a % b=((b.natAbs - a.natAbs % b.natAbs:Nat):Int)):=by
 have hB:0<b.natAbs:=by omega
 generalize hA:a.natAbs=BV
 generalize hBb:b.natAbs=B at *
 have key:(0≤a→a / (B:Int)=((BV / B:Nat):Int)∧a % (B:Int)=((BV % B:Nat):Int)) ∧
   (a<0→BV % B=0→a / (B:Int) = -((BV / B:Nat):Int)∧a % (B:Int)=0) ∧
   (a<0→BV % B≠0→a / (B:Int) = -((BV / B+1:Nat):Int)∧a % (B:Int)=((B - BV % B:Nat):Int)):=by
  refine ⟨fun h => ?_,fun h h0 => ?_,fun h h0 => ?_⟩
  ·have:a=(BV:Int):=by omega
   rw [this]; exact ⟨(Int.natCast_ediv BV B).symm,(Int.natCast_emod BV B).symm⟩
  ·have:a = -(BV:Int):=by omega
   rw [this]; exact tR hB h0
  ·have:a = -(BV:Int):=by omega
   rw [this]; exact tS hB h0
 by_cases hn:b<0
 ·have e:b = -(B:Int):=by omega
  simp only [if_pos hn]
  rw [e,Int.ediv_neg,Int.emod_neg]
  refine ⟨fun h => ?_,fun h h0 => ?_,fun h h0 => ?_⟩
  ·obtain ⟨k1,k2⟩:=key.1 h;exact ⟨by rw [k1],k2⟩
  ·obtain ⟨k1,k2⟩:=key.2.1 h h0;exact ⟨by rw [k1,Int.neg_neg],k2⟩
  ·obtain ⟨k1,k2⟩:=key.2.2 h h0;exact ⟨by rw [k1,Int.neg_neg],k2⟩
 ·have e:b=(B:Int):=by omega
  simp only [if_neg hn]
  rw [e]; exact key
theorem gD {v:Nat} (h:(aQ v).length=0):v=0:=by
 rw [← bR v,List.length_eq_zero_iff.1 h]; rfl
theorem qJ:aQ 1 = [1]:=by rw [gr U]; rfl
theorem wR:VT.le (slT .one 1 fun _=>one (.int .u32 1)) (ch (aQ 1)):=by
 rw [qJ]
 exact cH Z (fun q hq=>by
  have hq:q=0:=by omega
  subst hq;rfl)
theorem tT (p:Prop) [Decidable p] (x:Int):(if (!(true == decide p))=true then -x else x)=(if p then x else -x):=by by_cases h:p <;> simp [h]
theorem y3 (p:Prop) [Decidable p] (x:Int):(if (!(false == decide p))=true then -x else x)=(if p then -x else x):=by by_cases h:p <;> simp [h]
attribute [local irreducible] J PJ aC one slT bL bE bw exT cj eP aT aH slV VT.le Ret bQ
set_option maxRecDepth 20000 in
theorem nY (a b:Int) (hb:b≠0) (ha:cf a) (hbs:cf b):Ok Tryz.prog 145 [aU a,aU b] (bw [aU (a / b),aU (a % b),one (.int .i64 0)]):=by
 obtain ⟨g1,g2,g3⟩:=yZ (a:=a) hb
 have hb0:(aQ b.natAbs).length≠0:=fun h=>hb (by have:=gD h;omega)
 have hB:b.natAbs≠0:=by omega
 have hdiv:=uZ a.natAbs b.natAbs hB ha
 have ha':(aQ a.natAbs).length≤1099511627776:=ha
 have hb':(aQ b.natAbs).length≤1099511627776:=hbs
 have hlt:=Nat.mod_lt a.natAbs (Nat.pos_of_ne_zero hB)
 have hr0:(aQ (a.natAbs % b.natAbs)).length=0↔a.natAbs % b.natAbs=0:=⟨gD,fun h=>by rw [h]; rfl⟩
 have hql:(aQ (a.natAbs / b.natAbs)).length≤1099511627776:=Nat.le_trans (eZ (Nat.div_le_self _ _)) ha'
 have hmin:=mK b.natAbs (a.natAbs % b.natAbs) (Nat.le_of_lt hlt) hb'
 have hplus:=tL (a.natAbs / b.natAbs) 1 hql (by rw [qJ]; decide)
 have hv1:=fun n=>d7 n (a.natAbs / b.natAbs)
 have hv2:=fun n=>d7 n (a.natAbs % b.natAbs)
 have hv3:=fun n=>d7 n (a.natAbs / b.natAbs+1)
 have hv4:=fun n=>d7 n (b.natAbs - a.natAbs % b.natAbs)
 unfold aU at *
 refine Ok.enter Tryz.func145 Z Tryz.ntmps145 Z (fun w O => ?_)
 by_cases hn:a<0
 ·by_cases hr:a.natAbs % b.natAbs=0
  ·have hr1:=hr0.2 hr
   refine ae (ai ?_)
   refine bJ Z Z (ltN Z) (fun b2 => ?_)
   refine bJ Z Z (ltN Z) (fun b3 => ?_)
   refine aN (T:=28) Z (ltN Z) (fun b4 => ?_)
   refine aN (T:=28) Z (ltN Z) (fun b5 => ?_)
   refine Cd Z (Cf (aa (ae (bG 7 bH Y U (Cb (aj Z) (Cb (am 3 Z Z Z) ?_))))))
   refine Cb (ao (cT _) Z ⟨(cB _),Cg⟩) ?_
   refine Cb (aj Z) (Cb (am 2 Z Z Z) ?_)
   refine Cb (ao (cT _) Z ⟨(cB _),Cg⟩) ?_
   refine Cd Z (Cf (Cd Z (Cf (aa (ae (ae (ai (Cc Z (Cb (a9 Z) ?_)))))))))
   refine Cb (sF X (cQ Z Z)) (Cf (aa (aD Z (ay (aa (ae (ai (Cc Z (Cc Z ?_)))))))))
   refine Cb (ao (hdiv) Z ⟨A,A,Cg⟩) ?_
   refine Cc Z (Cb (aA Z Z) (Cb (aA Z Z) (Cd Z (Cd Z (Cf (aa (ae (ai (Cc Z ?_)))))))))
   refine Cb (ao (cT _) Z ⟨A,Cg⟩) ?_
   refine Cd Z (Cf (aa (ae (ae (ai (Cb (aj Z) (Cb (sT (by assumption) (am 3 Z Z Z)) (Cc Z (Ce (ab Z) ?_)))))))))
   refine Ce (a9 Z) (Ce (sF X (dx Z Z)) (Cb (bh Z Z) (Cf (aa (aD Z (ay (aa (ae (ai ?_)))))))))
   refine Cb (aj Z) (Cb (sT (by assumption) (am 3 Z Z Z)) (Cb (aj Z) (Cb (am 2 Z Z Z) (Cb (pU Z Z) (Cc Z ?_)))))
   refine Cb (ao (hv1 _) Z ⟨A,A,Cg⟩) ?_
   refine Cc Z ?_
   refine Cb (ao (hv2 _) Z ⟨A,(cB _),Cg⟩) ?_
   refine az 1 Z Z Z Z Z (leN Z) Z (az 0 Z Z Z Z Z (leN Z) Z (Cd Z (Cf (aa (aG ?_)))))
   refine vX Tryz.results145 (.cellB 1 Z Z Z (cL (by rw [(g2 hn hr).1]; exact tT _ _))) (.cellB 0 Z Z Z (cL (by rw [(g2 hn hr).2,hr]; rfl))) (.tmp Z A)
  ·have hr1:(aQ (a.natAbs % b.natAbs)).length≠0:=fun h=>hr (hr0.1 h)
   refine ae (ai ?_)
   refine bJ Z Z (ltN Z) (fun b2 => ?_)
   refine bJ Z Z (ltN Z) (fun b3 => ?_)
   refine aN (T:=28) Z (ltN Z) (fun b4 => ?_)
   refine aN (T:=28) Z (ltN Z) (fun b5 => ?_)
   refine Cd Z (Cf (aa (ae (bG 7 bH Y U (Cb (aj Z) (Cb (am 3 Z Z Z) ?_))))))
   refine Cb (ao (cT _) Z ⟨(cB _),Cg⟩) ?_
   refine Cb (aj Z) (Cb (am 2 Z Z Z) ?_)
   refine Cb (ao (cT _) Z ⟨(cB _),Cg⟩) ?_
   refine Cd Z (Cf (Cd Z (Cf (aa (ae (ae (ai (Cc Z (Cb (a9 Z) ?_)))))))))
   refine Cb (sF X (cQ Z Z)) (Cf (aa (aD Z (ay (aa (ae (ai (Cc Z (Cc Z ?_)))))))))
   refine Cb (ao (hdiv) Z ⟨A,A,Cg⟩) ?_
   refine Cc Z (Cb (aA Z Z) (Cb (aA Z Z) (Cd Z (Cd Z (Cf (aa (ae (ai (Cc Z ?_)))))))))
   refine Cb (ao (cT _) Z ⟨A,Cg⟩) ?_
   refine Cd Z (Cf (aa (ae (ae (ai (Cb (aj Z) (Cb (sT (by assumption) (am 3 Z Z Z)) (Cc Z (Ce (ab Z) ?_)))))))))
   refine Ce (a9 Z) (Ce (sT X (dx Z Z)) (Cb (bh Z Z) (Cf (aa (aM Z (ai (Cc Z ?_)))))))
   refine Cb (ao (cT _) Z ⟨A,Cg⟩) ?_
   refine my Z Z Z Z ?_
   refine Cb (ao (hplus) Z ⟨A,(wR),Cg⟩) ?_
   refine Cc Z (Cc Z ?_)
   refine Cb (ao (hmin) Z ⟨A,A,Cg⟩) ?_
   refine Cd Z (Cd Z (Cf (aa (ae (ai (Cb (aj Z) (Cb (sT (by assumption) (am 3 Z Z Z)) (Cb (aj Z) (Cb (am 2 Z Z Z) ?_)))))))))
   refine Cb (pU Z Z) (Cc Z ?_)
   refine Cb (ao (hv3 _) Z ⟨A,A,Cg⟩) ?_
   refine Cc Z ?_
   refine Cb (ao (hv4 _) Z ⟨A,A,Cg⟩) ?_
   refine az 1 Z Z Z Z Z (leN Z) Z (az 0 Z Z Z Z Z (leN Z) Z (Cd Z (Cf (aa (aG ?_)))))
   refine vX Tryz.results145 (.cellB 1 Z Z Z (cL (by rw [(g3 hn hr).1]; exact tT _ _))) (.cellB 0 Z Z Z (cL (by rw [(g3 hn hr).2]; rfl))) (.tmp Z A)
 ·refine ae (ai ?_)
  refine bJ Z Z (ltN Z) (fun b2 => ?_)
  refine bJ Z Z (ltN Z) (fun b3 => ?_)
  refine aN (T:=28) Z (ltN Z) (fun b4 => ?_)
  refine aN (T:=28) Z (ltN Z) (fun b5 => ?_)
  refine Cd Z (Cf (aa (ae (bG 7 bH Y U (Cb (aj Z) (Cb (am 3 Z Z Z) ?_))))))
  refine Cb (ao (cT _) Z ⟨(cB _),Cg⟩) ?_
  refine Cb (aj Z) (Cb (am 2 Z Z Z) ?_)
  refine Cb (ao (cT _) Z ⟨(cB _),Cg⟩) ?_
  refine Cd Z (Cf (Cd Z (Cf (aa (ae (ae (ai (Cc Z (Cb (a9 Z) ?_)))))))))
  refine Cb (sF X (cQ Z Z)) (Cf (aa (aD Z (ay (aa (ae (ai (Cc Z (Cc Z ?_)))))))))
  refine Cb (ao (hdiv) Z ⟨A,A,Cg⟩) ?_
  refine Cc Z (Cb (aA Z Z) (Cb (aA Z Z) (Cd Z (Cd Z (Cf (aa (ae (ai (Cc Z ?_)))))))))
  refine Cb (ao (cT _) Z ⟨A,Cg⟩) ?_
  refine Cd Z (Cf (aa (ae (ae (ai (Cb (aj Z) (Cb (sF (by assumption) (am 3 Z Z Z)) (Cc Z (sg0 Z Z Z Z ?_)))))))))
  refine sg0 Z Z Z Z (sg0 Z Z Z Z (Cb (bT Z Z) (Cf (aa (aD Z (ay (aa (ae (ai ?_)))))))))
  refine Cb (aj Z) (Cb (sF (by assumption) (am 3 Z Z Z)) (Cb (aj Z) (Cb (am 2 Z Z Z) (Cb (pU Z Z) (Cc Z ?_)))))
  refine Cb (ao (hv1 _) Z ⟨A,A,Cg⟩) ?_
  refine Cc Z ?_
  refine Cb (ao (hv2 _) Z ⟨A,(cB _),Cg⟩) ?_
  refine az 1 Z Z Z Z Z (leN Z) Z (az 0 Z Z Z Z Z (leN Z) Z (Cd Z (Cf (aa (aG ?_)))))
  refine vX Tryz.results145 (.cellB 1 Z Z Z (cL (by rw [(g1 X).1]; exact y3 _ _))) (.cellB 0 Z Z Z (cL (by rw [(g1 X).2]; rfl))) (.tmp Z A)
end Tor
end
section
namespace Tor
open Go Go.RowKit Go.Proofs
variable [Tor.Co.Kc]
theorem Bu {a b:Nat} (ha:a<4294967296) (hb:b<4294967296):a*b<18446744073709551616:=by
 have:=kB ha hb (c:=0) (d:=0) U U;omega
structure PowR (p v:Nat) (s:Nat × Nat × Nat):Prop where
 r:s.1<p
 a:s.2.1<p
 e:s.2.2<18446744073709551616
 v:s.1*s.2.1^s.2.2 % p=v
theorem qK (a e p:Nat):a^e % p=((a*a % p)^(e / 2)*(if e % 2=1 then a else 1)) % p:=by
 have h1:a^e=(a*a)^(e / 2)*(if e % 2=1 then a else 1):=by
  have he:=Nat.div_add_mod e 2
  conv=>lhs;rw [← he]
  rw [Nat.pow_add,Nat.pow_mul,Nat.pow_two]
  rcases Nat.mod_two_eq_zero_or_one e with h | h <;> simp [h]
 rw [h1,Nat.mul_mod,Nat.pow_mod, ← Nat.mul_mod]
theorem qL {p k:Nat} (hk:k≤p) (hp:p<4294967296):(p+18446744073709551616 - k) % 18446744073709551616=p - k:=by omega
theorem PowR.start {p a e:Nat} (hp:0<p) (ha:a<p) (he:e<18446744073709551616):PowR p (a^e % p) (1 % p,a,e) :=
 ⟨Nat.mod_lt _ hp,ha,he,by show 1 % p*a^e % p=_;rw [Nat.mod_mul_mod,Nat.one_mul]⟩
theorem PowR.odd {p v r a e:Nat} (h:PowR p v (r,a,e)) (h1:e % 2=1):PowR p v (r*a % p,a*a % p,e / 2):=by
 have hp:0<p:=Nat.lt_of_le_of_lt (Nat.zero_le _) h.r
 have he:e<18446744073709551616:=h.e
 refine ⟨Nat.mod_lt _ hp,Nat.mod_lt _ hp,by show e / 2<_;omega,?_⟩
 have hv:r*a^e % p=v:=h.v
 show r*a % p*(a*a % p)^(e / 2) % p=v
 have hR:r*a^e % p=r*((a*a % p)^(e / 2)*a) % p:=by rw [Nat.mul_mod,qK a e p,if_pos h1, ← Nat.mul_mod]
 rw [← hv,hR,Nat.mod_mul_mod,Nat.mul_assoc,Nat.mul_comm a]
theorem PowR.even {p v r a e:Nat} (h:PowR p v (r,a,e)) (h1 : ¬ e % 2=1):PowR p v (r,a*a % p,e / 2):=by
 have hp:0<p:=Nat.lt_of_le_of_lt (Nat.zero_le _) h.r
 have he:e<18446744073709551616:=h.e
 refine ⟨h.r,Nat.mod_lt _ hp,by show e / 2<_;omega,?_⟩
 have hv:r*a^e % p=v:=h.v
 show r*(a*a % p)^(e / 2) % p=v
 rw [← hv,Nat.mul_mod r (a^e),qK a e p,if_neg h1,Nat.mul_one, ← Nat.mul_mod]
theorem PowR.done {p v r a:Nat} (h:PowR p v (r,a,0)):r=v:=by
 have hv:r*a^0 % p=v:=h.v
 rw [Nat.pow_zero,Nat.mul_one,Nat.mod_eq_of_lt h.r] at hv;exact hv
theorem wS {l:List Nat} {n p r:Nat} (hn:n<l.length) (hr:r=lv (l.drop (n+1)) % p):(r*4294967296+l.getD n 0) % p=lv (l.drop n) % p:=by
 rw [f9 hn,hr,Nat.add_comm (l.getD n 0),Nat.mul_comm 4294967296,Nat.add_mod,Nat.mod_mul_mod, ← Nat.add_mod]
theorem y4 {a:Int} {p:Nat} (hp:0<p) (hn:a<0) (h0:0<a.natAbs % p):p - a.natAbs % p=(a % (p:Int)).toNat:=by
 have:=(tS (BV:=a.natAbs) hp X).2
 have e : -((a.natAbs:Nat):Int)=a:=by omega
 rw [e] at this;rw [this]; rfl
theorem wT {a:Int} {p:Nat} (hp:0<p) (hn:a<0) (h0 : ¬ 0<a.natAbs % p):a.natAbs % p=(a % (p:Int)).toNat:=by
 have:=(tR (BV:=a.natAbs) hp X).2
 have e : -((a.natAbs:Nat):Int)=a:=by omega
 rw [e] at this;rw [this]; show _=0;omega
theorem y5 {a:Int} {p:Nat} (hn : ¬ a<0):a.natAbs % p=(a % (p:Int)).toNat:=by
 have e:a=((a.natAbs:Nat):Int):=by omega
 conv=>rhs;rw [e, ← Int.natCast_emod]
 rfl
attribute [local irreducible] J PJ aC one slT bL bE bw exT cj eP aT aH slV VT.le Ret bQ
theorem mS (x p:Nat) (hx:x<18446744073709551616) (hp0:0<p) (hp:p<18446744073709551616):Ok Tryz.prog 113 [one (.int .u64 x),one (.int .u64 p)] (one (.int .u64 ((x % p:Nat):Int))):=by
 refine Ok.enter Tryz.func113 Z Tryz.ntmps113 Z (fun w O => ?_)
 refine ae (ai (Cd Z (Cf (aa (ae (ae (ai (Cc Z (Cb (sF X (cQ Z Z)) ?_)))))))))
 refine Cf (aa (aD Z (ay (aa (ae (ai (Cc Z (Cc Z (Cb (eh _ Z Z Z X) ?_)))))))))
 refine Cd Z (Cf (aa (aG ?_)))
 refine aV Tryz.results113 (.tmp Z A)
theorem pc (p a b:Nat) (hp0:0<p) (hp:p<4294967296) (ha:a<4294967296) (hb:b≤a+p):Ok Tryz.prog 74 [one (.int .u64 p),one (.int .u64 a),one (.int .u64 b)] (one (.int .u64 (((a+p - b) % p:Nat):Int))):=by
 have hr:=mS (a+p - b) p X hp0 X
 refine Ok.enter Tryz.func74 Z Tryz.ntmps74 Z (fun w O => ?_)
 refine ae (ai (Cd Z (Cf (aa (ae (ai (Cc Z (Cc Z (Cb (d5 Z Z X) ?_)))))))))
 refine Cc Z (Cb (eX Z Z X X) (Cc Z ?_))
 refine Cb (ao (hr) Z ⟨(av (by congr 1;omega)),A,Cg⟩) ?_
 refine Cd Z (Cf (aa (aG ?_)))
 refine aV Tryz.results74 (.tmp Z A)
theorem gb (p a b:Nat) (hp0:0<p) (hp:p<4294967296) (ha:a<4294967296) (hb:b<4294967296):Ok Tryz.prog 70 [one (.int .u64 p),one (.int .u64 a),one (.int .u64 b)] (one (.int .u64 ((a*b % p:Nat):Int))):=by
 have h64:=Bu ha hb
 have hr:=mS (a*b) p h64 hp0 X
 refine Ok.enter Tryz.func70 Z Tryz.ntmps70 Z (fun w O => ?_)
 refine ae (ai (Cd Z (Cf (aa (ae (ai (Cc Z (Cc Z (Cb (jM Z Z X) ?_)))))))))
 refine Cc Z ?_
 refine Cb (ao (hr) Z ⟨A,A,Cg⟩) ?_
 refine Cd Z (Cf (aa (aG ?_)))
 refine aV Tryz.results70 (.tmp Z A)
theorem tU (p a e:Nat) (hp:p<4294967296) (ha:a<p) (he:e<18446744073709551616):Ok Tryz.prog 69 [one (.int .u64 p),one (.int .u64 a),one (.int .u64 e)] (one (.int .u64 ((a^e % p:Nat):Int))):=by
 have hp0:0<p:=by omega
 have hr:=mS 1 p U hp0 X
 refine Ok.enter Tryz.func69 Z Tryz.ntmps69 Z (fun w O => ?_)
 refine ae (ai (Cd Z (Cf (aa (ae (ai (Cc Z ?_)))))))
 refine Cb (ao (hr) Z ⟨A,A,Cg⟩) ?_
 refine Cd Z (Cf (aa (ae (aw (cv (Γ' := [(0,_),(1,_),(2,_),(6,_),(7,_)]) BW (SubM.refl _) ?_)))))
 refine bO (σ:=Nat × Nat × Nat) (Γk := [(0,_),(6,_)]) BW (fun s => [(7,one (.int .u64 (s.1:Nat))),(1,one (.int .u64 (s.2.1:Nat))),(2,one (.int .u64 (s.2.2:Nat)))]) (fun s M0=>M0) (fun s=>PowR p (a^e % p) s) (fun s=>s.2.2) ((1 % p,a,e)) (PowR.start hp0 ha he) BX (.nil) (fun s hs => ?_)
 refine cg (Γ' := [(7,_),(1,_),(2,_),(0,_),(6,_)]) (M' := []) Z Z ?_
 obtain ⟨r,b,f⟩:=s
 dsimp only at hs ⊢
 have h1:r<p:=hs.r
 have h2:b<p:=hs.a
 have h3:f<18446744073709551616:=hs.e
 by_cases hf:f=0
 ·subst hf
  have:=hs.done
  subst this
  refine ae (ae (ai (Cc Z (Cb (sF X (dx Z Z)) (Cf (aa (aD Z (a8 (ax ?_)))))))))
  refine ax (aL (aa (ae (ai (Cc Z (Cd Z (Cf (aa (aG ?_)))))))))
  refine aV Tryz.results69 (.tmp Z A)
 ·by_cases ho:f % 2=1
  ·have hst:=hs.odd ho
   refine ae (ae (ai (Cc Z (Cb (sT X (dx Z Z)) (Cf (aa (aM Z (ay (aa ?_)))))))))
   refine ae (aw (ae (ae (ai (Cc Z (Cb (wx Z X) (Cb (sT X (cQ Z Z)) (Cf (aa ?_)))))))))
   refine aM Z (ai (Cc Z (Cc Z (Cc Z ?_))))
   refine Cb (ao (gb _ _ _ (by assumption) (by assumption) X X) Z ⟨A,A,A,Cg⟩) ?_
   refine Cd Z (Cf (aa (ai (Cc Z (Cc Z (Cc Z ?_))))))
   refine Cb (ao (gb _ _ _ (by assumption) (by assumption) X X) Z ⟨A,A,A,Cg⟩) ?_
   refine Cd Z (Cf (aK (aa (ai (Cc Z (Cb (jR (s:=1) Z Z U) (Cd Z (Cf ?_))))))))
   refine aX ((r*b % p,b*b % p,f / 2)) (hst) (by (simp only []; omega)) BX (.nil)
  ·have hst:=hs.even ho
   refine ae (ae (ai (Cc Z (Cb (sT X (dx Z Z)) (Cf (aa (aM Z (ay (aa ?_)))))))))
   refine ae (aw (ae (ae (ai (Cc Z (Cb (wx Z X) (Cb (sF X (cQ Z Z)) (Cf (aa ?_)))))))))
   refine aD Z (ay (aa (ai (Cc Z (Cc Z (Cc Z ?_))))))
   refine Cb (ao (gb _ _ _ (by assumption) (by assumption) X X) Z ⟨A,A,A,Cg⟩) ?_
   refine Cd Z (Cf (aK (aa (ai (Cc Z (Cb (jR (s:=1) Z Z U) (Cd Z (Cf ?_))))))))
   refine aX ((r,b*b % p,f / 2)) (hst) (by (simp only []; omega)) BX (.nil)
theorem tV (p a:Nat) (hp2:2≤p) (hp:p<4294967296) (ha0:a≠0) (ha:a<p):Ok Tryz.prog 75 [one (.int .u64 p),one (.int .u64 a)] (bw [one (.int .u64 ((a^(p - 2) % p:Nat):Int)),one (.int .i64 0)]):=by
 have hpw:=tU p a (p - 2) hp ha X
 refine Ok.enter Tryz.func75 Z Tryz.ntmps75 Z (fun w O => ?_)
 refine ae (ai (Cd Z (Cd Z (Cf (aa (ae (ae (ai (Cc Z ?_)))))))))
 refine Cb (sF X (cQ Z Z)) (Cf (aa (aD Z (ay (aa (ae (ai (Cc Z (Cc Z ?_)))))))))
 refine Cc Z (Cb (eX Z Z X U) ?_)
 refine Cb (ao (hpw) Z ⟨A,A,(av (by rw [qL hp2 hp])),Cg⟩) ?_
 refine Cd Z (Cd Z (Cf (aa (aG ?_))))
 refine db Tryz.results75 (.tmp Z A) (.tmp Z A)
theorem jY (p:Nat) (a:Int) (hp0:0<p) (hp:p<4294967296) (ha:cf a):Ok Tryz.prog 77 [one (.int .u64 p),aU a] (one (.int .u64 (((a % (p:Int)).toNat:Nat):Int))):=by
 have hva:=bR a.natAbs
 have hla:=a7 a.natAbs
 have ha':(aQ a.natAbs).length≤1099511627776:=ha
 unfold aU
 generalize aQ a.natAbs=l at *
 refine Ok.enter Tryz.func77 Z Tryz.ntmps77 Z (fun w O => ?_)
 refine ae (ai ?_)
 refine bJ Z Z (ltN Z) (fun b3 => ?_)
 refine Cd Z (Cf (aa (ae (ai (Cd Z (Cf (aa (ae (ae ?_)))))))))
 refine ai (Cb (aj Z) (Cb (am 0 Z Z Z) (Cb (a9 Z) (Cb (ef Z Z (aR X X)) (Cd Z (Cf (aa (aw (cv (Γ' := [(0,_),(3,_),(4,_),(5,_),(6,_)]) BW (SubM.refl _) ?_)))))))))
 refine bO (σ:=Nat × Nat) (Γk := [(0,_),(3,_),(4,_)]) BW (fun s => [(6,one (.int .i64 ((s.1:Nat) - 1:Int))),(5,one (.int .u64 (s.2:Nat)))]) (fun s M0=>M0) (fun s=>s.1≤l.length∧s.2=lv (l.drop s.1) % p) (fun s=>s.1) ((l.length,0)) (by (exact ⟨Nat.le_refl _,by rw [List.drop_length]; exact (Nat.zero_mod p).symm⟩)) BX (.keep Ca (.nil)) (fun s hs => ?_)
 refine cg (Γ' := [(6,_),(5,_),(0,_),(3,_),(4,_)]) (M' := [_]) Z Z ?_
 obtain ⟨n,r⟩:=s
 dsimp only at hs ⊢
 obtain ⟨hn,hr⟩:=hs
 have hrp:r<p:=by rw [hr]; exact Nat.mod_lt _ hp0
 cases n with
 | zero =>
  rw [List.drop_zero,hva] at hr
  subst hr
  by_cases hneg:a<0
  ·by_cases h0:0<a.natAbs % p
   ·refine ae (ae (ai (Cc Z (Cb (sF X (eR Z Z)) (Cf (aa (aD Z (a8 (ax ?_)))))))))
    refine ax (aL (aa (ae (ae (ai (Cb (aj Z) (Cb (sT (by assumption) (am 0 Z Z Z)) (Cc Z (Ce (ab Z) ?_)))))))))
    refine Ce (sT X (dx Z Z)) (Cb (bh Z Z) (Cf (aa (aM Z (ai (Cc Z (Cc Z (Cb (eX Z Z X X) (Cd Z ?_)))))))))
    refine Cf (aa (ae (ai (Cc Z (Cd Z (Cf (aa (aG ?_))))))))
    refine aV Tryz.results77 (.tmp Z (av (by rw [qL (Nat.le_of_lt hrp) hp,y4 hp0 hneg h0])))
   ·refine ae (ae (ai (Cc Z (Cb (sF X (eR Z Z)) (Cf (aa (aD Z (a8 (ax ?_)))))))))
    refine ax (aL (aa (ae (ae (ai (Cb (aj Z) (Cb (sT (by assumption) (am 0 Z Z Z)) (Cc Z (Ce (ab Z) ?_)))))))))
    refine Ce (sF X (dx Z Z)) (Cb (bh Z Z) (Cf (aa (aD Z (ay (aa (ae (ai (Cc Z ?_)))))))))
    refine Cd Z (Cf (aa (aG ?_)))
    refine aV Tryz.results77 (.tmp Z (av (by rw [wT hp0 hneg h0])))
  ·refine ae (ae (ai (Cc Z (Cb (sF X (eR Z Z)) (Cf (aa (aD Z (a8 (ax ?_)))))))))
   refine ax (aL (aa (ae (ae (ai (Cb (aj Z) (Cb (sF (by assumption) (am 0 Z Z Z)) (Cc Z (sg0 Z Z Z Z ?_)))))))))
   refine sg0 Z Z Z Z (Cb (bT Z Z) (Cf (aa (aD Z (ay (aa (ae (ai (Cc Z ?_)))))))))
   refine Cd Z (Cf (aa (aG ?_)))
   refine aV Tryz.results77 (.tmp Z (av (by rw [y5 hneg])))
 | succ n =>
  have hx:=a6 hla n
  have hst:=wS (p:=p) (show n<l.length by omega) hr
  have hb:r*4294967296+l.getD n 0<18446744073709551616:=by omega
  have hrm:=mS (r*4294967296+l.getD n 0) p hb hp0 X
  have en:((n+1:Nat):Int) - 1=(n:Nat):=by omega
  rw [en]
  refine ae (ae (ai (Cc Z (Cb (sT X (eR Z Z)) (Cf (aa (aM Z (ay (aa ?_)))))))))
  refine ae (aw (ai (Cc Z (Cb (oS Z X) (Cb (aj Z) (Cb (am 0 Z Z Z) (Cc Z (Cb (aI Z Z X) (Cb (aY Z) ?_)))))))))
  refine Cb (cd Z X) (Cb (jP Z Z X X) (Cc Z ?_))
  refine Cb (ao (hrm) Z ⟨A,A,Cg⟩) ?_
  refine Cd Z (Cf (aK (aa (ai (Cc Z (Cb (ef Z Z (aR X X)) (Cd Z (Cf ?_))))))))
  refine aX ((n,(r*4294967296+l.getD n 0) % p)) (⟨by omega,hst⟩) X BX (.keep Ca (.nil))
end Tor
end
section
namespace Tor
open Go Go.RowKit Go.Proofs
variable [Tor.Co.Kc]
def de:Nat→Nat→Nat→Nat × Nat
 | 0, o, t => (o, t)
 | f + 1, o, t => if o % 2 = 0 then de f (o / 2) (t + 1) else (o, t)
def sqrF (n:Nat):Nat→Nat→Bool
 | 0, _ => false
 | c + 1, x => if x * x % n = n - 1 then true else sqrF n c (x * x % n)
def iu (n:Nat) (O T b:Nat):Bool:=decide (b^O % n=1) || decide (b^O % n=n - 1) || sqrF n (T - 1) (b^O % n)
def dL (j:Nat):Nat := [2,3,5,7].getD j 0
def iI (n O T:Nat):Nat→Nat→Bool
 | 0, _ => true
 | c + 1, j => if n = dL j then true else iu n O T (dL j) && iI n O T c (j + 1)
def bg (n:Nat):Bool:=if n<2∨2147483648≤n then false else if n % 2=0 then decide (n=2) else
 iI n (de 32 (n - 1) 0).1 (de 32 (n - 1) 0).2 4 0
theorem jZ : ∀ (f o t:Nat),0<o→o<2^f→(de f o t).1 % 2=1∧0<(de f o t).1∧(de f o t).1≤o∧(de f o t).2≤t+f
 | 0, o, t, h1, h2 => by simp at h2; omega
 | f + 1, o, t, h1, h2 => by
  rw [de]
  split
  ·have:=jZ f (o / 2) (t+1) X (by rw [Nat.pow_succ] at h2;omega)
   omega
  ·simp only;omega
theorem mU (j:Nat):dL j≤7∧(j<4→2≤dL j):=by
 unfold dL
 match j with
 | 0 => decide
 | 1 => decide
 | 2 => decide
 | 3 => decide
 | j + 4 => simp
structure BasR (n:Nat) (O T i:Nat):Prop where
 le:i≤4
 ne : ∀ j,j<i→n≠dL j
 eq:iI n O T 4 0=iI n O T (4 - i) i
theorem BasR.next {n O T i:Nat} (h:BasR n O T i) (hi:i<4) (hn:n≠dL i) (hs:iu n O T (dL i)=true):BasR n O T (i+1):=by
 refine ⟨hi,fun j hj => ?_,?_⟩
 ·rcases Nat.lt_or_eq_of_le (Nat.lt_succ_iff.1 hj) with h' | h'
  ·exact h.ne j h'
  ·rw [h']; exact hn
 ·rw [h.eq,show 4 - i=(4 - (i+1))+1 by omega,iI,if_neg hn,hs]; rfl
theorem BasR.hit {n O T i:Nat} (h:BasR n O T i) (hi:i<4) (hn:n=dL i):iI n O T 4 0=true:=by
 rw [h.eq,show 4 - i=(4 - (i+1))+1 by omega,iI,if_pos hn]
theorem BasR.miss {n O T i:Nat} (h:BasR n O T i) (hi:i<4) (hn:n≠dL i) (hs:iu n O T (dL i)=false):iI n O T 4 0=false:=by
 rw [h.eq,show 4 - i=(4 - (i+1))+1 by omega,iI,if_neg hn,hs]; rfl
theorem BasR.end {n O T:Nat} (h:BasR n O T 4):iI n O T 4 0=true:=by rw [h.eq]; rfl
theorem BasR.lt {n O T i:Nat} (h:BasR n O T i) (hi:i<4) (hn:n≠dL i) (h2:2<n) (ho:n % 2=1):dL i<n:=by
 have h0:=h.ne
 match i,hi with
 | 0, _ => show 2 < n; omega
 | 1, _ => have : n ≠ 3 := hn; show 3 < n; omega
 | 2, _ => have : n ≠ 5 := hn; have : n ≠ 3 := h0 1 X; show 5 < n; omega
 | 3, _ => have : n ≠ 7 := hn; have : n ≠ 3 := h0 1 X; have : n ≠ 5 := h0 2 X; show 7 < n; omega
attribute [local irreducible] J PJ aC one slT bL bE bw exT cj eP aT aH slV VT.le Ret bQ
set_option maxRecDepth 20000 in
theorem fo (n:Nat) (hn64:n<18446744073709551616):Ok Tryz.prog 49 [one (.int .u64 n)] (one (.bool (bg n))):=by
 refine Ok.enter Tryz.func49 Z Tryz.ntmps49 Z (fun w O => ?_)
 unfold bg
 by_cases h1:n<2
 ·rw [if_pos (.inl h1)]
  refine ae (ai (Cd Z (Cf (aa (ii (ae (ae (ai (Cc Z ?_)))))))))
  refine Cb (sT X (bD Z Z)) (Cc Z (sg0 Z Z Z Z (sg0 Z Z Z Z (Cb (bh Z Z) (Cf (aa (aM Z (ae (ai ?_)))))))))
  refine Cd Z (Cf (aa (aG (aJ (el ?_)))))
  refine aV Tryz.results49 (.tmp Z A)
 ·by_cases h2:2147483648≤n
  ·rw [if_pos (.inr h2)]
   refine ae (ai (Cd Z (Cf (aa (ii (ae (ae (ai (Cc Z ?_)))))))))
   refine Cb (sF X (bD Z Z)) (Cc Z (Ce (ab Z) (Ce (sT X (eR Z Z)) (Cb (bT Z Z) (Cf (aa (aM Z (ae (ai ?_)))))))))
   refine Cd Z (Cf (aa (aG (aJ (el ?_)))))
   refine aV Tryz.results49 (.tmp Z A)
  ·rw [if_neg X]
   by_cases h3:n % 2=0
   ·rw [if_pos h3]
    refine ae (ai (Cd Z (Cf (aa (ii (ae (ae (ai (Cc Z ?_)))))))))
    refine Cb (sF X (bD Z Z)) (Cc Z (Ce (ab Z) (Ce (sF X (eR Z Z)) (Cb (bT Z Z) (Cf (aa (aD Z (ay (aa ?_)))))))))
    refine ae (ae (ai (Cc Z (Cb (eh 2 Z Z Z U) (Cb (sT X (cQ Z Z)) (Cf (aa (aM Z (ae ?_)))))))))
    refine ai (Cc Z (Cb (cQ Z Z) (Cd Z (Cf (aa (aG (aJ (el ?_))))))))
    refine aV Tryz.results49 (.tmp Z (av (by congr 1;rw [decide_eq_decide]; omega)))
   ·rw [if_neg h3]
    obtain ⟨s1,s2,s3,s4⟩:=jZ 32 (n - 1) 0 X X
    have hST:de 32 (n - 1) 0=((de 32 (n - 1) 0).1,(de 32 (n - 1) 0).2):=rfl
    generalize (de 32 (n - 1) 0).1=OO at *
    generalize (de 32 (n - 1) 0).2=TT at *
    have hn1:1≤n:=by omega
    refine ae (ai (Cd Z (Cf (aa (ii (ae (ae (ai (Cc Z ?_)))))))))
    refine Cb (sF X (bD Z Z)) (Cc Z (Ce (ab Z) (Ce (sF X (eR Z Z)) (Cb (bT Z Z) (Cf (aa (aD Z (ay (aa ?_)))))))))
    refine ae (ae (ai (Cc Z (Cb (eh 2 Z Z Z U) (Cb (sF X (cQ Z Z)) (Cf (aa (aD Z (ay ?_)))))))))
    refine aa (ae (ai (Cc Z (Cb (jS 1 Z Z X X) (Cd Z (Cd Z (Cf (aa (ae ?_)))))))))
    refine aw (cv (Γ' := [(0,_),(2,_),(3,_),(4,_)]) BW (SubM.refl _) ?_)
    refine bO (σ:=Nat × Nat × Nat) (Γk := [(0,_),(2,_)]) BW (fun p => [(3,one (.int .u64 (p.1:Nat))),(4,one (.int .i64 (p.2.1:Nat)))]) (fun p M0=>M0) (fun p=>de p.2.2 p.1 p.2.1=(OO,TT)∧0<p.1∧p.1<2^p.2.2∧p.2.1+p.2.2=32) (fun p=>p.1) ((n - 1,0,32)) (⟨hST,(by omega:0<n - 1),(by omega:n - 1<2^32),rfl⟩) BX (.nil) (fun p hp => ?_)
    refine cg (Γ' := [(3,_),(4,_),(0,_),(2,_)]) (M' := []) Z Z ?_
    obtain ⟨o,t,f⟩:=p
    dsimp only at hp ⊢
    obtain ⟨p1,p2,p3,p4⟩:=hp
    have ho31:o<4294967296:=Nat.lt_of_lt_of_le p3 (Nat.pow_le_pow_right (n:=2) U (show f≤32 by omega))
    by_cases ho:o % 2=0
    ·have hf0:f≠0:=fun h=>by rw [h] at p3;simp at p3;omega
     obtain ⟨g,rfl⟩ : ∃ g,f=g+1:=⟨f - 1,by omega⟩
     rw [de,if_pos ho] at p1
     have p5:o / 2<2^g:=by rw [Nat.pow_succ] at p3;omega
     refine ae (ae (ai (Cc Z (Cb (eh 2 Z Z Z U) (Cb (sT X (cQ Z Z)) (Cf (aa (aM Z (ay ?_)))))))))
     refine aa (aw (ae (ai (Cc Z (Cb (mw Z Z X U) (Cd Z (Cf (aa (ai ?_)))))))))
     refine Cc Z (Cb (bU _ 1 Z Z X) (Cd Z (Cf (aK ?_))))
     refine aX ((o / 2,t+1,g)) (⟨p1,(by omega:0<o / 2),p5,(by omega:t+1+g=32)⟩) X BX (.nil)
    ·have e2:de f o t=(o,t):=by cases f <;> simp [de,ho]
     rw [e2] at p1
     obtain ⟨rfl,rfl⟩:=Prod.mk.inj p1
     refine ae (ae (ai (Cc Z (Cb (eh 2 Z Z Z U) (Cb (sF X (cQ Z Z)) (Cf (aa (aD Z (a8 ?_)))))))))
     refine ax (ax (aL (aa (ae (lY (aa (ae (ae (ai ?_)))))))))
     refine stB Z Z Z (BuildK.cons Z Z Z (BuildK.cons Z Z Z (BuildK.cons Z Z Z (BuildK.cons Z Z Z (BuildK.nil (Cc Z (Cf (aa (aw ?_)))))))))
     refine cv (Γ' := [(0,_),(2,_),(3,_),(4,_),(28,_),(29,_)]) BW (SubM.refl _) ?_
     refine bO (σ:=Nat) (Γk := [(0,_),(3,_),(4,_),(28,_)]) BW (fun i => [(29,one (.int .i64 (i:Nat)))]) (fun i M0=>M0) (fun i=>BasR n o t i) (fun i=>4 - i) (0) (⟨by decide,fun j hj=>absurd hj (Nat.not_lt_zero j),rfl⟩) BX (.nil) (fun i hi => ?_)
     refine cg (Γ' := [(29,_),(0,_),(3,_),(4,_),(28,_)]) (M' := []) Z Z ?_
     have hile:=hi.le
     refine ae (ai (Cb (bD Z Z) (Cf (aa (ae ?_)))))
     refine ku Z (fun hc => ?_) (fun hc => ?_)
     ·have hi4:i<4:=by omega
      have hbl:=mU i
      refine ay (aa (ae (aw (ae (ai ?_)))))
      refine Cb (uM (fun j=>one (.int .u64 (dL j:Nat))) Z Z hi4 (fun j hj=>by rcases (show j=0∨j=1∨j=2∨j=3 by omega) with rfl | rfl | rfl | rfl <;> rfl)) ?_
      refine Cd Z (Cf (aa (ae (ae (ai (Cc Z (Cc Z (Cb (cQ Z Z) (Cf ?_)))))))))
      refine aa ?_
      refine ku Z (fun hnb => ?_) (fun hnb => ?_)
      ·rw [hi.hit hi4 X]
       refine ae (ai (Cd Z (Cf (aa (aG (aJ (bp (aJ (aJ ?_)))))))))
       refine bp (aJ (el ?_))
       refine aV Tryz.results49 (.tmp Z A)
      ·have hnb':n≠dL i:=by omega
       have hlt:=hi.lt hi4 hnb' X X
       have hpw:=tU n (dL i) o X hlt X
       have hxl:dL i^o % n<n:=Nat.mod_lt _ X
       have hss:iu n o t (dL i)=(decide (dL i^o % n=1) || decide (dL i^o % n=n - 1) || sqrF n (t - 1) (dL i^o % n)):=rfl
       generalize dL i^o % n=x0 at *
       clear p3 p4 ho31 s3 e2 p1 hST
       by_cases c1:x0=1
       ·have hst:=hi.next hi4 hnb' (by rw [hss,decide_eq_true c1]; rfl)
        refine ay (aa (ae (ai (Cc Z (Cc Z (Cc Z ?_))))))
        refine Cb (ao (hpw) Z ⟨A,A,A,Cg⟩) ?_
        refine Cd Z (Cf (aa (ae (ae (ai (Cc Z (Cb (sT X (cQ Z Z)) (Cc Z (sg0 Z Z Z Z ?_)))))))))
        refine sg0 Z Z Z Z (sg0 Z Z Z Z (sg0 Z Z Z Z (Cb (bh Z Z) (Cf (aa (aM Z (a8 (ax (aL ?_)))))))))
        refine aa (ai (Cb (bU _ 1 Z Z X) (Cc Z (Cf ?_))))
        refine aX (i+1) (hst) X BX (.nil)
       ·by_cases c2:x0=n - 1
        ·have hst:=hi.next hi4 hnb' (by rw [hss,decide_eq_true c2,Bool.or_true]; rfl)
         refine ay (aa (ae (ai (Cc Z (Cc Z (Cc Z ?_))))))
         refine Cb (ao (hpw) Z ⟨A,A,A,Cg⟩) ?_
         refine Cd Z (Cf (aa (ae (ae (ai (Cc Z (Cb (sF X (cQ Z Z)) (Cc Z (Ce (ab Z) ?_)))))))))
         refine Ce (ab Z) (Ce (jS 1 Z Z X X) (Ce (sT X (cQ Z Z)) (Cb (bT Z Z) (Cf (aa (aM Z (a8 (ax (aL ?_)))))))))
         refine aa (ai (Cb (bU _ 1 Z Z X) (Cc Z (Cf ?_))))
         refine aX (i+1) (hst) X BX (.nil)
        ·rw [decide_eq_false c1,decide_eq_false c2] at hss
         simp only [Bool.false_or] at hss
         refine ay (aa (ae (ai (Cc Z (Cc Z (Cc Z ?_))))))
         refine Cb (ao (hpw) Z ⟨A,A,A,Cg⟩) ?_
         refine Cd Z (Cf (aa (ae (ae (ai (Cc Z (Cb (sF X (cQ Z Z)) (Cc Z (Ce (ab Z) ?_)))))))))
         refine Ce (ab Z) (Ce (jS 1 Z Z X X) (Ce (sF X (cQ Z Z)) (Cb (bT Z Z) (Cf (aa (aD Z (ay (aa (ae ?_)))))))))
         refine ae (ai (Cc Z (Cb (ef Z Z (aR X X)) (Cc Z (Cf (aa (aw (cv (Γ' := [(0,_),(3,_),(4,_),(7,_),(28,_),(29,_),(48,_),(49,_)]) BW (SubM.refl _) ?_))))))))
         refine bO (σ:=Nat × Nat) (Γk := [(0,_),(3,_),(4,_),(28,_),(29,_),(48,_)]) BW (fun q => [(49,one (.int .i64 (q.1:Nat))),(7,one (.int .u64 (q.2:Nat)))]) (fun q M0=>M0) (fun q=>q.2<n∧sqrF n (t - 1) x0=sqrF n (t - 1 - q.1) q.2) (fun q=>t - 1 - q.1) ((0,x0)) (⟨hxl,rfl⟩) BX (.nil) (fun q hq => ?_)
         refine cg (Γ' := [(49,_),(7,_),(0,_),(3,_),(4,_),(28,_),(29,_),(48,_)]) (M' := []) Z Z ?_
         obtain ⟨j,x⟩:=q
         dsimp only at hq ⊢
         obtain ⟨q1,q2⟩:=hq
         by_cases hj:j<t - 1
         ·rw [show t - 1 - j=(t - 1 - (j+1))+1 by omega,sqrF] at q2
          have hxx:x*x % n<n:=Nat.mod_lt _ X
          by_cases c3:x*x % n=n - 1
          ·rw [if_pos c3] at q2
           have hst:=hi.next hi4 hnb' (hss.trans q2)
           have e3:((x*x % n:Nat):Int)=((n - 1:Nat):Int):=by rw [c3]
           refine ae (ai (Cb (sT X (bD Z Z)) (Cf (aa (ae (aM Z (ay (aa (ae ?_)))))))))
           refine aw (ae (ai (Cc Z (Cc Z (Cc Z ?_)))))
           refine Cb (ao (gb _ _ _ (by assumption) X X X) Z ⟨A,A,A,Cg⟩) ?_
           refine Cd Z (Cf (aa (ae (ai (Cc Z (Cc Z (Cb (jS 1 Z Z X X) (Cb (sT (by assumption) (cQ Z Z)) (Cf ?_)))))))))
           refine aa (aM Z (a8 (dG Z (ax (ax (dG Z (ax (aL (aa ?_)))))))))
           refine ai (Cb (bU _ 1 Z Z X) (Cc Z (Cf ?_)))
           refine aX (i+1) (hst) X BX (.nil)
          ·rw [if_neg c3] at q2
           refine ae (ai (Cb (sT X (bD Z Z)) (Cf (aa (ae (aM Z (ay (aa (ae ?_)))))))))
           refine aw (ae (ai (Cc Z (Cc Z (Cc Z ?_)))))
           refine Cb (ao (gb _ _ _ (by assumption) X X X) Z ⟨A,A,A,Cg⟩) ?_
           refine Cd Z (Cf (aa (ae (ai (Cc Z (Cc Z (Cb (jS 1 Z Z X X) (Cb (sF X (cQ Z Z)) (Cf ?_)))))))))
           refine aa (aD Z (ay (aK (aa (ai (Cb (bU _ 1 Z Z X) (Cc Z (Cf ?_))))))))
           refine aX ((j+1,x*x % n)) (⟨hxx,q2⟩) X BX (.nil)
         ·have hf:iu n o t (dL i)=false:=by rw [hss,q2,show t - 1 - j=0 by omega]; rfl
          rw [hi.miss hi4 hnb' hf]
          refine ae (ai (Cb (sF X (bD Z Z)) (Cf (aa (ae (aD Z (a8 (ax (ax ?_)))))))))
          refine aL (aa (ae (ai (Cd Z (Cf (aa (aG (bp (aJ ?_)))))))))
          refine aJ (bp (aJ (el ?_)))
          refine aV Tryz.results49 (.tmp Z A)
     ·have:i=4:=by omega
      subst this
      rw [hi.end]
      refine a8 (ax (ax (aL (aa (ae (ai (Cd Z (Cf (aa ?_)))))))))
      refine aG (el ?_)
      refine aV Tryz.results49 (.tmp Z A)
end Tor
end
section
namespace Tor
variable [Tor.Co.Kc]
def lp:Nat→Nat→Nat→Nat→Nat→Nat
 | 0, _, r, _, _ => r
 | f + 1, p, r, a, e => if e = 0 then r else lp f p (if e % 2 = 1 then r * a % p else r) (a * a % p) (e / 2)
theorem pd : ∀ (f:Nat) {p v r a e:Nat},e<2^f→PowR p v (r,a,e)→lp f p r a e=v
 | 0, p, v, r, a, e, h, hR => by
  have:e=0:=by simpa using h
  subst this;exact hR.done
 | f + 1, p, v, r, a, e, h, hR => by
  rw [lp]
  by_cases h0:e=0
  ·subst h0;rw [if_pos Z]; exact hR.done
  ·rw [if_neg h0]
   have h2:e / 2<2^f:=by rw [Nat.pow_succ] at h;omega
   by_cases h1:e % 2=1
   ·rw [if_pos h1]; exact pd f h2 (hR.odd h1)
   ·rw [if_neg h1]; exact pd f h2 (hR.even h1)
def dn (n O T b:Nat):Bool:=decide (lp 64 n (1 % n) b O=1) || decide (lp 64 n (1 % n) b O=n - 1) || sqrF n (T - 1) (lp 64 n (1 % n) b O)
theorem u0 {n O T b:Nat} (hb:b<n) (hO:O<18446744073709551616):iu n O T b=dn n O T b:=by
 have:=pd 64 (e:=O) hO (PowR.start (p:=n) X hb hO)
 unfold iu dn
 rw [this]
def nZ (n O T:Nat):Nat→Nat→Bool
 | 0, _ => true
 | c + 1, j => if n = dL j then true else dn n O T (dL j) && nZ n O T c (j + 1)
theorem tW {n O T:Nat} (h7:7<n) (hO:O<18446744073709551616) : ∀ c j,iI n O T c j=nZ n O T c j
 | 0, _ => rfl
 | c + 1, j => by
  have hb:=(mU j).1
  rw [iI,nZ,u0 X hO,tW h7 hO c (j+1)]
def pf (n:Nat):Bool:=if n<2∨2147483648≤n then false else if n % 2=0 then decide (n=2) else
 nZ n (de 32 (n - 1) 0).1 (de 32 (n - 1) 0).2 4 0
theorem qM {n:Nat} (h7:7<n):bg n=pf n:=by
 unfold bg pf
 by_cases h1:n<2∨2147483648≤n
 ·rw [if_pos h1,if_pos h1]
 ·rw [if_neg h1,if_neg h1]
  by_cases h2:n % 2=0
  ·rw [if_pos h2,if_pos h2]
  ·rw [if_neg h2,if_neg h2]
   have:=jZ 32 (n - 1) 0 X X
   exact tW h7 X 4 0
end Tor
end
section
namespace Tor
open Go Go.RowKit Go.Proofs
variable [Tor.Co.Kc]
def lP (v:Nat):Nat:=if v=0 then 0 else 32*((aQ v).length - 1)+fH ((aQ v).getD ((aQ v).length - 1) 0)
attribute [local irreducible] J PJ aC one slT bL bE bw exT cj eP aT aH slV VT.le Ret bQ
end Tor
end
