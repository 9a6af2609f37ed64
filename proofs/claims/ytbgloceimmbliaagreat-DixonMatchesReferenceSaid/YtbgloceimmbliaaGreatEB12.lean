/-
  Proofs that laws of this seat return true for every input, and that their arguments read afterwards as before.
  No condition.
-/
import Derived.Test.YtbgloceimmbliaaGreatEB11
import Derived.Test.YtbgloceimmbliaaGreatRows
set_option maxHeartbeats 20000000
set_option linter.unusedVariables false
set_option linter.unusedSimpArgs false
section
namespace Tor
open Go Go.RowKit Go.Proofs
theorem uP {n:Nat} {F:Nat→Nat→Int} (hn:n≤4) (hF : ∀ i j,(F i j).natAbs≤9):(Lin.bK n F).natAbs≤104976:=by
 have h:=oF n F
 have h1:prN n (fun i=>fk n (F i))≤(4*(9*9))^n:=so (n:=n) (fun i _=>Nat.le_trans (p6 (B:=9) (hF i)) (Nat.mul_le_mul_right _ hn)) n (Nat.le_refl n)
 have h2:(4*(9*9))^n≤(4*(9*9))^4:=Nat.pow_le_pow_right U hn
 have h3:=EJ (Int.le_trans h (Int.ofNat_le.2 (Nat.le_trans h1 h2)))
 rcases Nat.lt_or_ge 104976 (Lin.bK n F).natAbs with h4 | h4
 ·have:=Nat.mul_le_mul h4 h4
  have e:(4*(9*9))^4=11019960576:=by decide
  rw [e] at h3
  have:104977*104977≤(Lin.bK n F).natAbs*(Lin.bK n F).natAbs:=this
  omega
 ·exact h4
theorem uQ {n:Nat} {F:Nat→Nat→Int} (hn:n≤4) (hF : ∀ i j,(F i j).natAbs≤9) (hd:Lin.bK n F≠0):lD (Lin.bK n F)∧eS (Lin.bK n F)=2147483647:=by
 have h:=uP hn hF
 have h1:Lin.bK n F % 2147483647≠0:=by omega
 exact ⟨fun h2=>absurd h2 h1,by unfold eS;rw [if_neg h1]⟩
theorem Do (n:Nat) (F:Nat→Nat→Int) (b:Nat→Int) (hn:n≤4) (hF : ∀ i j,(F i j).natAbs≤34359738368) (hb : ∀ i,(b i).natAbs≤1152921504606846976) (hd:Lin.bK n F≠0) (hg:lD (Lin.bK n F)) :
  Ok Tryz.prog 13 [bO n n F,bw n b] (bj [cN n (m4 n F b),one (.int .i64 0)]):=je n F b hn hF hb hd hg
theorem Dp (n:Nat) (F:Nat→Nat→Int) (b:Nat→Int) (hn:n≤4) (hF : ∀ i j,(F i j).natAbs≤34359738368) (hd:Lin.bK n F=0) :
  Ok Tryz.prog 13 [bO n n F,bw n b] (bj [cN 0 (fun _=>0),one (.int .i64 110)]):=n9 n F b hn hF hd
attribute [local irreducible] J PJ aM one slT bW bH bj exT cn eP aX aH slV VT.le Ret bP xO
attribute [local irreducible] aO cj bw
end Tor
end
section
namespace Tor
open Go Go.RowKit Go.Proofs
def dgX (n:Nat) (F:Nat→Nat→Int) (b:Nat→Int) (i j:Nat):Int:=((dgR (eS (Lin.bK n F)) (fy (eS (Lin.bK n F)) n F b i j):Nat):Int)
theorem BH {n i j:Nat} {F:Nat→Nat→Int} {b:Nat→Int} {pre:List (Nat→Int)} (hg:lD (Lin.bK n F)) (h:gQ (eS (Lin.bK n F)) n F b pre) (hi:i<pre.length) (hj:j<n):pre.getD i z0 j=dgX n F b i j:=by
 obtain ⟨G,hG⟩:=l3 n F
 obtain ⟨R,hR,he⟩:=h
 have h1:=(xo (b:=b) (jd _) hG (jC hg) hR i j hj).2.2
 unfold dgX
 rw [h1,he]
 simp [List.getD,hi]
theorem sJ (n k:Nat) (F:Nat→Nat→Int) (b:Nat→Int) (hn:n≤4) (hF : ∀ i j,(F i j).natAbs≤34359738368) (hb : ∀ i,(b i).natAbs≤1152921504606846976) (hd:Lin.bK n F≠0) (hg:lD (Lin.bK n F)) (hk:k≤64) :
  Ok Tryz.prog 15 [bO n n F,bw n b,one (.int .i64 (k:Nat))] (bj [slT .one k (fun i=>bw n (dgX n F b i)),one (.int .u64 (eS (Lin.bK n F):Nat)),one (.int .i64 0)]) :=
 (j5 n k F b hn hF hb hd hg hk).le (dq _) (uX fun pre=>ru fun h=>uN h.2 fun i j hi hj=>BH hg h.1 (by rw [h.2]; exact hi) hj)
theorem Dq {p n:Nat} {F G:Nat→Nat→Int} {d:Int} (hp:Lin.Pr p) (h:AdjI n F G d) (hd : ¬ (p:Int)∣d) : ∃ R,sr p n F R:=by
 have hp2:=hp.1
 obtain ⟨x,hx⟩ : ∃ x:Nat,(x:Int)=d % (p:Int):=⟨(d % (p:Int)).toNat,Int.toNat_of_nonneg (Int.emod_nonneg _ X)⟩
 have hxd:(p:Int)∣(x:Int) - d:=by
  rw [hx]
  exact ⟨-(d / (p:Int)),by have:=Int.mul_ediv_add_emod d (p:Int);rw [Int.mul_neg]; omega⟩
 have hx0 : ¬ p∣x:=fun hh=>hd (ja (gw hxd) (Int.natCast_dvd_natCast.2 hh))
 have hinv:=hp.inverse hx0
 obtain ⟨v,hv⟩ : ∃ v,v=x^(p - 2):=⟨_,rfl⟩
 rw [← hv] at hinv
 have h1:(p:Int)∣d*(v:Int) - 1:=by
  have h2:=er (x*v) p
  rw [hinv,Int.natCast_mul] at h2
  exact fY (gw (dh (v:Int) hxd)) (gw h2)
 have hR : ∀ i j,(p:Int)∣(((G i j*(v:Int)) % (p:Int)).toNat:Int) - G i j*(v:Int):=fun i j=>by
  rw [Int.toNat_of_nonneg (Int.emod_nonneg _ X)]
  exact ⟨-(G i j*(v:Int) / (p:Int)),by have:=Int.mul_ediv_add_emod (G i j*(v:Int)) (p:Int);rw [Int.mul_neg]; omega⟩
 refine ⟨fun i j=>((G i j*(v:Int)) % (p:Int)).toNat,fun i j hi hj => ?_,fun i j hi hj => ?_⟩
 ·have a1:=Int.emod_nonneg (G i j*(v:Int)) (show (p:Int)≠0 by omega)
  have a2:=Int.emod_lt_of_pos (G i j*(v:Int)) (show 0<(p:Int) by omega)
  show ((G i j*(v:Int)) % (p:Int)).toNat<p
  generalize (G i j*(v:Int)) % (p:Int)=q at *
  omega
 ·have h3:(p:Int)∣bD n (fun t=>((((G i t*(v:Int)) % (p:Int)).toNat:Nat):Int)*F t j) - bD n (fun t=>(v:Int)*(G i t*F t j)):=gJ fun t _=>by
   have:=dh (F t j) (hR i t)
   rwa [show G i t*(v:Int)*F t j=(v:Int)*(G i t*F t j) by rw [Int.mul_comm (G i t),Int.mul_assoc]] at this
  rw [dS,h.gf i j hi hj] at h3
  refine fY h3 ?_
  by_cases e:i=j
  ·rw [if_pos e,if_pos e,Int.mul_comm]; exact h1
  ·rw [if_neg e,if_neg e,Int.mul_zero,Int.sub_self]; exact Int.dvd_zero _
theorem Dr {n:Nat} {F:Nat→Nat→Int} {b:Nat→Int} (hg:lD (Lin.bK n F)) : ∀ i j,j<n→(fy (eS (Lin.bK n F)) n F b i j).den % eS (Lin.bK n F)≠0:=fun i j hj=>by
 obtain ⟨G,hG⟩:=l3 n F
 obtain ⟨R,hR⟩:=Dq (jd _) hG (jC hg)
 exact (xo (b:=b) (jd _) hG (jC hg) hR i j hj).2.1
end Tor
end
section
namespace Tor
open Go Go.RowKit Go.Proofs
theorem uR {n:Nat} {F:Nat→Nat→Int} (hA : ∀ i j,(F i j).natAbs≤9):(∀ i j,lz 1 (F i j)) ∧ ∀ i j,(F i j).natAbs≤34359738368 :=
 ⟨fun i j=>cw (k:=1) (by have:=hA i j;omega),fun i j=>Nat.le_trans (hA i j) U⟩
theorem l7 (r c m:Nat) (F:Nat→Nat→Int) (b:Nat→Int) (hr:r≤4) (hA : ∀ i j,(F i j).natAbs≤9) (hb : ∀ j,(b j).natAbs≤9) :
  ∃ (k:Nat) (Fx:Nat→Rat) (e:Int),Ok Tryz.prog 13 [bO r c F,bw m b] (bj [cN k Fx,one (.int .i64 e)])∧Ok Tryz.prog 14 [bO r c F,bw m b] (bj [cN k Fx,one (.int .i64 e)])∧k≤4:=by
 obtain ⟨lF,hA'⟩:=uR (n:=r) hA
 have lb : ∀ j,lz 1 (b j):=fun j=>cw (k:=1) (by have:=hb j;omega)
 by_cases h:r=c∧m=c
 ·obtain ⟨rfl,rfl⟩:=h
  by_cases hd:Lin.bK m F=0
  ·have hc:jp m m m 0 F=110:=by unfold jp;rw [if_pos ⟨rfl,rfl⟩,if_neg U,if_pos hd]
   have h2:=m7 m m m F b hr hA' (by rw [hc]; decide)
   rw [hc] at h2
   exact ⟨0,fun _=>0,110,Dp m F b hr hA' hd,h2,by decide⟩
  ·obtain ⟨hg,_⟩:=uQ hr hA hd
   exact ⟨m,m4 m F b,0,Do m F b hr hA' (fun j=>Nat.le_trans (hb j) U) hd hg,oa m F b hr lF lb hd hA',hr⟩
 ·have hc:jp r c m 0 F=50:=by unfold jp;rw [if_neg h]
  have h2:=m7 r c m F b hr hA' (by rw [hc]; decide)
  rw [hc] at h2
  exact ⟨0,fun _=>0,50,rd r c m F b h,h2,by decide⟩
theorem fG (r c m:Nat) (k:Int) (F:Nat→Nat→Int) (b:Nat→Int) (hr:r≤4) (hA : ∀ i j,(F i j).natAbs≤9) (hb : ∀ j,(b j).natAbs≤9) :
  ∃ (l n:Nat) (f:Nat→Nat→Int) (p:Nat) (e:Int),Ok Tryz.prog 15 [bO r c F,bw m b,one (.int .i64 k)] (bj [slT .one l (fun i=>bw n (f i)),one (.int .u64 (p:Nat)),one (.int .i64 e)]) ∧
   Ok Tryz.prog 16 [bO r c F,bw m b,one (.int .i64 k)] (bj [slT .one l (fun i=>bw n (f i)),one (.int .u64 (p:Nat)),one (.int .i64 e)])∧l≤64∧e=jp r c m k F:=by
 obtain ⟨lF,hA'⟩:=uR (n:=r) hA
 have lb : ∀ j,lz 1 (b j):=fun j=>cw (k:=1) (by have:=hb j;omega)
 have none : ∀ (e:Int),jp r c m k F=e→e≠0→Ok Tryz.prog 15 [bO r c F,bw m b,one (.int .i64 k)] (bj [kf 0 [],one (.int .u64 0),one (.int .i64 e)]) → ∃ (l n:Nat) (f:Nat→Nat→Int) (p:Nat) (e:Int),Ok Tryz.prog 15 [bO r c F,bw m b,one (.int .i64 k)] (bj [slT .one l (fun i=>bw n (f i)),one (.int .u64 (p:Nat)),one (.int .i64 e)]) ∧
   Ok Tryz.prog 16 [bO r c F,bw m b,one (.int .i64 k)] (bj [slT .one l (fun i=>bw n (f i)),one (.int .u64 (p:Nat)),one (.int .i64 e)])∧l≤64∧e=jp r c m k F:=fun e hc he h1=>by
  have h2:=qo r c m k F b hr hA' (by rw [hc]; exact he)
  rw [hc] at h2
  exact ⟨0,0,fun i=>([]:List (Nat→Int)).getD i z0,0,e,h1,h2,by decide,hc.symm⟩
 by_cases h:r=c∧m=c
 ·obtain ⟨rfl,rfl⟩:=h
  by_cases hk:k<0∨64<k
  ·exact none 1 (by unfold jp;rw [if_pos ⟨rfl,rfl⟩,if_pos hk]) U (pW m F b k hk)
  ·by_cases hd:Lin.bK m F=0
   ·exact none 110 (by unfold jp;rw [if_pos ⟨rfl,rfl⟩,if_neg hk,if_pos hd]) U (sD m F b k hr hA' hd X X)
   ·obtain ⟨hg,_⟩:=uQ hr hA hd
    obtain ⟨q,rfl⟩ : ∃ q:Nat,k=q:=⟨k.toNat,by omega⟩
    refine ⟨q,m,dgX m F b,eS (Lin.bK m F),0,sJ m q F b hr hA' (fun j=>Nat.le_trans (hb j) U) hd hg X,
     sI m q F b hr X lF lb hA' (fun j=>Nat.le_trans (hb j) U) hd hg (kZ (Nat.lt_of_le_of_lt (uP hr hA) H)) (Dr hg),by omega,?_⟩
    unfold jp;rw [if_pos ⟨rfl,rfl⟩,if_neg hk,if_neg hd]
 ·exact none 50 (by unfold jp;rw [if_neg h]) U (vK r c m F b k h)
end Tor
end
section
namespace Tor
open Go Go.RowKit Go.Proofs
def w2I (a b:Int):VT:=bH 2 [(0, .one,one (.int .i8 a)),(1, .one,one (.int .i8 b))]
def lI (n:Nat) (b:Nat→Int) (j:Nat):Int:=if j<n then b j else 1
attribute [local irreducible] J PJ aM one slT bW bH bj exT cn eP aX aH slV VT.le Ret bP xO
attribute [local irreducible] aO cj bw
set_option maxRecDepth 100000 in
theorem qp (r c:Nat) (l v:List Int) (x y:Int) (hr:r<256) (hc:c<256) (hx : -128≤x∧x≤127) (hy : -128≤y∧y≤127):Ok Tryz.prog 3 [jR r c l,gZ .i8 v,w2I x y] (one (.bool true)):=by
 have hsan:=uO
 have hsq:=vJ r c l
 have hmk:=yt r ((c+1) % 256) l
 have hk : -4≤y.tmod 5∧y.tmod 5≤4:=by
  have h5:=Int.natAbs_tmod y 5
  rw [show Int.natAbs 5=5 from rfl] at h5
  generalize y.tmod 5=q at *
  have h7:q.natAbs<5:=h5▸Nat.mod_lt _ U
  omega
 unfold w2I jR at *
 refine Ok.enter Tryz.func3 Y Tryz.ntmps3 Y (fun w O => ?_)
 by_cases h4:x.tmod 5=4
 ·have hw:IntKind.wrap .u8 ((c:Int)+1)=(((c+1) % 256:Nat):Int):=by
   have e:IntKind.wrap .u8 ((c:Int)+1)=((c:Int)+1) % 256:=rfl
   rw [e]; omega
  have hve:=lV v ((c+1) % 256 % 5) X
  obtain ⟨k0,Fx,e,s1,s2,hk0⟩:=l7 (r % 5) ((c+1) % 256 % 5) ((c+1) % 256 % 5) (fun i j=>dig l (i*((c+1) % 256 % 5)+j)) (dig v) X (fun i j=>dF _ _) (fun j=>dF v j)
  obtain ⟨l1,n1,f1,p1,e1,d1,d2,hl1,he1⟩:=fG (r % 5) ((c+1) % 256 % 5) ((c+1) % 256 % 5) (y.tmod 5) (fun i j=>dig l (i*((c+1) % 256 % 5)+j)) (dig v) X (fun i j=>dF _ _) (fun j=>dF v j)
  obtain ⟨l2,n2,f2,p2,e2,d3,_,hl2,he2⟩:=fG (r % 5) ((c+1) % 256 % 5) ((c+1) % 256 % 5) 65 (fun i j=>dig l (i*((c+1) % 256 % 5)+j)) (dig v) X (fun i j=>dF _ _) (fun j=>dF v j)
  have hcl:=eU (r % 5) ((c+1) % 256 % 5) ((c+1) % 256 % 5) 65 (fun i j=>dig l (i*((c+1) % 256 % 5)+j)) (dig v) X (fun i j=>Nat.le_trans (dF _ _) U)
  rw [← he2] at hcl
  have hli:=iJ k0 k0 Fx Fx X
  rw [decide_eq_true ⟨rfl,fun i _=>rfl⟩] at hli
  have hsa:=j7 n1 l1 f1 f1 X (fun i j _ _=>rfl)
  refine ae (ai ?_)
  refine aQ Y Y (ltN Y) (fun b3 => ?_)
  refine aQ Y Y (ltN Y) (fun b5 => ?_)
  refine FJ Y (FL (aa (ae (ai (FH (am (hsan) Y trivial) (FJ Y (FL (aa (ae ?_)))))))))
  refine ai (FH (aI 1 Y Y) ?_)
  refine FH (am (hsq) Y ⟨S,FM⟩) ?_
  refine bF (T:=30) Y Y Y (fun b8 => ?_)
  refine a8 0 Y Y Y Y (FL (aa (ae (ae (ai (FH (eY 0 _ Y Y (ltN Y)) (FH (ak 1 Y Y Y) (FH (jr Y Y U Y) (FH (sT (by assumption) (bV Y Y)) ?_)))))))))
  refine FL (aa (aD Y (ae (ai (FH (aj Y) (FH (ak 2 Y Y Y) (FH (cA Y Y hw) (FH (aj Y) (aB 2 Y Y Y Y Y (leN Y) Y ?_)))))))))
  refine FL (aa (ai (FH (aI 2 Y Y) ?_)))
  refine FH (am (hmk) Y ⟨S,FM⟩) ?_
  refine a8 0 Y Y Y Y (FL (aa (ae (be 9 a4 Z U (FI Y (FH (aj Y) (FH (ak 0 Y Y Y) ?_)))))))
  refine FH (am (hve) Y ⟨S,S,FM⟩) ?_
  refine FH (eY 1 _ Y Y (ltN Y)) (FH (ak 1 Y Y Y) (FH (jr Y Y U Y) (FH (c6 Y X X) (FJ Y (FL (FJ Y (FL (aa (ae ?_)))))))))
  refine ae (ai (FH (eY 0 _ Y Y (ltN Y)) (FH (ak 1 Y Y Y) (FH (jr Y Y U Y) (FH (sF X (bV Y Y)) (FL (aa (aA Y (aw ?_)))))))))
  refine aa (ae (ai (FH (aI 0 Y Y) (FI Y ?_))))
  refine FH (am (s1) Y ⟨S,S,FM⟩) ?_
  refine FI Y (FH (an Y Y) (FH (an Y Y) (FJ Y (FJ Y (FL (aa (ae (ai (FH (aI 0 Y Y) ?_)))))))))
  refine FI Y ?_
  refine FH (am (s2) Y ⟨S,S,FM⟩) ?_
  refine FI Y (FH (an Y Y) (FH (an Y Y) (FJ Y (FJ Y (FL (aa (ae (ai (FH (aI 0 Y Y) ?_)))))))))
  refine FI Y (FI Y ?_)
  refine FH (am (d1) Y ⟨S,S,S,FM⟩) ?_
  refine FI Y (FH (an Y Y) (FH (an Y Y) (FH (an Y Y) (FJ Y (FJ Y (FJ Y (FL (aa (ae ?_)))))))))
  refine ai (FH (aI 0 Y Y) (FI Y (FI Y ?_)))
  refine FH (am (d2) Y ⟨S,S,S,FM⟩) ?_
  refine FI Y (FH (an Y Y) (FH (an Y Y) (FH (an Y Y) (FJ Y (FJ Y (FJ Y (FL (aa (ae ?_)))))))))
  refine ai (FH (aI 0 Y Y) (FI Y ?_))
  refine FH (am (d3) Y ⟨S,S,S,FM⟩) ?_
  refine FI Y (FH (an Y Y) (FH (an Y Y) (FH (an Y Y) (FJ Y (FJ Y (FJ Y (FL (aa (ae ?_)))))))))
  refine ai (FI Y (FI Y ?_))
  refine FH (am (hli) Y ⟨S,S,FM⟩) ?_
  refine FI Y (FK (ab Y) (FK (ab Y) (FK (sT X (bV Y Y)) (FH (a5 Y Y) (FI Y (FK (ab Y) (FK (ab Y) ?_)))))))
  refine FK (am (hsa) Y ⟨S,S,FM⟩) ?_
  refine FH (a5 Y Y) (FI Y (FK (ab Y) (FK (ab Y) (FK (sT X (bV Y Y)) (FH (a5 Y Y) (FI Y (FK (ab Y) (FK (ab Y) (FK (sT X (bV Y Y)) ?_)))))))))
  refine FH (a5 Y Y) (FI Y (FK (ab Y) (FK (aI 0 Y Y) (FK (ab Y) ?_))))
  refine FK (am (hcl) Y ⟨S,S,S,FM⟩) ?_
  refine FK (sT X (bV Y Y)) (FH (a5 Y Y) (FI Y (FK (ab Y) (FH (a5 Y Y) (FJ Y (FL (aa (aG ?_))))))))
  refine aT Tryz.results3 (.tmp Y S)
 ·by_cases h3:x.tmod 5=3
  ·have hve:=lV v (r % 5) X
   have ho1:=iB 1 U U
   have hb : ∀ j,(lI (r % 5) (dig v) j).natAbs≤9:=fun j=>by
    unfold lI;split
    ·exact dF v j
    ·decide
   obtain ⟨k0,Fx,e,s1,s2,hk0⟩:=l7 (r % 5) (r % 5) (r % 5+1) (fun i j=>dig l (i*(r % 5)+j)) (lI (r % 5) (dig v)) X (fun i j=>dF _ _) hb
   obtain ⟨l1,n1,f1,p1,e1,d1,d2,hl1,he1⟩:=fG (r % 5) (r % 5) (r % 5+1) (y.tmod 5) (fun i j=>dig l (i*(r % 5)+j)) (lI (r % 5) (dig v)) X (fun i j=>dF _ _) hb
   obtain ⟨l2,n2,f2,p2,e2,d3,_,hl2,he2⟩:=fG (r % 5) (r % 5) (r % 5+1) 65 (fun i j=>dig l (i*(r % 5)+j)) (lI (r % 5) (dig v)) X (fun i j=>dF _ _) hb
   have hcl:=eU (r % 5) (r % 5) (r % 5+1) 65 (fun i j=>dig l (i*(r % 5)+j)) (lI (r % 5) (dig v)) X (fun i j=>Nat.le_trans (dF _ _) U)
   rw [← he2] at hcl
   have hli:=iJ k0 k0 Fx Fx X
   rw [decide_eq_true ⟨rfl,fun i _=>rfl⟩] at hli
   have hsa:=j7 n1 l1 f1 f1 X (fun i j _ _=>rfl)
   unfold bw at *
   have hle:VT.le (slT (.agg 2) (0+r % 5+1) (fun q=>if q<0+r % 5 then if q<0 then ([]:List VT).reverse.getD q bP else aO (dig v (q - 0)) else aO 1)) (slT (.agg 2) (r % 5+1) (fun j=>aO (lI (r % 5) (dig v) j))) :=
    cI X (fun q hq=>by
     unfold lI
     by_cases h:q<r % 5
     ·rw [if_pos X,if_neg X,if_pos h]; rfl
     ·rw [if_neg X,if_neg h])
   refine ae (ai ?_)
   refine aQ Y Y (ltN Y) (fun b3 => ?_)
   refine aQ Y Y (ltN Y) (fun b5 => ?_)
   refine FJ Y (FL (aa (ae (ai (FH (am (hsan) Y trivial) (FJ Y (FL (aa (ae ?_)))))))))
   refine ai (FH (aI 1 Y Y) ?_)
   refine FH (am (hsq) Y ⟨S,FM⟩) ?_
   refine bF (T:=30) Y Y Y (fun b8 => ?_)
   refine a8 0 Y Y Y Y (FL (aa (ae (ae (ai (FH (eY 0 _ Y Y (ltN Y)) (FH (ak 1 Y Y Y) (FH (jr Y Y U Y) (FH (sF (by assumption) (bV Y Y)) ?_)))))))))
   refine FL (aa (aA Y (aw (aa (ae (be 9 a4 Z U (FI Y (FH (aj Y) (FH (ak 0 Y Y Y) ?_)))))))))
   refine FH (am (hve) Y ⟨S,S,FM⟩) ?_
   refine FH (eY 1 _ Y Y (ltN Y)) (FH (ak 1 Y Y Y) (FH (jr Y Y U Y) (FH (c6 Y X X) (FJ Y (FL (FJ Y (FL (aa (ae ?_)))))))))
   refine ae (ai (FH (eY 0 _ Y Y (ltN Y)) (FH (ak 1 Y Y Y) (FH (jr Y Y U Y) (FH (sT (by assumption) (bV Y Y)) (FL (aa (aD Y (ai ?_)))))))))
   refine iL (n:=0) Y Y Y Y Y ?_
   refine PartsK.nil (fun bl => ?_)
   refine FI Y ?_
   (refine cq 0 Y Y Y (leN Y) ?_ ?_ Y (ltN Y) (fun sv51 cap51 => ?_);omega;omega)
   refine FH (am (ho1) Y ⟨S,FM⟩) ?_
   refine eH Y Y Y Y ?_
   (refine cq 0 Y Y Y (leN Y) ?_ ?_ Y (ltN Y) (fun sv54 cap54 => ?_);omega;omega)
   refine FJ Y (FL (aa (ae (ai (FH (aI 1 Y Y) (FI Y (tM (t1:=9) (t2:=57) (j:=0) Y Y Y ?_)))))))
   refine iG (t:=9) (ψ:=slT (.agg 2) (r % 5+1) (fun j=>aO (lI (r % 5) (dig v) j))) Y hle ?_
   refine iG (t:=57) (ψ:=slT (.agg 2) (r % 5+1) (fun j=>aO (lI (r % 5) (dig v) j))) Y hle ?_
   refine FH (am (s1) Y ⟨S,S,FM⟩) ?_
   refine FI Y (FH (an Y Y) (FH (an Y Y) (FJ Y (FJ Y (FL (aa (ae (ai (FH (aI 0 Y Y) ?_)))))))))
   refine FI Y ?_
   refine FH (am (s2) Y ⟨S,S,FM⟩) ?_
   refine FI Y (FH (an Y Y) (FH (an Y Y) (FJ Y (FJ Y (FL (aa (ae (ai (FH (aI 0 Y Y) ?_)))))))))
   refine FI Y (FI Y ?_)
   refine FH (am (d1) Y ⟨S,S,S,FM⟩) ?_
   refine FI Y (FH (an Y Y) (FH (an Y Y) (FH (an Y Y) (FJ Y (FJ Y (FJ Y (FL (aa (ae ?_)))))))))
   refine ai (FH (aI 0 Y Y) (FI Y (FI Y ?_)))
   refine FH (am (d2) Y ⟨S,S,S,FM⟩) ?_
   refine FI Y (FH (an Y Y) (FH (an Y Y) (FH (an Y Y) (FJ Y (FJ Y (FJ Y (FL (aa (ae ?_)))))))))
   refine ai (FH (aI 0 Y Y) (FI Y ?_))
   refine FH (am (d3) Y ⟨S,S,S,FM⟩) ?_
   refine FI Y (FH (an Y Y) (FH (an Y Y) (FH (an Y Y) (FJ Y (FJ Y (FJ Y (FL (aa (ae ?_)))))))))
   refine ai (FI Y (FI Y ?_))
   refine FH (am (hli) Y ⟨S,S,FM⟩) ?_
   refine FI Y (FK (ab Y) (FK (ab Y) (FK (sT X (bV Y Y)) (FH (a5 Y Y) (FI Y (FK (ab Y) (FK (ab Y) ?_)))))))
   refine FK (am (hsa) Y ⟨S,S,FM⟩) ?_
   refine FH (a5 Y Y) (FI Y (FK (ab Y) (FK (ab Y) (FK (sT X (bV Y Y)) (FH (a5 Y Y) (FI Y (FK (ab Y) (FK (ab Y) (FK (sT X (bV Y Y)) ?_)))))))))
   refine FH (a5 Y Y) (FI Y (FK (ab Y) (FK (aI 0 Y Y) (FK (ab Y) ?_))))
   refine FK (am (hcl) Y ⟨S,S,S,FM⟩) ?_
   refine FK (sT X (bV Y Y)) (FH (a5 Y Y) (FI Y (FK (ab Y) (FH (a5 Y Y) (FJ Y (FL (aa (aG ?_))))))))
   refine aT Tryz.results3 (.tmp Y S)
  ·have hve:=lV v (r % 5) X
   obtain ⟨k0,Fx,e,s1,s2,hk0⟩:=l7 (r % 5) (r % 5) (r % 5) (fun i j=>dig l (i*(r % 5)+j)) (dig v) X (fun i j=>dF _ _) (fun j=>dF v j)
   obtain ⟨l1,n1,f1,p1,e1,d1,d2,hl1,he1⟩:=fG (r % 5) (r % 5) (r % 5) (y.tmod 5) (fun i j=>dig l (i*(r % 5)+j)) (dig v) X (fun i j=>dF _ _) (fun j=>dF v j)
   obtain ⟨l2,n2,f2,p2,e2,d3,_,hl2,he2⟩:=fG (r % 5) (r % 5) (r % 5) 65 (fun i j=>dig l (i*(r % 5)+j)) (dig v) X (fun i j=>dF _ _) (fun j=>dF v j)
   have hcl:=eU (r % 5) (r % 5) (r % 5) 65 (fun i j=>dig l (i*(r % 5)+j)) (dig v) X (fun i j=>Nat.le_trans (dF _ _) U)
   rw [← he2] at hcl
   have hli:=iJ k0 k0 Fx Fx X
   rw [decide_eq_true ⟨rfl,fun i _=>rfl⟩] at hli
   have hsa:=j7 n1 l1 f1 f1 X (fun i j _ _=>rfl)
   refine ae (ai ?_)
   refine aQ Y Y (ltN Y) (fun b3 => ?_)
   refine aQ Y Y (ltN Y) (fun b5 => ?_)
   refine FJ Y (FL (aa (ae (ai (FH (am (hsan) Y trivial) (FJ Y (FL (aa (ae ?_)))))))))
   refine ai (FH (aI 1 Y Y) ?_)
   refine FH (am (hsq) Y ⟨S,FM⟩) ?_
   refine bF (T:=30) Y Y Y (fun b8 => ?_)
   refine a8 0 Y Y Y Y (FL (aa (ae (ae (ai (FH (eY 0 _ Y Y (ltN Y)) (FH (ak 1 Y Y Y) (FH (jr Y Y U Y) (FH (sF (by assumption) (bV Y Y)) ?_)))))))))
   refine FL (aa (aA Y (aw (aa (ae (be 9 a4 Z U (FI Y (FH (aj Y) (FH (ak 0 Y Y Y) ?_)))))))))
   refine FH (am (hve) Y ⟨S,S,FM⟩) ?_
   refine FH (eY 1 _ Y Y (ltN Y)) (FH (ak 1 Y Y Y) (FH (jr Y Y U Y) (FH (c6 Y X X) (FJ Y (FL (FJ Y (FL (aa (ae ?_)))))))))
   refine ae (ai (FH (eY 0 _ Y Y (ltN Y)) (FH (ak 1 Y Y Y) (FH (jr Y Y U Y) (FH (sF (by assumption) (bV Y Y)) (FL (aa (aA Y (aw ?_)))))))))
   refine aa (ae (ai (FH (aI 0 Y Y) (FI Y ?_))))
   refine FH (am (s1) Y ⟨S,S,FM⟩) ?_
   refine FI Y (FH (an Y Y) (FH (an Y Y) (FJ Y (FJ Y (FL (aa (ae (ai (FH (aI 0 Y Y) ?_)))))))))
   refine FI Y ?_
   refine FH (am (s2) Y ⟨S,S,FM⟩) ?_
   refine FI Y (FH (an Y Y) (FH (an Y Y) (FJ Y (FJ Y (FL (aa (ae (ai (FH (aI 0 Y Y) ?_)))))))))
   refine FI Y (FI Y ?_)
   refine FH (am (d1) Y ⟨S,S,S,FM⟩) ?_
   refine FI Y (FH (an Y Y) (FH (an Y Y) (FH (an Y Y) (FJ Y (FJ Y (FJ Y (FL (aa (ae ?_)))))))))
   refine ai (FH (aI 0 Y Y) (FI Y (FI Y ?_)))
   refine FH (am (d2) Y ⟨S,S,S,FM⟩) ?_
   refine FI Y (FH (an Y Y) (FH (an Y Y) (FH (an Y Y) (FJ Y (FJ Y (FJ Y (FL (aa (ae ?_)))))))))
   refine ai (FH (aI 0 Y Y) (FI Y ?_))
   refine FH (am (d3) Y ⟨S,S,S,FM⟩) ?_
   refine FI Y (FH (an Y Y) (FH (an Y Y) (FH (an Y Y) (FJ Y (FJ Y (FJ Y (FL (aa (ae ?_)))))))))
   refine ai (FI Y (FI Y ?_))
   refine FH (am (hli) Y ⟨S,S,FM⟩) ?_
   refine FI Y (FK (ab Y) (FK (ab Y) (FK (sT X (bV Y Y)) (FH (a5 Y Y) (FI Y (FK (ab Y) (FK (ab Y) ?_)))))))
   refine FK (am (hsa) Y ⟨S,S,FM⟩) ?_
   refine FH (a5 Y Y) (FI Y (FK (ab Y) (FK (ab Y) (FK (sT X (bV Y Y)) (FH (a5 Y Y) (FI Y (FK (ab Y) (FK (ab Y) (FK (sT X (bV Y Y)) ?_)))))))))
   refine FH (a5 Y Y) (FI Y (FK (ab Y) (FK (aI 0 Y Y) (FK (ab Y) ?_))))
   refine FK (am (hcl) Y ⟨S,S,S,FM⟩) ?_
   refine FK (sT X (bV Y Y)) (FH (a5 Y Y) (FI Y (FK (ab Y) (FH (a5 Y Y) (FJ Y (FL (aa (aG ?_))))))))
   refine aT Tryz.results3 (.tmp Y S)
end Tor
end
section
namespace Tor
open Go Go.RowKit Go.Proofs
theorem qc {p1:Prop} (r c:Nat) (l v:List Int) (x y:Int) (y0:(r:Int)≤IntKind.max .u8∧(c:Int)≤IntKind.max .u8∧(∀ x∈l,IntKind.min .i8≤x∧x≤IntKind.max .i8)∧True) (y1:p1) (y2:(IntKind.min .i8≤x∧x≤IntKind.max .i8)∧(IntKind.min .i8≤y∧y≤IntKind.max .i8)∧True) :
  Ok Tryz.prog 3 [jR r c l,gZ .i8 v,w2I x y] (one (.bool true)) :=
 qp r c l v x y (by have h:(r:Int)≤255:=y0.1;omega) (by have h:(c:Int)≤255:=y0.2.1;omega) y2.1 y2.2.1
end Tor
end
section
set_option maxRecDepth 100000
namespace Tor
open Go Go.RowKit Go.ChangeShapes Go.WideShapes Go.ChangeAt Go.Joins Go.Proofs
theorem ET {FA:Type} {enc:TypeId × Value→FA} {W:World} {base:Nat} {v:Value} {d:DataW FA} {ps:List MemPlace} (hval:Value.okWide Tryz.prog W .any base 24 v) (hT:DataW.Trod enc Tryz.prog W 0 (fun _=>true) true 24 v d ps) (hw : ∀ x∈DataW.weights Tryz.prog 24 d,x≤reachBytes) :
  ∃ (r:Nat) (c:Nat) (l:List Int),(jR r c l).p v (cx W)∧(r:Int)≤IntKind.max .u8∧(c:Int)≤IntKind.max .u8∧(∀ x∈l,IntKind.min .i8≤x∧x≤IntKind.max .i8)∧True:=by
 obtain ⟨cs,rfl,h⟩:=wm 8 (ts := [5,5,22]) Z (.inl ⟨_,Tryz.underlying24⟩) hval hT hw
 obtain ⟨c0,r0,rfl,h0,g0⟩:=h
 obtain ⟨c1,r1,rfl,h1,g1⟩:=g0
 obtain ⟨c2,r2,rfl,h2,g2⟩:=g1
 cases g2
 obtain ⟨r,rfl,b0⟩:=s8 Tryz.underlying5 Y h0
 obtain ⟨c,rfl,b1⟩:=s8 Tryz.underlying5 Y h1
 obtain ⟨l,k2,b2⟩:=qA Tryz.underlying22 Tryz.underlying25 Z (of_decide_eq_true Z) h2
 exact ⟨r,c,l,Dy (φs := [one (.int .u8 r),one (.int .u8 c),gZ .i8 l]) ⟨rfl,rfl,⟨rfl,rfl,⟨k2,BN k2,FM⟩⟩⟩,b0,b1,b2,FM⟩
theorem Fk {FA:Type} {enc:TypeId × Value→FA} {W:World} {base:Nat} {v:Value} {d:DataW FA} {ps:List MemPlace} (hval:Value.okWide Tryz.prog W .any base 22 v) (hT:DataW.Trod enc Tryz.prog W 0 (fun _=>true) true 22 v d ps) (hw : ∀ x∈DataW.weights Tryz.prog 22 d,x≤reachBytes) :
  ∃ (d:List Int),(gZ .i8 d).p v (cx W)∧(∀ x∈d,IntKind.min .i8≤x∧x≤IntKind.max .i8)∧True:=by
 have h:=zt (.inr (.inr ⟨_,Tryz.underlying22⟩)) hval hT hw
 obtain ⟨d,k0,b0⟩:=qA Tryz.underlying22 Tryz.underlying25 Z (of_decide_eq_true Z) h
 exact ⟨d,k0,b0,FM⟩
theorem Fl {FA:Type} {enc:TypeId × Value→FA} {W:World} {base:Nat} {v:Value} {d:DataW FA} {ps:List MemPlace} (hval:Value.okWide Tryz.prog W .any base 26 v) (hT:DataW.Trod enc Tryz.prog W 0 (fun _=>true) true 26 v d ps) (hw : ∀ x∈DataW.weights Tryz.prog 26 d,x≤reachBytes) :
  ∃ (a:Int) (b:Int),(w2I a b).p v (cx W)∧(IntKind.min .i8≤a∧a≤IntKind.max .i8)∧(IntKind.min .i8≤b∧b≤IntKind.max .i8)∧True:=by
 obtain ⟨cs,rfl,h⟩:=wm 8 (ts := [25,25]) Z (.inr ⟨_,_,Tryz.underlying26⟩) hval hT hw
 obtain ⟨c0,r0,rfl,h0,g0⟩:=h
 obtain ⟨c1,r1,rfl,h1,g1⟩:=g0
 cases g1
 obtain ⟨a,rfl,b0⟩:=mq Tryz.underlying25 h0
 obtain ⟨b,rfl,b1⟩:=mq Tryz.underlying25 h1
 exact ⟨a,b,Dy (φs := [one (.int .i8 a),one (.int .i8 b)]) ⟨rfl,rfl,⟨rfl,rfl,FM⟩⟩,b0,b1,FM⟩
end Tor
namespace Go.Proofs.YtbgloceimmbliaaGreat
open Go.ChangeShapes Go.WideShapes Go.ChangeAt Go.RowKit Go.Joins Tor
theorem dixonMatchesReference_own:ownKnob Tryz.prog.godebug=none:=by kernel_rfl
theorem dixonMatchesReference_laid:laidOutB Tryz.prog=true:=by kernel_rfl
set_option maxRecDepth 100000 in
theorem dixonMatchesReference_lifted (os:Os) (started:os.Started) (FA:Type) (enc:TypeId × Value→FA) :
  ReturnsInHanded {} Tryz.checked os 3 .any (Rows.dixonMatchesReferenceSpec.pre6 enc Tryz.prog Tryz.f3 Rows.dixonMatchesReferenceRow.domain false) (Rows.dixonMatchesReferenceSpec.post enc Tryz.prog Tryz.f3 false true false false):=by
 refine returnsInHanded_of_change_sized (C:=Tryz.checked) dixonMatchesReference_own started Z Tryz.func3
  (ChangeSpec.witness6 (enc:=enc) (C:=Tryz.checked) false ⟨#[], #[.agg #[.int .u8 0, .int .u8 0, .slice none 0 0], .slice none 0 0, .agg #[.int .i8 0, .int .i8 0]], []⟩ 8 Z Z Z Z) ?_
 intro W base args ds gs before hval0 hW hcnd hsz0 _
 have hval : ∀ (j:Nat) t v,Tryz.f3.params[j]? = some t→args[j]? = some v→Value.okWide Tryz.prog W .any base t v:=hval0
 have hsz:(DataW.weightsEach Tryz.prog (Tryz.f3.params.toList ++ Rows.dixonMatchesReferenceSpec.plain.varTypes Tryz.prog) (ds ++ gs)).all (· ≤ reachBytes)=true:=hsz0
 have hW':=hW
 obtain ⟨p,q,hA0,hV,rfl,hfz,hnd⟩:=hW
 have hA:DataW.TrodAll enc Tryz.prog W 0 (fun _=>true) true Tryz.f3.params.toList args.toList ds p:=hA0
 rw [Tryz.params3] at hA hval hsz
 obtain ⟨v0,v1,v2,d0,d1,d2,p0,p1,p2,rfl,rfl,rfl,h0,h1,h2⟩:=trodAll_three hA
 obtain ⟨rfl,rfl⟩:=trodVars_none hV
 obtain ⟨r_0,c_0,l_0,x0,y0⟩:=ET (hval 0 24 _ Y Y) h0 (kx hsz 0 Y Y)
 obtain ⟨d_1,x1,y1⟩:=Fk (hval 1 22 _ Y Y) h1 (kx hsz 1 Y Y)
 obtain ⟨a_2,b_2,x2,y2⟩:=Fl (hval 2 26 _ Y Y) h2 (kx hsz 2 Y Y)
 refine (Ok.outside (W:=W) (args := #[v0,v1,v2]) (qc r_0 c_0 l_0 d_1 a_2 b_2 y0 y1 y2) (And.intro x0 (And.intro x1 (And.intro x2 (trivial))))).mono fun e W' ⟨v,he,hv,hw⟩ => ?_
 subst he
 have hv:v = .bool true:=hv
 subst hv
 refine ⟨_,rfl,_, [],_, [],_, [],hW',trodAll_mk1 (shut_bool Tryz.underlying4 true),trodAll_mk3
  (Below.trod dixonMatchesReference_laid Z (of_decide_eq_true Z) h0 hw (fun x hx=>by simpa using hW'.lt x (by simp only [List.mem_append] at hx ⊢; simp [hx])))
  (Below.trod dixonMatchesReference_laid Z (of_decide_eq_true Z) h1 hw (fun x hx=>by simpa using hW'.lt x (by simp only [List.mem_append] at hx ⊢; simp [hx])))
  (Below.trod dixonMatchesReference_laid Z (of_decide_eq_true Z) h2 hw (fun x hx=>by simpa using hW'.lt x (by simp only [List.mem_append] at hx ⊢; simp [hx]))),rfl,hw.frame _,fun h=>by cases h⟩
theorem dixonMatchesReference_holds:Rows.DixonMatchesReferenceSaid :=
 OpenClaim.holds_of_wide 3 Tryz.f3 Y Y Y Y Y Y Y ⟨rfl,rfl,rfl,rfl,rfl⟩ Y Y Y Y Y Z Tryz.func3 Z
  (of_decide_eq_true Z) (by unfold Func.isWrapper;first | (rw [if_pos H]; kernel_rfl) | (rw [if_neg H]; exact ⟨rfl,rfl⟩))
  (fun os started FA enc _=>dixonMatchesReference_lifted os started FA enc)
end Go.Proofs.YtbgloceimmbliaaGreat
namespace Tor
end Tor
end
