/-
  Proofs that laws of this seat return true for every input, and that their arguments read afterwards as before.
  No condition.
-/
import Derived.Test.YtbgloceimmbliaaGreatED11
import Derived.Test.YtbgloceimmbliaaGreatRows
set_option maxHeartbeats 20000000
set_option linter.unusedVariables false
set_option linter.unusedSimpArgs false
section
namespace Tor
open Go Go.RowKit Go.Proofs
theorem Ai {n:Nat} {F:Nat→Nat→Int} (hn:n≤4) (hF : ∀ i j,(F i j).natAbs≤9):(Lin.bW n F).natAbs≤104976:=by
 have h:=nt n F
 have h1:prN n (fun i=>eS n (F i))≤(4*(9*9))^n:=rg (n:=n) (fun i _=>Nat.le_trans (oM (B:=9) (hF i)) (Nat.mul_le_mul_right _ hn)) n (Nat.le_refl n)
 have h2:(4*(9*9))^n≤(4*(9*9))^4:=Nat.pow_le_pow_right S hn
 have h3:=Do (Int.le_trans h (Int.ofNat_le.2 (Nat.le_trans h1 h2)))
 rcases Nat.lt_or_ge 104976 (Lin.bW n F).natAbs with h4 | h4
 ·have:=Nat.mul_le_mul h4 h4
  have e:(4*(9*9))^4=11019960576:=by decide
  rw [e] at h3
  have:104977*104977≤(Lin.bW n F).natAbs*(Lin.bW n F).natAbs:=this
  omega
 ·exact h4
theorem Aj {n:Nat} {F:Nat→Nat→Int} (hn:n≤4) (hF : ∀ i j,(F i j).natAbs≤9) (hd:Lin.bW n F≠0):mO (Lin.bW n F)∧eH (Lin.bW n F)=2147483647:=by
 have h:=Ai hn hF
 have h1:Lin.bW n F % 2147483647≠0:=by omega
 exact ⟨fun h2=>absurd h2 h1,by unfold eH;rw [if_neg h1]⟩
attribute [local irreducible] J PJ aJ one slT bQ bC bv exT bZ eP aP aI slV VT.le Ret bJ xO
attribute [local irreducible] aL cD bA
end Tor
end
section
namespace Tor
open Go Go.RowKit Go.Proofs
def dgX (n:Nat) (F:Nat→Nat→Int) (b:Nat→Int) (i j:Nat):Int:=((dgR (eH (Lin.bW n F)) (mP (eH (Lin.bW n F)) n F b i j):Nat):Int)
theorem tE {n i j:Nat} {F:Nat→Nat→Int} {b:Nat→Int} {pre:List (Nat→Int)} (hg:mO (Lin.bW n F)) (h:gr (eH (Lin.bW n F)) n F b pre) (hi:i<pre.length) (hj:j<n):pre.getD i z0 j=dgX n F b i j:=by
 obtain ⟨G,hG⟩:=oN n F
 obtain ⟨R,hR,he⟩:=h
 have h1:=(BW (b:=b) (gC _) hG (jQ hg) hR i j hj).2.2
 unfold dgX
 rw [h1,he]
 simp [List.getD,hi]
theorem ma (n k:Nat) (F:Nat→Nat→Int) (b:Nat→Int) (hn:n≤4) (hF : ∀ i j,(F i j).natAbs≤34359738368) (hb : ∀ i,(b i).natAbs≤1152921504606846976) (hd:Lin.bW n F≠0) (hg:mO (Lin.bW n F)) (hk:k≤64) :
  Ok Tryz.prog 15 [bP n n F,bA n b,one (.int .i64 (k:Nat))] (bv [slT .one k (fun i=>bA n (dgX n F b i)),one (.int .u64 (eH (Lin.bW n F):Nat)),one (.int .i64 0)]) :=
 (jh n k F b hn hF hb hd hg hk).le (de _) (tL fun pre=>qi fun h=>tC h.2 fun i j hi hj=>tE hg h.1 (by rw [h.2]; exact hi) hj)
theorem BZ {p n:Nat} {F G:Nat→Nat→Int} {d:Int} (hp:Lin.Pr p) (h:AdjI n F G d) (hd : ¬ (p:Int)∣d) : ∃ R,rh p n F R:=by
 have hp2:=hp.1
 obtain ⟨x,hx⟩ : ∃ x:Nat,(x:Int)=d % (p:Int):=⟨(d % (p:Int)).toNat,Int.toNat_of_nonneg (Int.emod_nonneg _ X)⟩
 have hxd:(p:Int)∣(x:Int) - d:=by
  rw [hx]
  exact ⟨-(d / (p:Int)),by have:=Int.mul_ediv_add_emod d (p:Int);rw [Int.mul_neg]; omega⟩
 have hx0 : ¬ p∣x:=fun hh=>hd (iu (fB hxd) (Int.natCast_dvd_natCast.2 hh))
 have hinv:=hp.inverse hx0
 obtain ⟨v,hv⟩ : ∃ v,v=x^(p - 2):=⟨_,rfl⟩
 rw [← hv] at hinv
 have h1:(p:Int)∣d*(v:Int) - 1:=by
  have h2:=d7 (x*v) p
  rw [hinv,Int.natCast_mul] at h2
  exact fA (fB (c8 (v:Int) hxd)) (fB h2)
 have hR : ∀ i j,(p:Int)∣(((G i j*(v:Int)) % (p:Int)).toNat:Int) - G i j*(v:Int):=fun i j=>by
  rw [Int.toNat_of_nonneg (Int.emod_nonneg _ X)]
  exact ⟨-(G i j*(v:Int) / (p:Int)),by have:=Int.mul_ediv_add_emod (G i j*(v:Int)) (p:Int);rw [Int.mul_neg]; omega⟩
 refine ⟨fun i j=>((G i j*(v:Int)) % (p:Int)).toNat,fun i j hi hj => ?_,fun i j hi hj => ?_⟩
 ·have a1:=Int.emod_nonneg (G i j*(v:Int)) (show (p:Int)≠0 by omega)
  have a2:=Int.emod_lt_of_pos (G i j*(v:Int)) (show 0<(p:Int) by omega)
  show ((G i j*(v:Int)) % (p:Int)).toNat<p
  generalize (G i j*(v:Int)) % (p:Int)=q at *
  omega
 ·have h3:(p:Int)∣bh n (fun t=>((((G i t*(v:Int)) % (p:Int)).toNat:Nat):Int)*F t j) - bh n (fun t=>(v:Int)*(G i t*F t j)):=gk fun t _=>by
   have:=c8 (F t j) (hR i t)
   rwa [show G i t*(v:Int)*F t j=(v:Int)*(G i t*F t j) by rw [Int.mul_comm (G i t),Int.mul_assoc]] at this
  rw [du,h.gf i j hi hj] at h3
  refine fA h3 ?_
  by_cases e:i=j
  ·rw [if_pos e,if_pos e,Int.mul_comm]; exact h1
  ·rw [if_neg e,if_neg e,Int.mul_zero,Int.sub_self]; exact Int.dvd_zero _
end Tor
end
section
namespace Tor
open Go Go.RowKit Go.Proofs
def rsF (p:Int) (n:Nat) (F f:Nat→Nat→Int) (b:Nat→Int):Nat→Nat→Int
 | 0, j => b j * -1
 | i + 1, j => rsF p n F f b i j + bh n (fun t => f i t * F t j) * p ^ i
theorem Ce {p:Int} {n:Nat} {F f:Nat→Nat→Int} {b:Nat→Int} {j:Nat} : ∀ m,rsF p n F f b m j=bh n (fun t=>bh m (fun i=>p^i*f i t)*F t j) - b j
 | 0 => by
  show b j * -1=_
  rw [c7 (g:=fun _=>(0:Int)*0) (fun t _=>by rw [bh,Int.zero_mul,Int.zero_mul]),du]
  omega
 | m + 1 => by
  show rsF p n F f b m j+bh n (fun t=>f m t*F t j)*p^m=_
  have e:(fun t=>bh (m+1) (fun i=>p^i*f i t)*F t j)=fun t=>bh m (fun i=>p^i*f i t)*F t j+p^m*(f m t*F t j):=by
   funext t
   rw [bh,Int.add_mul,Int.mul_assoc]
  rw [e,f7,du,Ce m,Int.mul_comm (p^m)]
  omega
theorem B1 {n i j:Nat} {F:Nat→Nat→Int} {b:Nat→Int} : 0≤dgX n F b i j∧dgX n F b i j<eH (Lin.bW n F):=by
 unfold dgX
 have h:=(gC (Lin.bW n F)).1
 have h2:dgR (eH (Lin.bW n F)) (mP (eH (Lin.bW n F)) n F b i j)<eH (Lin.bW n F):=Nat.mod_lt _ X
 omega
theorem B2 {n j:Nat} {F:Nat→Nat→Int} {b:Nat→Int} (hg:mO (Lin.bW n F)) (m:Nat) (hj:j<n):((eH (Lin.bW n F):Nat):Int)^m∣rsF (eH (Lin.bW n F):Nat) n F (dgX n F b) b m j:=by
 obtain ⟨G,hG⟩:=oN n F
 obtain ⟨R,hR⟩:=BZ (gC _) hG (jQ hg)
 have hp:=(gC (Lin.bW n F)).1
 have hgd:=gr.snoc (b:=b) hR m
 have hs:=gr.sum X hgd j hj
 have hd:=fun i t (hi:i<m) (ht:t<n)=>tE hg hgd (i:=i) (j:=t) (by rw [List.length_map,List.length_range]; exact hi) ht
 have hl:((List.range m).map (fun k=>dgs (eH (Lin.bW n F)) n R (stR (eH (Lin.bW n F)) n F R b k))).length=m:=by rw [List.length_map,List.length_range]
 generalize (List.range m).map (fun k=>dgs (eH (Lin.bW n F)) n R (stR (eH (Lin.bW n F)) n F R b k))=pre at *
 rw [hl] at hs
 rw [Ce,c7 (g:=fun t=>smL (eH (Lin.bW n F)) pre t*F t j) (fun t ht=>by
  congr 1
  unfold smL
  rw [hl]
  exact c7 fun i hi=>by rw [hd i t hi ht])]
 exact fB hs
theorem rr {i:Nat} (h:i≤4):(((2147483647:Nat):Int)^i).natAbs≤21267647892944572736998860269687930881:=by
 rw [Int.natAbs_pow]
 exact Nat.le_trans (Nat.pow_le_pow_right (n:=2147483647) S h) S
theorem v7 {n i j:Nat} {F f:Nat→Nat→Int} (hn:n≤4) (hf : ∀ i j,0≤f i j∧f i j<(2147483647:Nat)) (hF : ∀ i j,(F i j).natAbs≤9):(bh n (fun t=>f i t*F t j)).natAbs≤77309411292:=by
 have h:=l5 (B:=2147483647*9) (f:=fun t=>f i t*F t j) (fun t=>by
  rw [Int.natAbs_mul]
  exact Nat.mul_le_mul (by have:=hf i t;omega) (hF t j)) n
 have h2:n*(2147483647*9)≤4*(2147483647*9):=Nat.mul_le_mul_right _ hn
 omega
theorem tF {n i j:Nat} {F f:Nat→Nat→Int} (hn:n≤4) (hf : ∀ i j,0≤f i j∧f i j<(2147483647:Nat)) (hF : ∀ i j,(F i j).natAbs≤9) (hi:i≤4):(bh n (fun t=>f i t*F t j)*((2147483647:Nat):Int)^i).natAbs≤1644189338169089158683855034324542288967696908252:=by
 rw [Int.natAbs_mul]
 exact Nat.le_trans (Nat.mul_le_mul (v7 hn hf hF) (rr hi)) S
theorem v8 {n j:Nat} {F f:Nat→Nat→Int} {b:Nat→Int} (hn:n≤4) (hf : ∀ i j,0≤f i j∧f i j<(2147483647:Nat)) (hF : ∀ i j,(F i j).natAbs≤9) (hb : ∀ j,(b j).natAbs≤9) : ∀ i,i≤4→(rsF (2147483647:Nat) n F f b i j).natAbs≤9+i*1644189338169089158683855034324542288967696908252
 | 0, _ => by
  show (b j * -1).natAbs≤_
  have:=hb j
  omega
 | i + 1, h => by
  have h1:=v8 hn hf hF hb (j:=j) i X
  have h2:=tF (j:=j) hn hf hF (show i≤4 by omega)
  show (rsF (2147483647:Nat) n F f b i j+bh n (fun t=>f i t*F t j)*((2147483647:Nat):Int)^i).natAbs≤_
  generalize bh n (fun t=>f i t*F t j)*((2147483647:Nat):Int)^i=y at *
  generalize rsF (2147483647:Nat) n F f b i j=x at *
  omega
theorem Ak {n j i:Nat} {F f:Nat→Nat→Int} {b:Nat→Int} (hn:n≤4) (hf : ∀ i j,0≤f i j∧f i j<(2147483647:Nat)) (hF : ∀ i j,(F i j).natAbs≤9) (hb : ∀ j,(b j).natAbs≤9) (hi:i≤4):(rsF (2147483647:Nat) n F f b i j).natAbs≤6576757352676356634735420137298169155870787633017:=by
 have h:=v8 hn hf hF hb (j:=j) i hi
 have h2:i*1644189338169089158683855034324542288967696908252≤4*1644189338169089158683855034324542288967696908252:=Nat.mul_le_mul_right _ hi
 omega
theorem pa (n:Nat) (f:Nat→Int) (hf : ∀ j,bm (f j)):Ok Tryz.prog 31 [bA n f] (one (.bool true)):=by
 have h:=q6 (((List.range n).map f).map jG) (fun p hp=>by
  simp only [List.map_map,List.mem_map,List.mem_range] at hp
  obtain ⟨j,_,rfl⟩:=hp
  have:=hf j
  unfold bm at this
  simp only [Function.comp,jG]; omega)
 rw [show (((List.range n).map f).map jG).all (fun p=>fx p.1 p.2)=true by
  rw [List.all_map,List.all_eq_true]
  exact fun x _=>oq x] at h
 exact h.le ⟨VT.le_trans (lV n f) (sC _),Er⟩ H
theorem B4 {a b:Int} (h:a<b):cV a b = -1:=by unfold cV;rw [if_pos h]
theorem Dv {a:Int} (h:0≤a):0≤c6 a:=by unfold c6;split;omega;split <;> omega
attribute [local irreducible] J PJ aJ one slT bQ bC bv exT bZ eP aP aI slV VT.le Ret bJ xO
attribute [local irreducible] aL cD bA
set_option maxRecDepth 100000 in
theorem rs (r c:Nat) (l v:List Int) (k:Nat) (hk0:k<256):Ok Tryz.prog 5 [oz r c l,ib .i8 v,one (.int .u8 (k:Nat))] (one (.bool true)):=by
 have hsq:=uy r c l
 have hn:r % 5≤4:=by omega
 generalize hF:(fun i j=>dig l (i*(r % 5)+j))=F at *
 have hA : ∀ i j,(F i j).natAbs≤9:=fun i j=>by rw [← hF]; exact ri _ _
 have lF : ∀ i j,lz 1 (F i j):=fun i j=>by rw [← hF]; exact Da _ _
 clear hF
 generalize r % 5=n at *
 have hve:=uf v n X
 have hb : ∀ j,(dig v j).natAbs≤9:=fun j=>ri v j
 generalize dig v=b at *
 have hA' : ∀ i j,(F i j).natAbs≤34359738368:=fun i j=>Nat.le_trans (hA i j) S
 have hb' : ∀ j,(b j).natAbs≤1152921504606846976:=fun j=>Nat.le_trans (hb j) S
 have hva:=xC n F hn hA'
 have hsan:=tD
 have hsz:=eF (Lin.bW n F)
 have hsg:=dq (Lin.bW n F)
 by_cases hd:Lin.bW n F=0
 ·have h6:=hsz.2 hd
  unfold bP at *
  refine Ok.enter Tryz.func5 Y Tryz.ntmps5 Y (fun w O => ?_)
  refine ae (ai ?_)
  refine aS Y Y (ltN Y) (fun b3 => ?_)
  refine En Y (Ep (aa (ae (ai (El (am (hsan) Y trivial) (En Y (Ep (aa (ae ?_)))))))))
  refine ai (El (aQ 0 Y Y) ?_)
  refine El (am (hsq) Y ⟨H,Er⟩) ?_
  refine Em Y (El (eK 4 Y Y Y S) (El (dG Y X X) ?_))
  refine bj (T:=30) Y Y Y (fun b8 => ?_)
  refine aY 0 Y Y Y Y (En Y (Ep (aa (ae (ai (Em Y (El (aj Y) (El (ak 0 Y Y Y) ?_))))))))
  refine El (am (hve) Y ⟨H,H,Er⟩) ?_
  refine En Y (Ep (aa (ae (ae (ai (El (aQ 0 Y Y) ?_))))))
  refine El (am (hva) Y ⟨H,Er⟩) ?_
  refine El (am (hsg) Y ⟨H,Er⟩) ?_
  refine El (sT (by assumption) (cm Y Y)) (Ep (aa (aH Y (ae (ai (Em Y (En Y (Ep (aa ?_)))))))))
  refine aF (aU ?_)
  refine aV Tryz.results5 (.tmp Y H)
 ·obtain ⟨hg,hp⟩:=Aj hn hA hd
  have h6:c6 (Lin.bW n F)≠0:=fun e=>hd (hsz.1 e)
  have hsum:=fun j hj=>B2 (b:=b) hg (k % 4+1) (j:=j) hj
  have hrng:=fun i j=>B1 (n:=n) (F:=F) (b:=b) (i:=i) (j:=j)
  have d1:=ma n (k % 4) F b hn hA' hb' hd hg X
  have d2:=ma n (k % 4+1) F b hn hA' hb' hd hg X
  rw [hp] at d1 d2 hsum hrng
  generalize dgX n F b=f at *
  have hsa:=oT n (k % 4) f f X (fun i j _ _=>rfl)
  have hpr:=wL 2147483647 S S (sA 2147483647 S)
  have ho1:=gZ 1 S S
  have ho2:=gZ 2147483647 S S
  have ho3:=gZ (-1) S S
  have hro:=vE n b
  have hsc:=pS 1 n (fun _=>b) (-1) S X (fun i j=>cA (hb j) U) (cA (n:=1) S U)
  have hm4:k % 4<4:=Nat.mod_lt _ S
  unfold bP bA at *
  refine Ok.enter Tryz.func5 Y Tryz.ntmps5 Y (fun w O => ?_)
  refine ae (ai ?_)
  refine aS Y Y (ltN Y) (fun b3 => ?_)
  refine En Y (Ep (aa (ae (ai (El (am (hsan) Y trivial) (En Y (Ep (aa (ae ?_)))))))))
  refine ai (El (aQ 0 Y Y) ?_)
  refine El (am (hsq) Y ⟨H,Er⟩) ?_
  refine Em Y (El (eK 4 Y Y Y S) (El (dG Y X X) ?_))
  refine bj (T:=30) Y Y Y (fun b8 => ?_)
  refine aY 0 Y Y Y Y (En Y (Ep (aa (ae (ai (Em Y (El (aj Y) (El (ak 0 Y Y Y) ?_))))))))
  refine El (am (hve) Y ⟨H,H,Er⟩) ?_
  refine En Y (Ep (aa (ae (ae (ai (El (aQ 0 Y Y) ?_))))))
  refine El (am (hva) Y ⟨H,Er⟩) ?_
  refine El (am (hsg) Y ⟨H,Er⟩) ?_
  refine El (sF (by assumption) (cm Y Y)) (Ep (aa (aB Y (az (aa (ae (ai (El (aQ 0 Y Y) (Em Y ?_)))))))))
  refine Em Y ?_
  refine El (am (d1) Y ⟨H,H,H,Er⟩) ?_
  refine Em Y (El (ar Y Y) (El (ar Y Y) (El (ar Y Y) (En Y (En Y (En Y (Ep (aa (ae ?_)))))))))
  refine ai (El (aQ 0 Y Y) (Em Y (Em Y (El (bI _ 1 Y Y X) ?_))))
  refine El (am (d2) Y ⟨H,H,H,Er⟩) ?_
  refine Em Y (El (ar Y Y) (El (ar Y Y) (El (ar Y Y) (En Y (En Y (En Y (Ep (aa (ae ?_)))))))))
  refine ae (ai (Em Y (El (sF X (dy Y Y)) (Em Y (Eo (ab Y) (Eo (sF X (dy Y Y)) (El (bE Y Y) (Em Y (Eo (ab Y) ?_)))))))))
  refine Eo (ab Y) (Eo (sF X (dy Y Y)) (El (bE Y Y) (Em Y (Eo (ab Y) (Eo (aW Y) (Eo (ab Y) (Eo (sF X (dy Y Y)) (El (bE Y Y) (Em Y ?_)))))))))
  refine Eo (ab Y) (Eo (aW Y) (Eo (ab Y) (Eo (bI _ 1 Y Y X) (Eo (sF X (dy Y Y)) (El (bE Y Y) (Em Y (Eo (ab Y) ?_)))))))
  refine Eo (am (hpr) Y ⟨H,Er⟩) ?_
  refine Eo (cR Y) (El (bE Y Y) (Em Y (Eo (ab Y) (Eo (ab Y) (Eo (ab Y) ?_)))))
  refine Eo (fT Y Y Y Y (fun _=>rfl) X X X X) ?_
  refine Eo (am (hsa) Y ⟨H,(cB X (fun q _=>by rw [show Int.toNat 0+q=q from Nat.zero_add q])),Er⟩) ?_
  refine Eo (cR Y) (El (bE Y Y) (Ep (aa (aB Y (az (aa (ae (ai ?_))))))))
  refine El (am (ho1) Y ⟨H,Er⟩) ?_
  refine Em Y (El (dG Y X X) ?_)
  refine El (am (ho2) Y ⟨H,Er⟩) ?_
  refine Em Y ?_
  refine El (am (hro) Y ⟨H,Er⟩) ?_
  refine El (am (ho3) Y ⟨H,Er⟩) ?_
  refine El (am (hsc) Y ⟨H,H,Er⟩) ?_
  refine aG (T:=37) Y (ltN Y) (fun b17 => ?_)
  refine aG (T:=37) Y (ltN Y) (fun b18 => ?_)
  refine bj (T:=30) Y Y Y (fun b19 => ?_)
  refine aA 2 Y Y Y Y Y (leN Y) Y (aA 1 Y Y Y Y Y (leN Y) Y (aY 0 Y Y Y Y (Ep (aa (ae (ae (ai (En Y (Ep ?_)))))))))
  refine aa (au (cp (Γ' := [(6,_),(7,_),(8,_),(9,_),(14,_),(17,_),(18,_),(19,_),(20,_)]) Eg (SubM.refl _) ?_))
  refine bD (σ:=Nat) (Γk := [(7,_),(8,_),(9,_),(14,_),(17,_),(18,_),(19,_)]) Eg (fun i => [(20,one (.int .i64 (i:Nat)))]) (fun i M0=>(((M0.set 0 (aP b19 30 3 [(0, .one,one (.int .i64 (1:Nat))),(1, .one,one (.int .i64 (n:Nat))),(2, .one,slT .one 1 (fun _=>slT (.agg 2) n (fun q=>aL (rsF (2147483647:Nat) n F f b i q))))])).set 1 (aP b18 37 2 [(0, .agg 2,aL 2147483647)])).set 2 (aP b17 37 2 [(0, .agg 2,aL (((2147483647:Nat):Int)^i))]))) (fun i=>i≤k % 4+1) (fun i=>k % 4+1 - i) (0) (Nat.zero_le _) Eh (.keep Ek (.keep Ek (.keep Ek (.keep Ek (.keep Ek (.nil)))))) (fun i hi => ?_)
  refine bU (Γ' := [(20,_),(7,_),(8,_),(9,_),(14,_),(17,_),(18,_),(19,_)]) (M' := [_,_,_,_,_]) Y Y ?_
  by_cases hi2:i<k % 4+1
  ·have hvv:=pa n (f i) (fun j=>cA (n:=2147483647) (by have:=hrng i j;omega) U)
   have h4:i≤4:=by omega
   have hro2:=vE n (f i)
   have hpr2:=sL 1 n (fun _=>f i) n F S X X (fun _ j=>Nat.le_trans (show (f i j).natAbs≤2147483647 by have:=hrng i j;omega) U) (fun i j=>Nat.le_trans (hA i j) U)
   have hsc2:=pS 1 n (kL n (fun _=>f i) F) (((2147483647:Nat):Int)^i) S X (fun _ j=>cA (v7 (j:=j) hn hrng hA) U) (cA (rr h4) U)
   have had2:=yW 1 n (fun _=>rsF (2147483647:Nat) n F f b i) 1 n (fun a j=>kL n (fun _=>f i) F a j*((2147483647:Nat):Int)^i) S X (fun _ j=>cA (Ak (j:=j) hn hrng hA hb h4) U) (fun _ j=>cA (tF (j:=j) hn hrng hA h4) U)
   have hml:=d6 (((2147483647:Nat):Int)^i) 2147483647 (cA (rr h4) U) (cA (n:=2147483647) S U)
   rw [decide_eq_true ⟨rfl,rfl⟩] at had2
   unfold jI at had2
   rw [if_pos Y,if_pos Y,if_pos Y] at had2
   unfold bP bA at *
   refine ae (ae (ai (Em Y (Em Y (El (sT X (m5 Y Y)) (Ep (aa (aH Y (az ?_)))))))))
   refine aa (ae (au (ae (ae (a8 16 a4 Z S (Em Y (Em Y (El (aC Y Y X) (El (aM Y) ?_)))))))))
   refine El (aW Y) (El (aj Y) (El (ak 3 Y Y Y) (El (sF X (dy Y Y)) (Em Y (Eo (ab Y) (Eo (ab Y) (Eo (aC Y Y X) (Eo (aM Y) ?_))))))))
   refine Eo (am (hvv) Y ⟨H,Er⟩) ?_
   refine Eo (cR Y) (El (bE Y Y) (Ep (Ep (aa (aB Y (az (aa (ae (ae ?_)))))))))
   refine ai (En Y (Ep (aa (au (cp (Γ' := [(7,_),(8,_),(9,_),(14,_),(17,_),(18,_),(19,_),(20,_),(21,_)]) Eg (SubM.refl _) ?_)))))
   refine bD (σ:=Nat) (Γk := [(7,_),(8,_),(9,_),(14,_),(17,_),(18,_),(19,_),(20,_)]) Eg (fun j => [(21,one (.int .i64 (j:Nat)))]) (fun j M0=>M0) (fun j=>j≤n) (fun j=>n - j) (0) (Nat.zero_le _) Eh (.keep Ek (.keep Ek (.keep Ek (.keep Ek (.keep Ek (.nil)))))) (fun j hj => ?_)
   refine bU (Γ' := [(21,_),(7,_),(8,_),(9,_),(14,_),(17,_),(18,_),(19,_),(20,_)]) (M' := [_,_,_,_,_]) Y Y ?_
   by_cases hj2:j<n
   ·have hfj:=hrng i j
    have hs3:=dq (f i j)
    have hs4:=Dv hfj.1
    have hc3:=yw (f i j) 2147483647 (cA (n:=2147483647) X U) (cA (n:=2147483647) S U)
    rw [show cV (f i j) 2147483647 = -1 from B4 hfj.2] at hc3
    generalize c6 (f i j)=sg at *
    refine ae (ae (ai (Em Y (El (aj Y) (El (ak 3 Y Y Y) (El (sT X (a7 Y Y)) (Ep (aa (aH Y ?_)))))))))
    refine az (aa (ae (au (ae (a8 21 a4 Z S (Em Y (Em Y (El (aC Y Y X) (El (aM Y) ?_)))))))))
    refine Em Y (El (aC Y Y X) (El (aM Y) ?_))
    refine El (am (hs3) Y ⟨H,Er⟩) ?_
    refine El (sF X (a7 Y Y)) (Em Y (Eo (ab Y) (Eo (ab Y) (Eo (aC Y Y X) (Eo (aM Y) (Eo (ab Y) (Eo (aC Y Y X) (Eo (aM Y) (Eo (ak 1 Y Y Y) ?_)))))))))
    refine Eo (am (hc3) Y ⟨H,H,Er⟩) ?_
    refine Eo (sF X (fh Y Y)) (El (bE Y Y) (Ep (Ep (aa (aB Y (az (aD (aa (ai ?_)))))))))
    refine Em Y (El (bI _ 1 Y Y X) (En Y (Ep ?_)))
    refine aR (j+1) X X Eh (.keep Ek (.keep Ek (.keep Ek (.keep Ek (.keep Ek (.nil))))))
   ·have hjn:j=n:=by omega
    subst hjn
    refine ae (ae (ai (Em Y (El (aj Y) (El (ak 3 Y Y Y) (El (sF X (a7 Y Y)) (Ep (aa (aB Y ?_)))))))))
    refine aX (av (av (aE (aa (ae ?_)))))
    refine u9 [⟨⟨19,b19,30,Lay.agg 3⟩,_⟩] [_,_,_,_] a4 Z ((cX 0 Y).trans (.cons _ (List.Perm.refl _))) Y (And.intro Y (trivial)) ?_
    refine wl 0 Y Z (fun B=>aQ 0 Y Y) Y ?_
    refine wx (fun B=>ab Y) Y ?_
    refine wx (fun B=>ab Y) Y ?_
    refine wx (fun B=>aC Y Y X) Y ?_
    refine wx (fun B=>aM Y) Y ?_
    refine wxk (hro2) Y ⟨H,Er⟩ Y ?_
    refine wx (fun B=>aQ 2 Y Y) Y ?_
    refine wxk (hpr2) Y ⟨H,H,Er⟩ Y ?_
    refine wx (fun B=>ak 1 Y Y Y) Y ?_
    refine wxk (hsc2) Y ⟨H,H,Er⟩ Y ?_
    refine wxk (had2) Y ⟨H,H,Er⟩ Y ?_
    refine wx (fun B=>ab Y) Y ?_
    refine wx (fun B=>ar Y Y) Y ?_
    refine wx (fun B=>ar Y Y) Y ?_
    refine ws Y ?_
    refine RunY.nil ⟨And.intro Y (And.intro Y (trivial)),?_⟩
    refine cK (M' := [_,_,_,_,_]) Y (gI (dJ.refl _) (.keep iJ (SubM.refl _)) (aa (ai (El (ak 2 Y Y Y) (El (ak 1 Y Y Y) ?_)))))
    refine El (am (hml) Y ⟨H,H,Er⟩) ?_
    refine aA 2 Y Y Y Y Y (leN Y) Y (Ep (aD (aa (ai (Em Y (El (bI _ 1 Y Y X) (En Y (Ep ?_))))))))
    refine aR (i+1) X X Eh (.keep Ek (.keep Ek (.keep Ek (.keep Ek (.keep Ek (.nil))))))
  ·have hin:i=k % 4+1:=by omega
   subst hin
   refine ae (ae (ai (Em Y (Em Y (El (sF X (m5 Y Y)) (Ep (aa (aB Y (aX ?_)))))))))
   refine av (av (aE (aa (ae (ae (ai (En Y (Ep (aa ?_)))))))))
   refine au (cp (Γ' := [(7,_),(8,_),(17,_),(19,_),(22,_)]) Eg (SubM.refl _) ?_)
   refine bD (σ:=Nat) (Γk := [(7,_),(8,_),(17,_),(19,_)]) Eg (fun j => [(22,one (.int .i64 (j:Nat)))]) (fun j M0=>M0) (fun j=>j≤n) (fun j=>n - j) (0) (Nat.zero_le _) Eh (.keep Ek (.keep Ek (.keep Ek (.keep Ek (.keep Ek (.nil)))))) (fun j hj => ?_)
   refine bU (Γ' := [(22,_),(7,_),(8,_),(17,_),(19,_)]) (M' := [_,_,_,_,_]) Y Y ?_
   by_cases hj2:j<n
   ·have hdv:=fR (rsF (2147483647:Nat) n F f b (k % 4+1) j) (((2147483647:Nat):Int)^(k % 4+1)) (Int.ne_of_gt (Int.pow_pos S)) (kb (Nat.lt_of_le_of_lt (Ak hn hrng hA hb X) U)) (kb (Nat.lt_of_le_of_lt (rr X) U))
    rw [Int.emod_eq_zero_of_dvd (hsum j hj2)] at hdv
    have hs0:=dq 0
    rw [show c6 0=0 from rfl] at hs0
    refine ae (ae (ai (Em Y (El (aj Y) (El (ak 3 Y Y Y) (El (sT X (a7 Y Y)) (Ep (aa (aH Y ?_)))))))))
    refine az (aa (ae (au (ae ?_))))
    refine ep a4 Z Z ?_
    refine ux (fun B=>aj Y) Y Y ?_
    refine ux (fun B=>ak 0 Y Y Y) Y Y ?_
    refine ux (fun B=>aC Y Y S) Y Y ?_
    refine ux (fun B=>aM Y) Y Y ?_
    refine ux (fun B=>ab Y) Y Y ?_
    refine ux (fun B=>aC Y Y X) Y Y ?_
    refine ux (fun B=>aM Y) Y Y ?_
    refine ux (fun B=>ak 2 Y Y Y) Y Y ?_
    refine uxk (hdv) Y ⟨H,H,Er⟩ Y ?_
    refine ux (fun B=>ab Y) Y Y ?_
    refine ux (fun B=>ar Y Y) Y Y ?_
    refine ux (fun B=>ar Y Y) Y Y ?_
    refine ux (fun B=>ar Y Y) Y Y ?_
    refine ua Y (ua Y (us Y (us Y ?_)))
    refine ux (fun B=>ah Y) Y Y ?_
    refine RunU.nil (fun γ => ?_)
    refine cK (M' := [_,_,_,_,_,_,_]) Y (aa (ae (ai (El (ak 0 Y Y Y) ?_))))
    refine El (am (hs0) Y ⟨H,Er⟩) ?_
    refine El (sF X (dy Y Y)) (Ep (aa (aB Y (az (aD (aa (ai (Em Y (El (bI _ 1 Y Y X) ?_)))))))))
    refine En Y (Ep ?_)
    refine aR (j+1) X X Eh (.drop (.drop (.keep Ek (.keep Ek (.keep Ek (.keep Ek (.keep Ek (.nil))))))))
   ·refine ae (ae (ai (Em Y (El (aj Y) (El (ak 3 Y Y Y) (El (sF X (a7 Y Y)) (Ep (aa (aB Y ?_)))))))))
    refine aX (av (av (aE (aa (ae (ai (Em Y (En Y (Ep ?_)))))))))
    refine aa (aF ?_)
    refine aV Tryz.results5 (.tmp Y H)
end Tor
end
section
namespace Tor
open Go Go.RowKit Go.Proofs
theorem pb {p0 p1:Prop} (r c:Nat) (l v:List Int) (k:Nat) (y0:p0) (y1:p1) (y2:(k:Int)≤IntKind.max .u8∧True) :
  Ok Tryz.prog 5 [oz r c l,ib .i8 v,one (.int .u8 (k:Nat))] (one (.bool true)) :=
 rs r c l v k (by have h:(k:Int)≤255:=y2.1;omega)
end Tor
end
section
set_option maxRecDepth 100000
namespace Tor
open Go Go.RowKit Go.ChangeShapes Go.WideShapes Go.ChangeAt Go.Joins Go.Proofs
theorem Dw {Ef:Type} {enc:TypeId × Value→Ef} {W:World} {base:Nat} {v:Value} {d:DataW Ef} {ps:List MemPlace} (hval:Value.okWide Tryz.prog W .any base 24 v) (hT:DataW.Trod enc Tryz.prog W 0 (fun _=>true) true 24 v d ps) (hw : ∀ x∈DataW.weights Tryz.prog 24 d,x≤reachBytes) :
  ∃ (r:Nat) (c:Nat) (l:List Int),(oz r c l).p v (ck W)∧(r:Int)≤IntKind.max .u8∧(c:Int)≤IntKind.max .u8∧(∀ x∈l,IntKind.min .i8≤x∧x≤IntKind.max .i8)∧True:=by
 obtain ⟨cs,rfl,h⟩:=As 8 (ts := [5,5,22]) Z (.inl ⟨_,Tryz.underlying24⟩) hval hT hw
 obtain ⟨c0,r0,rfl,h0,g0⟩:=h
 obtain ⟨c1,r1,rfl,h1,g1⟩:=g0
 obtain ⟨c2,r2,rfl,h2,g2⟩:=g1
 cases g2
 obtain ⟨r,rfl,b0⟩:=nQ Tryz.underlying5 Y h0
 obtain ⟨c,rfl,b1⟩:=nQ Tryz.underlying5 Y h1
 obtain ⟨l,k2,b2⟩:=pt Tryz.underlying22 Tryz.underlying25 Z (of_decide_eq_true Z) h2
 exact ⟨r,c,l,DA (φs := [one (.int .u8 r),one (.int .u8 c),ib .i8 l]) ⟨rfl,rfl,⟨rfl,rfl,⟨k2,Ar k2,Er⟩⟩⟩,b0,b1,b2,Er⟩
theorem DW {Ef:Type} {enc:TypeId × Value→Ef} {W:World} {base:Nat} {v:Value} {d:DataW Ef} {ps:List MemPlace} (hval:Value.okWide Tryz.prog W .any base 22 v) (hT:DataW.Trod enc Tryz.prog W 0 (fun _=>true) true 22 v d ps) (hw : ∀ x∈DataW.weights Tryz.prog 22 d,x≤reachBytes) :
  ∃ (d:List Int),(ib .i8 d).p v (ck W)∧(∀ x∈d,IntKind.min .i8≤x∧x≤IntKind.max .i8)∧True:=by
 have h:=rN (.inr (.inr ⟨_,Tryz.underlying22⟩)) hval hT hw
 obtain ⟨d,k0,b0⟩:=pt Tryz.underlying22 Tryz.underlying25 Z (of_decide_eq_true Z) h
 exact ⟨d,k0,b0,Er⟩
theorem DX {Ef:Type} {enc:TypeId × Value→Ef} {W:World} {base:Nat} {v:Value} {d:DataW Ef} {ps:List MemPlace} (hval:Value.okWide Tryz.prog W .any base 5 v) (hT:DataW.Trod enc Tryz.prog W 0 (fun _=>true) true 5 v d ps) (hw : ∀ x∈DataW.weights Tryz.prog 5 d,x≤reachBytes) :
  ∃ (k:Nat),(one (.int .u8 k)).p v (ck W)∧(k:Int)≤IntKind.max .u8∧True:=by
 have h:=rN (.inl ⟨_,Tryz.underlying5⟩) hval hT hw
 obtain ⟨k,rfl,b0⟩:=nQ Tryz.underlying5 Y h
 exact ⟨k,rfl,b0,Er⟩
end Tor
namespace Go.Proofs.YtbgloceimmbliaaGreat
open Go.ChangeShapes Go.WideShapes Go.ChangeAt Go.RowKit Go.Joins Tor
theorem dixonDigits_own:ownKnob Tryz.prog.godebug=none:=by kernel_rfl
theorem dixonDigits_laid:laidOutB Tryz.prog=true:=by kernel_rfl
set_option maxRecDepth 100000 in
theorem dixonDigits_lifted (os:Os) (started:os.Started) (Ef:Type) (enc:TypeId × Value→Ef) :
  ReturnsInHanded {} Tryz.checked os 5 .any (Rows.dixonDigitsSpec.pre6 enc Tryz.prog Tryz.f5 Rows.dixonDigitsRow.domain false) (Rows.dixonDigitsSpec.post enc Tryz.prog Tryz.f5 false true false false):=by
 refine returnsInHanded_of_change_sized (C:=Tryz.checked) dixonDigits_own started Z Tryz.func5
  (ChangeSpec.witness6 (enc:=enc) (C:=Tryz.checked) false ⟨#[], #[.agg #[.int .u8 0, .int .u8 0, .slice none 0 0], .slice none 0 0, .int .u8 0], []⟩ 8 Z Z Z Z) ?_
 intro W base args ds gs before hval0 hW hcnd hsz0 _
 have hval : ∀ (j:Nat) t v,Tryz.f5.params[j]? = some t→args[j]? = some v→Value.okWide Tryz.prog W .any base t v:=hval0
 have hsz:(DataW.weightsEach Tryz.prog (Tryz.f5.params.toList ++ Rows.dixonDigitsSpec.plain.varTypes Tryz.prog) (ds ++ gs)).all (· ≤ reachBytes)=true:=hsz0
 have hW':=hW
 obtain ⟨p,q,hA0,hV,rfl,hfz,hnd⟩:=hW
 have hA:DataW.TrodAll enc Tryz.prog W 0 (fun _=>true) true Tryz.f5.params.toList args.toList ds p:=hA0
 rw [Tryz.params5] at hA hval hsz
 obtain ⟨v0,v1,v2,d0,d1,d2,p0,p1,p2,rfl,rfl,rfl,h0,h1,h2⟩:=trodAll_three hA
 obtain ⟨rfl,rfl⟩:=trodVars_none hV
 obtain ⟨r_0,c_0,l_0,x0,y0⟩:=Dw (hval 0 24 _ Y Y) h0 (jB hsz 0 Y Y)
 obtain ⟨d_1,x1,y1⟩:=DW (hval 1 22 _ Y Y) h1 (jB hsz 1 Y Y)
 obtain ⟨k_2,x2,y2⟩:=DX (hval 2 5 _ Y Y) h2 (jB hsz 2 Y Y)
 refine (Ok.outside (W:=W) (args := #[v0,v1,v2]) (pb r_0 c_0 l_0 d_1 k_2 y0 y1 y2) (And.intro x0 (And.intro x1 (And.intro x2 (trivial))))).mono fun e W' ⟨v,he,hv,hw⟩ => ?_
 subst he
 have hv:v = .bool true:=hv
 subst hv
 refine ⟨_,rfl,_, [],_, [],_, [],hW',trodAll_mk1 (shut_bool Tryz.underlying4 true),trodAll_mk3
  (Below.trod dixonDigits_laid Z (of_decide_eq_true Z) h0 hw (fun x hx=>by simpa using hW'.lt x (by simp only [List.mem_append] at hx ⊢; simp [hx])))
  (Below.trod dixonDigits_laid Z (of_decide_eq_true Z) h1 hw (fun x hx=>by simpa using hW'.lt x (by simp only [List.mem_append] at hx ⊢; simp [hx])))
  (Below.trod dixonDigits_laid Z (of_decide_eq_true Z) h2 hw (fun x hx=>by simpa using hW'.lt x (by simp only [List.mem_append] at hx ⊢; simp [hx]))),rfl,hw.frame _,fun h=>by cases h⟩
theorem dixonDigits_holds:Rows.DixonDigitsSaid :=
 OpenClaim.holds_of_wide 5 Tryz.f5 Y Y Y Y Y Y Y ⟨rfl,rfl,rfl,rfl,rfl⟩ Y Y Y Y Y Z Tryz.func5 Z
  (of_decide_eq_true Z) (by unfold Func.isWrapper;first | (rw [if_pos U]; kernel_rfl) | (rw [if_neg U]; exact ⟨rfl,rfl⟩))
  (fun os started Ef enc _=>dixonDigits_lifted os started Ef enc)
end Go.Proofs.YtbgloceimmbliaaGreat
namespace Tor
end Tor
end
