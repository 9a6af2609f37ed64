/-
  Proofs that laws of this seat return true for every input, and that their arguments read afterwards as before.
  No condition.
-/
import Derived.Test.YtamglpeiacmooaaGreatZB10
import Derived.Test.YtamglpeiacmooaaGreatRows
set_option maxHeartbeats 20000000
set_option linter.unusedVariables false
set_option linter.unusedSimpArgs false
section
namespace Tor
theorem PotI.toC {n:Nat} {s:SS} {e:Nat} (h:PotI n s e):PotC n s.col (tB s.col) s e:=⟨h.one,h.bnd,h.pot⟩
theorem AllS.subF {n m k t:Nat} {A:Nat→Nat→Int} {s:SS} (h:AllS n m A s) (hk:k<n) (ht:t<n) (hne:k≠t) (hrow:s.row≤t) (hp:s.M t s.col≠0) :
  AllS n m A { s with M:=bW k t (s.M k s.col / s.M t s.col) s.M,U:=bW k t (s.M k s.col / s.M t s.col) s.U,V:=eQ t k (s.M k s.col / s.M t s.col) s.V } := by
 obtain ⟨pv,hf⟩:=h.frm
 obtain ⟨e,he⟩:=h.pot
 obtain ⟨e',he'⟩:=he.toC.sub hk hp
 have hlow : ∀ j,j<s.col→s.M t j=0:=fun j hj=>hf.low t j hrow ht hj
 refine ⟨⟨⟨h.eqs.ua.sub ht,h.eqs.uv.sub hk ht hne,h.eqs.hr,h.eqs.hc⟩,h.eqs.vu.sub' hk ht hne⟩,⟨pv,hf.chg (fun a j ha hj => ?_) (fun a j h1 h2 h3 => ?_)⟩,⟨e',he'.one,he'.bnd,he'.pot⟩⟩
 ·unfold bW
  split
  ·rw [hlow j hj,Int.mul_zero,Int.sub_zero]
  ·rfl
 ·unfold bW
  split
  ·rw [hlow j h3,Int.mul_zero,Int.sub_zero]; exact hf.low a j h1 h2 h3
  ·exact hf.low a j h1 h2 h3
theorem AllS.swpF {n m i t:Nat} {A:Nat→Nat→Int} {s:SS} (h:AllS n m A s) (hi:i<n) (ht:t<n) (hne:i≠t) (hri:s.row≤i) (hrt:s.row≤t) :
  AllS n m A { s with M:=swp i t s.M,U:=swp i t s.U,V:=gP i t s.V } := by
 obtain ⟨pv,hf⟩:=h.frm
 obtain ⟨e,he⟩:=h.pot
 have he':=he.toC.swap hi ht hne
 refine ⟨⟨⟨h.eqs.ua.swap hi ht,h.eqs.uv.swap hi ht,h.eqs.hr,h.eqs.hc⟩,h.eqs.vu.swap' hi ht⟩,⟨pv,hf.chg (fun a j ha hj => ?_) (fun a j h1 h2 h3 => ?_)⟩,⟨e,he'.one,he'.bnd,he'.pot⟩⟩
 ·unfold swp;rw [if_neg S,if_neg S]
 ·unfold swp
  split
  ·exact hf.low t j hrt ht h3
  ·split
   ·exact hf.low i j hri hi h3
   ·exact hf.low a j h1 h2 h3
theorem AllS.negF {n m t:Nat} {A:Nat→Nat→Int} {s:SS} (h:AllS n m A s) (ht:t<n) (hrt:s.row≤t) (hx:s.M t s.col<0) :
  AllS n m A { s with M:=cN t s.M,U:=cN t s.U,V:=gG t s.V } := by
 obtain ⟨pv,hf⟩:=h.frm
 obtain ⟨e,he⟩:=h.pot
 have he':=he.toC.neg ht hx
 refine ⟨⟨⟨h.eqs.ua.neg,h.eqs.uv.neg,h.eqs.hr,h.eqs.hc⟩,h.eqs.vu.neg'⟩,⟨pv,hf.chg (fun a j ha hj => ?_) (fun a j h1 h2 h3 => ?_)⟩,⟨e,he'.one,he'.bnd,he'.pot⟩⟩
 ·unfold cN;rw [if_neg S]
 ·unfold cN
  split
  ·rw [hf.low a j h1 h2 h3]; rfl
  ·exact hf.low a j h1 h2 h3
theorem vt {n e T:Nat} {s:SS} {c':Nat} (hn:n≤4) (he:PotI n s e) (hT:T=80*tB s.col+144):gQ n e (fun i=>s.M i c')≤2^T :=
 p7 (t:=tB s.col) hn (Nat.le_of_eq hT.symm) he.one he.le (fun i=>he.bnd.m i c')
theorem nT {n e:Nat} {s:SS} {row:Nat} (hn:n≤4) (he:PotI n s e):PotI n { s with row:=row,col:=s.col+1 } e:=by
 refine ⟨he.one,⟨he.bnd.m,he.bnd.u,he.bnd.v⟩,?_⟩
 exact vt (s:=s) (c':=s.col+1) (T:=tB (s.col+1)) hn he Z
theorem AllS.skipF {n m:Nat} {A:Nat→Nat→Int} {s:SS} (hn:n≤4) (h:AllS n m A s) (hc:s.col<m) (h0 : ∀ i,s.row≤i→i<n→s.M i s.col=0):AllS n m A { s with col:=s.col+1 } := by
 obtain ⟨pv,hf⟩:=h.frm
 obtain ⟨e,he⟩:=h.pot
 exact ⟨⟨⟨h.eqs.ua,h.eqs.uv,h.eqs.hr,hc⟩,h.eqs.vu⟩,⟨pv,hf.skip h0⟩,⟨e,nT hn he⟩⟩
theorem AllS.nextF {n m:Nat} {A:Nat→Nat→Int} {s:SS} (hn:n≤4) (h:AllS n m A s) (hrn:s.row<n) (hc:s.col<m) (hpos:0<s.M s.row s.col) (hab : ∀ k,k<s.row→0≤s.M k s.col∧s.M k s.col<s.M s.row s.col) (hbe : ∀ k,s.row<k→k<n→s.M k s.col=0):AllS n m A { s with row:=s.row+1,col:=s.col+1 } := by
 obtain ⟨pv,hf⟩:=h.frm
 obtain ⟨e,he⟩:=h.pot
 exact ⟨⟨⟨h.eqs.ua,h.eqs.uv,hrn,hc⟩,h.eqs.vu⟩,⟨_,hf.next hrn hpos hab hbe⟩,⟨e,nT hn he⟩⟩
theorem li {x p:Int} (hp:p≠0):0≤x - x / p*p∧x - x / p*p<(p.natAbs:Int):=by
 have h1:=Int.emod_nonneg x hp
 have h2:=Int.emod_lt x hp
 have h3:=Int.emod_add_mul_ediv x p
 rw [Int.mul_comm] at h3
 omega
theorem sD {k t j:Nat} {q:Int} {F:Nat→Nat→Int} : bW k t q F k j=F k j - q*F t j:=if_pos Z
theorem kD {k t i j:Nat} {q:Int} {F:Nat→Nat→Int} (h:i≠k):bW k t q F i j=F i j:=if_neg h
end Tor
end
section
namespace Tor
open Go Go.RowKit Go.Proofs
theorem ye {n:Nat} {bs:List Nat} (hb:bs.length=n):Own.le (bg n bs (fun q k=>if q<n then (if q=k then 1 else 0) else 0)) (bg n bs idF):=du fun i j hi hj=>by
 subst hb
 rw [if_pos hi]; rfl
theorem yf {n i:Nat} {bs:List Nat} : Own.le (bX 55 (.agg 2) n bs (eO (fun q k=>bm (if q<i then (if q=k then 1 else 0) else 0)) i i (bm 1))) (bg n bs (fun q k=>if q<i+1 then (if q=k then 1 else 0) else 0)):=dM fun q k hq hk=>by
 unfold eO
 by_cases h:q=i
 ·subst h
  by_cases h2:k=q
  ·subst h2;simp
  ·have h3 : ¬ q=k:=fun e=>h2 e.symm
   simp [h2,h3]
 ·have h3:q<i+1↔q<i:=by omega
  simp [h,h3]
attribute [local irreducible] J PJ aQ one slT cA bG bZ exT cE eP aX a8 slV VT.le Ret bS
attribute [local irreducible] bX bm
theorem wB (n:Nat) (hn:n≤1048576):OkM Tryz.prog 32 [one (.int .i64 n)] (bF n n) (fun s=>iW n n s idF):=by
 refine fa ?_
 have h1:=jF 1 Y Y
 refine OkM.enter Tryz.func32 Z Tryz.ntmps32 Z (fun w O => ?_)
 refine ah (aj ?_)
 refine a7 (T:=29) Z Z Z (fun b2 => ?_)
 refine Ap (aa (ah (aj (Am Z (Am Z ?_)))))
 refine eu (je _ _ (by assumption) (by assumption)) Z ⟨W,W,Aq⟩ Z Z (fun s7 => ?_)
 refine a7 (T:=29) Z Z Z (fun b3 => ?_)
 refine aW 0 Z Z Z Z (Ap (aa (ah (ah (aj (An Z (Ap (aa (ar ?_)))))))))
 obtain ⟨⟨bs,sv,cap⟩,hlen,hsv⟩:=s7
 simp only at hlen hsv
 unfold gS
 refine bV (Γ' := [(0,_),(2,_),(3,_),(4,_)]) Ag (SubM.refl _) ?_
 refine bv (σ:=Nat) (Γk := [(0,_),(2,_),(3,_)]) Ag (fun i => [(4,one (.int .i64 (i:Nat)))]) (fun i M0=>(M0.set 2 (bg n bs (fun q k=>if q<i then (if q=k then 1 else 0) else 0)))) (fun i=>i≤n) (fun i=>n - i) (0) (Nat.zero_le _) Ah (.keep Ak (.keep Ak (.keep Ak (.keep Ak (.nil))))) (fun i hi => ?_)
 refine bK (Γ' := [(4,_),(0,_),(2,_),(3,_)]) (M' := [_,_,_,_]) Z Z ?_
 by_cases hi':i<n
 ·obtain ⟨bo,rfl⟩:=jf hsv S
  refine ah (ah (aj (Am Z (Am Z (Al (sT S (aS Z Z)) (Ap (aa (az Z (au ?_)))))))))
  refine aa (ah (ar (aZ 7 aV X Y (Al (ab Z) (Al (ak 0 Z Z Z) (Am Z (Al (an Z Z S) (Al (aI 1 Z Z S) (Am Z ?_)))))))))
  refine Al (am (h1) Z ⟨W,Aq⟩) ?_
  refine Ap (Al (an Z Z S) ?_)
  (refine a9 2 Z Z Z (bC ?_) ?_ Z ?_;omega;omega)
  refine Ap (aD (aa (aj (Am Z (Al (bn _ 1 Z Z S) (An Z (Ap ?_)))))))
  refine aJ (i+1) (hi') S Ah (.keep Ak (.keep Ak (.keep (yf) (.keep Ak (.nil)))))
 ·have he:n=i:=by omega
  subst he
  refine ah (ah (aj (Am Z (Am Z (Al (sF S (aS Z Z)) (Ap (aa (aA Z (aU ?_)))))))))
  refine av (av (aC (aa (ah (aj (Al (aL 0 Z Z) (aW 3 Z Z Z Z (Ap (aa ?_)))))))))
  refine aG ?_
  exact iB ⟨(bs,sv,cap),hlen,hsv⟩ Tryz.results32 (.cellW 3 Z Z W) (.drop (.keep Ak (.keep (ye hlen) (SubM.nilR _))))
def t7W:Nat→S3→VT→VT→VT
 | 1, s, φ, ψ => φ
 | _, s, φ, ψ => ψ
def t7N:Nat→S3→Mem→Mem→Mem
 | 1, s, φ, ψ => φ
 | _, s, φ, ψ => ψ
set_option maxRecDepth 100000 in
theorem vv (r c:Nat) (F:Nat→Nat→Int) (hr:r≤1048576) (hc:c≤1048576) (hF : ∀ i j,cx (F i j)):OkM (σ:=Nat × S3 × S3 × S3) Tryz.prog 51 [bp r c F]
  (fun s=>one (.pointer (some ⟨s.1,0,none⟩))) (fun s => [aX s.1 79 9 (lB (bF r c s.2.1) (bF r r s.2.2.1) (bF r r s.2.2.2)),ef (ok3 r s.2.1),bO s.2.1.2.1 s.2.1.2.2 r c s.2.1.1,bg c s.2.1.1 F,ef (ok3 r s.2.2.1),bO s.2.2.1.2.1 s.2.2.1.2.2 r r s.2.2.1.1,bg r s.2.2.1.1 idF,ef (ok3 r s.2.2.2),bO s.2.2.2.2.1 s.2.2.2.2.2 r r s.2.2.2.1,bg r s.2.2.2.1 idF]):=by
 have hco:=vp r c F hr hc hF
 have hid:=wB r hr
 refine OkM.enter Tryz.func51 Z Tryz.ntmps51 Z (fun w O => ?_)
 refine ah (aj ?_)
 refine aY Z Z (ltN Z) (fun b1 => ?_)
 refine An Z (Ap (aa (ah ?_)))
 refine oU 6 9 [1,4,7] ([],none,0) (fun j s=>t7W j s (bF r c s) (bF r r s)) (fun j s=>t7N j s (iW r c s F) (iW r r s idF)) aV X Y Z Y ?_
 refine kx Z (fun s B=>aL 0 Z Z) Z ?_
 refine kc Z (fun s B=>ek hco Z ⟨W,Aq⟩) Z ?_
 refine kx Z (fun s B=>ab Z) Z ?_
 refine kx Z (fun s B=>ak 0 Z Z Z) Z ?_
 refine kc Z (fun s B=>ek hid Z ⟨W,Aq⟩) Z ?_
 refine kx Z (fun s B=>ab Z) Z ?_
 refine kx Z (fun s B=>ak 0 Z Z Z) Z ?_
 refine kc Z (fun s B=>ek hid Z ⟨W,Aq⟩) Z ?_
 refine kd [1,4,7] (ψ:=fun s=>mO (bF r c (s 1)) (bF r r (s 4)) (bF r r (s 7))) Z H (fun s s' h=>by rw [h 1 Y,h 4 Y,h 7 Y]) (fun s B=>i5 (.cons (φ:=bF r c (s 1)) Z Z Z (.cons (φ:=bF r r (s 4)) Z Z Z (.cons (φ:=bF r r (s 7)) Z Z Z .nil))) Z Z) Z ?_
 refine .nil fun t => ?_
 refine lH (Γ' := [(11,mO (bF r c (t 1)) (bF r r (t 4)) (bF r r (t 7)))]) (M' := [ef (ok3 r (t 1)),bO (t 1).2.1 (t 1).2.2 r c (t 1).1,bg c (t 1).1 F,ef (ok3 r (t 4)),bO (t 4).2.1 (t 4).2.2 r r (t 4).1,bg r (t 4).1 idF,ef (ok3 r (t 7)),bO (t 7).2.1 (t 7).2.2 r r (t 7).1,bg r (t 7).1 idF]) Aj (.keep Ak (.keep Ak (.keep Ak (.keep Ak (.keep Ak (.keep Ak (.keep Ak (.keep Ak (.keep Ak (SubM.nilR _)))))))))) ?_
 generalize t 1=sM
 generalize t 4=sU
 generalize t 7=sV
 refine aY Z Z (ltN Z) (fun b12 => ?_)
 refine An Z (Ap (aa (aG ?_)))
 exact iB (b12,sM,sU,sV) Tryz.results51 (.tmp Z W) (SubM.refl _)
end Tor
end
section
namespace Tor
open Go Go.RowKit Go.Proofs
structure WkS (r c:Nat) (A:Nat→Nat→Int) (row col:Nat) (s:SS) (lM lU lV:S3):Prop where
 all:AllS r c A s
 er:s.row=row
 ec:s.col=col
 hM:ok3 r lM
 hU:ok3 r lU
 hV:ok3 r lV
theorem okB {r i k:Nat} {l:S3} (h:ok3 r l):ok3 r (fT i k l.1,l.2):=⟨vb.trans h.1,h.2⟩
theorem vy {E:Env} {D:List Deferred} {Γ:Ctx} {e:Exit} {Q:Exit→Act→World→Prop} {T:TypeId} {b2 r c:Nat} {Ac Ad:Own} {sM sU sV:S3} {M U V:Nat→Nat→Int} (hM:ok3 r sM) (hU:ok3 r sU) (hV:ok3 r sV)
  (h:PJ E D Γ [Ac,aX b2 T 9 (lB (bp r c M) (bp r r U) (bp r r V)),Ad] e Q) :
  PJ E D Γ [Ac,bO sM.2.1 sM.2.2 r c sM.1,bg c sM.1 M,bO sU.2.1 sU.2.2 r r sU.1,bg r sU.1 U,bO sV.2.1 sV.2.2 r r sV.1,bg r sV.1 V,aX b2 T 9 (lB (bF r c sM) (bF r r sU) (bF r r sV)),Ad] e Q:=by
 have hE:=(vF.box (b:=b2) (T:=T) (m:=9) (qz (Ms := [bO sM.2.1 sM.2.2 r c sM.1,bg c sM.1 M,bO sU.2.1 sU.2.2 r r sU.1,bg r sU.1 U,bO sV.2.1 sV.2.2 r r sV.1,bg r sV.1 V]) (da hM.1 (bE 0 Z) (bE 1 Z)) (da hU.1 (bE 2 Z) (bE 3 Z)) (da hV.1 (bE 4 Z) (bE 5 Z))))
 exact fQ [bO sM.2.1 sM.2.2 r c sM.1,bg c sM.1 M,bO sU.2.1 sU.2.2 r r sU.1,bg r sU.1 U,bO sV.2.1 sV.2.2 r r sV.1,bg r sV.1 V] (ji 9 [1,2,3,4,5,6,0,7,8] H Z Z) (.keep (vF.refl _) (.keep hE (EntM.refl _))) (qN.refl _) h
theorem wC {row i col:Nat} {M:Nat→Nat→Int} (h0:M i col≠0) (h1:M row col=0):(swp row i M i col).natAbs<(M i col).natAbs:=by
 rw [ul,h1]; show 0<_;omega
theorem wD {row i col:Nat} {M:Nat→Nat→Int} (h : ∀ k,row<k→k<i→M k col=0) : ∀ k,row<k→k<i→swp row i M k col=0:=fun k h1 h2=>by
 unfold swp;rw [if_neg S,if_neg S]; exact h k h1 h2
theorem wE {row i col:Nat} {M:Nat→Nat→Int} (h0:M i col≠0):(swp row i (bW row i (M row col / M i col) M) i col).natAbs<(M i col).natAbs:=by
 rw [ul,sD]
 have:=li (x:=M row col) h0
 omega
theorem wF {row i col:Nat} {q:Int} {M:Nat→Nat→Int} (h : ∀ k,row<k→k<i→M k col=0) : ∀ k,row<k→k<i→swp row i (bW row i q M) k col=0:=fun k h1 h2=>by
 unfold swp;rw [if_neg S,if_neg S,kD S]; exact h k h1 h2
theorem xG {x:Int} (h:x≠0) (h2 : ¬ x<0):0<x:=by omega
theorem x8 {row col:Nat} {M:Nat→Nat→Int} (h:M row col<0):0<cN row M row col:=by unfold cN;rw [if_pos Z]; omega
theorem x9 {row col r:Nat} {M:Nat→Nat→Int} (h : ∀ k,row<k→k<r→M k col=0) : ∀ k,row<k→k<r→cN row M k col=0:=fun k h1 h2=>by unfold cN;rw [if_neg S]; exact h k h1 h2
theorem wU {g row col:Nat} {q:Int} {M:Nat→Nat→Int} (hg:g<row) (h:0<M row col):0<bW g row q M row col:=by rw [kD S]; exact h
theorem wV {g row col:Nat} {M:Nat→Nat→Int} (hg:g<row) (h:0<M row col) (h4 : ∀ k,k<g→0≤M k col∧M k col<M row col) (hm:0≤M g col - M g col / M row col*M row col∧M g col - M g col / M row col*M row col<((M row col).natAbs:Int)) :
  ∀ k,k<g+1→0≤bW g row (M g col / M row col) M k col∧bW g row (M g col / M row col) M k col<bW g row (M g col / M row col) M row col:=fun k hk=>by
 rw [kD (show row≠g by omega)]
 by_cases h1:k=g
 ·subst h1
  rw [sD]; omega
 ·rw [kD h1]; exact h4 k S
theorem wW {g row col r:Nat} {q:Int} {M:Nat→Nat→Int} (hg:g<row) (h : ∀ k,row<k→k<r→M k col=0) : ∀ k,row<k→k<r→bW g row q M k col=0:=fun k h1 h2=>by rw [kD S]; exact h k h1 h2
def vz (r c:Nat) (A:Nat→Nat→Int):VT:=exT fun s:SS=>cE (AllS r c A s∧cR r c s=true) (mO (bp r c s.M) (bp r r s.U) (bp r r s.V))
theorem qF {r c:Nat} {A:Nat→Nat→Int} {s:SS} (h:AllS r c A s) (hf:cR r c s=true):VT.le (mO (bp r c s.M) (bp r r s.U) (bp r r s.V)) (vz r c A):=fun v k hp=>⟨s,⟨h,hf⟩,hp⟩
attribute [local irreducible] J PJ aQ one slT cA bG bZ exT cE eP aX a8 slV VT.le Ret bS
attribute [local irreducible] bX bm
set_option maxRecDepth 100000 in
theorem vA (r c:Nat) (A:Nat→Nat→Int) (hr:r≤4) (hc:c≤4) (hA : ∀ i j,(A i j).natAbs≤9) :
  Ok Tryz.prog 23 [bp r c A] (vz r c A):=by
 have h0:=AllS.start (m:=c) hr hA
 have hmA : ∀ i j,cx (A i j):=(h0.stL hc).m
 have hst:=vv r c A S S hmA
 refine Ok.enter Tryz.func23 Z Tryz.ntmps23 Z (fun w O => ?_)
 refine ah (aj ?_)
 refine aY Z Z (ltN Z) (fun b1 => ?_)
 refine a7 (T:=43) Z Z Z (fun b2 => ?_)
 refine Ap (aa (ah (aj (Al (aL 1 Z Z) ?_))))
 refine eu (hst) Z ⟨W,Aq⟩ Z Z (fun s12 => ?_)
 refine An Z (Ap (aa (ah (aj (An Z (Ap (aa (ah (ah ?_)))))))))
 refine aj (An Z (Ap (aa (ar ?_))))
 obtain ⟨b12,sM,sU,sV⟩:=s12
 dsimp only
 refine eU (i:=1) (F:=ok3 r sM) Z (fun g h hp=>hp) (fun hM => ?_)
 refine eU (i:=4) (F:=ok3 r sU) Z (fun g h hp=>hp) (fun hU => ?_)
 refine eU (i:=7) (F:=ok3 r sV) Z (fun g h hp=>hp) (fun hV => ?_)
 refine bV (Γ' := [(5,one (.int .i64 ((0:Nat):Int))),(4,one (.int .i64 ((0:Nat):Int))),(3,_),(2,_),(1,_)]) (M' := [_,_,_,_,_,_,_,_,_]) Aj (.keep Ak (.drop (.keep Ak (.keep Ak (.drop (.keep Ak (.keep Ak (.drop (SubM.refl _))))))))) ?_
 refine bV (Γ' := [(1,_),(2,_),(3,_),(4,_),(5,_)]) Ag (SubM.refl _) ?_
 refine bv (σ:=SS × S3 × S3 × S3) (Γk := [(1,_),(2,_),(3,_)]) Ag (fun x => [(4,one (.int .i64 (x.1.row:Nat))),(5,one (.int .i64 (x.1.col:Nat)))]) (fun x M0=>(((((((M0.set 0 (aX b12 79 9 (lB (bF r c x.2.1) (bF r r x.2.2.1) (bF r r x.2.2.2)))).set 1 (bO x.2.1.2.1 x.2.1.2.2 r c x.2.1.1)).set 2 (bg c x.2.1.1 x.1.M)).set 3 (bO x.2.2.1.2.1 x.2.2.1.2.2 r r x.2.2.1.1)).set 4 (bg r x.2.2.1.1 x.1.U)).set 5 (bO x.2.2.2.2.1 x.2.2.2.2.2 r r x.2.2.2.1)).set 6 (bg r x.2.2.2.1 x.1.V))) (fun x=>WkS r c A x.1.row x.1.col x.1 x.2.1 x.2.2.1 x.2.2.2) (fun x=>c - x.1.col) ((bT A,sM,sU,sV)) (⟨h0,rfl,rfl,hM,hU,hV⟩) Ah (.keep Ak (.keep Ak (.keep Ak (.keep Ak (.keep Ak (.keep Ak (.keep Ak (.keep Ak (.keep Ak (.nil)))))))))) (fun x hx => ?_)
 refine bK (Γ' := [(4,_),(5,_),(1,_),(2,_),(3,_)]) (M' := [_,_,_,_,_,_,_,_,_]) Z Z ?_
 obtain ⟨s0,lM,lU,lV⟩:=x
 dsimp only at hx ⊢
 have hrow:=hx.all.eqs.hr
 have hcol:=hx.all.eqs.hc
 clear hst
 by_cases hcc:s0.col<c
 ·by_cases hrr:s0.row<r
  ·refine ah (ah (aj (Am Z (Al (ab Z) (Al (ak 8 Z Z Z) (Al (sT S (aS Z Z)) (Am Z (Ao (ae Z) (Ao (ab Z) ?_)))))))))
   refine Ao (ak 8 Z Z Z) (Ao (sT S (aS Z Z)) (Al (aE Z Z) (Ap (aa (az Z (au (aa (ah (ar ?_)))))))))
   refine ah (ah (aj (Am Z (Al (bn _ 1 Z Z S) (An Z (Ap (aa (ar (bV (Γ' := [(1,_),(2,_),(3,_),(4,_),(5,_),(6,_)]) Ag (SubM.refl _) ?_)))))))))
   refine bv (σ:=Nat × SS × S3 × S3 × S3) (Γk := [(1,_),(2,_),(3,_),(4,_),(5,_)]) Ag (fun y => [(6,one (.int .i64 (y.1:Nat)))]) (fun y M0=>(((((((M0.set 0 (aX b12 79 9 (lB (bF r c y.2.2.1) (bF r r y.2.2.2.1) (bF r r y.2.2.2.2)))).set 1 (bO y.2.2.1.2.1 y.2.2.1.2.2 r c y.2.2.1.1)).set 2 (bg c y.2.2.1.1 y.2.1.M)).set 3 (bO y.2.2.2.1.2.1 y.2.2.2.1.2.2 r r y.2.2.2.1.1)).set 4 (bg r y.2.2.2.1.1 y.2.1.U)).set 5 (bO y.2.2.2.2.2.1 y.2.2.2.2.2.2 r r y.2.2.2.2.1)).set 6 (bg r y.2.2.2.2.1 y.2.1.V))) (fun y=>s0.row+1≤y.1∧y.1≤r∧WkS r c A s0.row s0.col y.2.1 y.2.2.1 y.2.2.2.1 y.2.2.2.2 ∧ ∀ k,s0.row<k→k<y.1→y.2.1.M k s0.col=0) (fun y=>r - y.1) ((s0.row+1,s0,lM,lU,lV)) (⟨Nat.le_refl _,hrr,hx,fun k h1 h2=>absurd h2 S⟩) Ah (.keep Ak (.keep Ak (.keep Ak (.keep Ak (.keep Ak (.keep Ak (.keep Ak (.keep Ak (.keep Ak (.nil)))))))))) (fun y hy => ?_)
   refine bK (Γ' := [(6,_),(1,_),(2,_),(3,_),(4,_),(5,_)]) (M' := [_,_,_,_,_,_,_,_,_]) Z Z ?_
   obtain ⟨i,s1,mM,mU,mV⟩:=y
   obtain ⟨hi1,hi2,hi3,hi4⟩:=hy
   dsimp only at hi1 hi2 hi3 hi4 ⊢
   have hl1:=hi3.all.stL hc
   by_cases hi:i<r
   ·refine ah (ah (aj (Am Z (Al (ab Z) (Al (ak 8 Z Z Z) (Al (sT S (aS Z Z)) (Ap (aa (az Z ?_)))))))))
    refine au (aa (ah (ar (ar (bV (Γ' := [(1,_),(2,_),(3,_),(4,_),(5,_),(6,_)]) Ag (SubM.refl _) ?_)))))
    refine bv (σ:=SS × S3 × S3 × S3) (Γk := [(1,_),(2,_),(3,_),(4,_),(5,_),(6,_)]) Ag (fun z => []) (fun z M0=>(((((((M0.set 0 (aX b12 79 9 (lB (bF r c z.2.1) (bF r r z.2.2.1) (bF r r z.2.2.2)))).set 1 (bO z.2.1.2.1 z.2.1.2.2 r c z.2.1.1)).set 2 (bg c z.2.1.1 z.1.M)).set 3 (bO z.2.2.1.2.1 z.2.2.1.2.2 r r z.2.2.1.1)).set 4 (bg r z.2.2.1.1 z.1.U)).set 5 (bO z.2.2.2.2.1 z.2.2.2.2.2 r r z.2.2.2.1)).set 6 (bg r z.2.2.2.1 z.1.V))) (fun z=>WkS r c A s0.row s0.col z.1 z.2.1 z.2.2.1 z.2.2.2 ∧ ∀ k,s0.row<k→k<i→z.1.M k s0.col=0) (fun z=>(z.1.M i s0.col).natAbs) ((s1,mM,mU,mV)) (⟨hi3,hi4⟩) Ah (.keep Ak (.keep Ak (.keep Ak (.keep Ak (.keep Ak (.keep Ak (.keep Ak (.keep Ak (.keep Ak (.nil)))))))))) (fun z hz => ?_)
    refine bK (Γ' := [(1,_),(2,_),(3,_),(4,_),(5,_),(6,_)]) (M' := [_,_,_,_,_,_,_,_,_]) Z Z ?_
    obtain ⟨s2,nM,nU,nV⟩:=z
    obtain ⟨hz1,hz2⟩:=hz
    dsimp only at hz1 hz2 ⊢
    have hl2:=hz1.all.stL hc
    obtain ⟨bs,bo,cap,rfl,hbl⟩:=hz1.hM.some S
    try dsimp only at hbl ⊢
    by_cases h0:s2.M i s0.col=0
    ·have hsg:=(cI _).2 h0
     unfold bF
     try dsimp only
     refine ah (ah (aj (Am Z (Al (ao Z) (Al (ab Z) (Al (ab Z) (Al (aw 0 0 2 Z Z Z Z Z) (Am Z (Al (an Z Z S) ?_)))))))))
     refine Al (aI 1 Z Z S) (Am Z (Al (an Z Z S) (Al (bd 2 Z Z (bC S) S) ?_)))
     refine Al (am (cn _) Z ⟨W,Aq⟩) ?_
     refine Al (sF S (dy Z Z)) (Ap (aa (aA Z (aU (av (av (aC (aD (aa ?_)))))))))
     refine aj (Am Z (Al (bn _ 1 Z Z S) (An Z (Ap ?_))))
     refine aJ ((i+1,s2,(bs,some bo,cap),nU,nV)) (⟨by omega,hi,hz1,fun k h1 h2=>by rcases Nat.lt_or_eq_of_le (Nat.lt_succ_iff.1 h2) with h | h;exact hz2 k h1 h;exact h▸h0⟩) S Ah (.keep Ak (.keep Ak (.keep Ak (.keep Ak (.keep Ak (.keep Ak (.keep Ak (.keep Ak (.keep Ak (.nil))))))))))
    ·have hsg:=fun e=>h0 ((cI _).1 e)
     by_cases h1:s2.M s0.row s0.col=0
     ·have hsg1:=(cI _).2 h1
      have hSw:=qC b12 r c (bs,some bo,cap) nU nV s2.M s2.U s2.V s0.row i S S hz1.hM hz1.hU hz1.hV hrr hi S
      have hall:=hz1.all.swpF (i:=s0.row) (t:=i) hrr hi S (by rw [hz1.er]; exact Nat.le_refl _) (by rw [hz1.er]; omega)
      unfold kB at hSw
      unfold bF at hSw ⊢
      try dsimp only at hSw ⊢
      refine ah (ah (aj (Am Z (Al (ao Z) (Al (ab Z) (Al (ab Z) (Al (aw 0 0 2 Z Z Z Z Z) (Am Z (Al (an Z Z S) ?_)))))))))
      refine Al (aI 1 Z Z S) (Am Z (Al (an Z Z S) (Al (bd 2 Z Z (bC S) S) ?_)))
      refine Al (am (cn _) Z ⟨W,Aq⟩) ?_
      refine Al (sT (by assumption) (dy Z Z)) (Ap (aa (az Z (au (aa (ar (ah (ah (aj ?_)))))))))
      refine Am Z (Al (ao Z) (Al (ab Z) (Al (ab Z) (Al (aw 0 0 2 Z Z Z Z Z) (Am Z (Al (an Z Z S) (Al (aI 1 Z Z S) (Am Z (Al (an Z Z S) ?_)))))))))
      refine Al (bd 2 Z Z (bC S) S) ?_
      refine Al (am (cn _) Z ⟨W,Aq⟩) ?_
      refine Al (sF S (dy Z Z)) (Ap (aa (aA Z (au (aa (aj (Am Z (Am Z (Am Z ?_)))))))))
      refine fR (Kp := [_,_]) hSw Z ⟨W,W,W,Aq⟩ (List.Perm.refl _) Z Z (fun _ => ?_)
      refine Ap (aD ?_)
      refine aJ (({ s2 with M:=swp s0.row i s2.M,U:=swp s0.row i s2.U,V:=gP s0.row i s2.V },(fT s0.row i bs,some bo,cap),(fT s0.row i nU.1,nU.2),nV)) (⟨⟨hall,hz1.er,hz1.ec,okB hz1.hM,okB hz1.hU,hz1.hV⟩,wD hz2⟩) (wC h0 h1) Ah (.keep Ak (.keep Ak (.keep Ak (.keep Ak (.keep Ak (.keep Ak (.keep Ak (.keep Ak (.keep Ak (.nil))))))))))
     ·have hsg1:=fun e=>h1 ((cI _).1 e)
      have hdm:=mQ (s2.M s0.row s0.col) (s2.M i s0.col) h0 (gB (hl2.m _ _)) (gB (hl2.m _ _))
      have hsq:=bA (gm (hl2.m s0.row s0.col) (s2.M i s0.col))
      have hAdd:=lf b12 r c (bs,some bo,cap) nU nV s2.M s2.U s2.V s0.row i (s2.M s0.row s0.col / s2.M i s0.col) S S hz1.hM hz1.hU hz1.hV hrr hi S (gm (hl2.m _ _) _) hl2.m hl2.u hl2.v
      have hal1:=hz1.all.subF (k:=s0.row) (t:=i) hrr hi S (by rw [hz1.er]; omega) (by rw [hz1.ec]; exact h0)
      rw [hz1.ec] at hal1
      have hSw:=qC b12 r c (bs,some bo,cap) nU nV (bW s0.row i (s2.M s0.row s0.col / s2.M i s0.col) s2.M) (bW s0.row i (s2.M s0.row s0.col / s2.M i s0.col) s2.U) (eQ i s0.row (s2.M s0.row s0.col / s2.M i s0.col) s2.V) s0.row i S S hz1.hM hz1.hU hz1.hV hrr hi S
      have hall:=hal1.swpF (i:=s0.row) (t:=i) hrr hi S (by show s2.row≤s0.row;rw [hz1.er]; exact Nat.le_refl _) (by show s2.row≤i;rw [hz1.er]; omega)
      unfold kB at hSw hAdd
      unfold bF at hSw hAdd ⊢
      try dsimp only at hSw hAdd ⊢
      refine ah (ah (aj (Am Z (Al (ao Z) (Al (ab Z) (Al (ab Z) (Al (aw 0 0 2 Z Z Z Z Z) (Am Z (Al (an Z Z S) ?_)))))))))
      refine Al (aI 1 Z Z S) (Am Z (Al (an Z Z S) (Al (bd 2 Z Z (bC S) S) ?_)))
      refine Al (am (cn _) Z ⟨W,Aq⟩) ?_
      refine Al (sT (by assumption) (dy Z Z)) (Ap (aa (az Z (au (aa (ar (ah (ah (aj ?_)))))))))
      refine Am Z (Al (ao Z) (Al (ab Z) (Al (ab Z) (Al (aw 0 0 2 Z Z Z Z Z) (Am Z (Al (an Z Z S) (Al (aI 1 Z Z S) (Am Z (Al (an Z Z S) ?_)))))))))
      refine Al (bd 2 Z Z (bC S) S) ?_
      refine Al (am (cn _) Z ⟨W,Aq⟩) ?_
      refine Al (sT (by assumption) (dy Z Z)) (Ap (aa (az Z (ah ?_))))
      refine dq aV X X ?_
      refine ux (fun B=>ae Z) Z Z ?_
      refine ux (fun B=>ao Z) Z Z ?_
      refine ux (fun B=>ab Z) Z Z ?_
      refine ux (fun B=>ab Z) Z Z ?_
      refine ux (fun B=>aw 0 0 2 Z Z Z Z Z) Z Z ?_
      refine ux (fun B=>ae Z) Z Z ?_
      refine ux (fun B=>an Z Z S) Z Z ?_
      refine ux (fun B=>aI 1 Z Z S) Z Z ?_
      refine ux (fun B=>ae Z) Z Z ?_
      refine ux (fun B=>an Z Z S) Z Z ?_
      refine ux (fun B=>bd 2 Z Z (bC S) S) Z Z ?_
      refine ux (fun B=>ae Z) Z Z ?_
      refine ux (fun B=>ao Z) Z Z ?_
      refine ux (fun B=>ab Z) Z Z ?_
      refine ux (fun B=>ab Z) Z Z ?_
      refine ux (fun B=>aw 0 0 2 Z Z Z Z Z) Z Z ?_
      refine ux (fun B=>ae Z) Z Z ?_
      refine ux (fun B=>an Z Z S) Z Z ?_
      refine ux (fun B=>aI 1 Z Z S) Z Z ?_
      refine ux (fun B=>ae Z) Z Z ?_
      refine ux (fun B=>an Z Z S) Z Z ?_
      refine ux (fun B=>bd 2 Z Z (bC S) S) Z Z ?_
      refine uxk (hdm) Z ⟨W,W,Aq⟩ Z ?_
      refine ux (fun B=>ae Z) Z Z ?_
      refine ux (fun B=>aN Z Z) Z Z ?_
      refine ux (fun B=>aN Z Z) Z Z ?_
      refine ux (fun B=>aN Z Z) Z Z ?_
      refine ua Z (ua Z (us Z (us Z ?_)))
      refine ux (fun B=>ai Z) Z Z ?_
      refine RunU.nil (fun γ => ?_)
      refine cG (M' := [_,_,_,_,_,_,_,_,_,_,_]) Z (aa (aj (Am Z (Am Z (Am Z (Al (ak 1 Z Z Z) ?_))))))
      refine Al (am (e8 _ (by assumption)) Z ⟨W,Aq⟩) ?_
      refine fR (Kp := [_,_,_,_]) hAdd Z ⟨W,W,W,W,Aq⟩ (ji 11 [2,3,4,5,6,7,8,0,1,9,10] H Z Z) Z Z (fun _ => ?_)
      refine Ap (aa (aj (Am Z (Am Z (Am Z ?_)))))
      refine fR (Kp := [_,_,_,_]) hSw Z ⟨W,W,W,Aq⟩ (List.Perm.refl _) Z Z (fun _ => ?_)
      refine Ap (aD ?_)
      have ok1:WkS r c A s0.row s0.col { s2 with M:=swp s0.row i (bW s0.row i (s2.M s0.row s0.col / s2.M i s0.col) s2.M),U:=swp s0.row i (bW s0.row i (s2.M s0.row s0.col / s2.M i s0.col) s2.U),V:=gP s0.row i (eQ i s0.row (s2.M s0.row s0.col / s2.M i s0.col) s2.V),col:=s0.col } (fT s0.row i bs,some bo,cap) (fT s0.row i nU.1,nU.2) nV:=⟨hall,hz1.er,rfl,okB hz1.hM,okB hz1.hU,hz1.hV⟩
      refine aJ (({ s2 with M:=swp s0.row i (bW s0.row i (s2.M s0.row s0.col / s2.M i s0.col) s2.M),U:=swp s0.row i (bW s0.row i (s2.M s0.row s0.col / s2.M i s0.col) s2.U),V:=gP s0.row i (eQ i s0.row (s2.M s0.row s0.col / s2.M i s0.col) s2.V),col:=s0.col },(fT s0.row i bs,some bo,cap),(fT s0.row i nU.1,nU.2),nV)) (⟨ok1,wF hz2⟩) (wE h0) Ah (.keep Ak (.keep Ak (.keep Ak (.keep Ak (.keep Ak (.keep Ak (.keep Ak (.drop (.drop (.keep Ak (.keep Ak (.nil))))))))))))
   ·have hie:r=i:=by omega
    subst hie
    have hza:=cI (s1.M s0.row s0.col)
    obtain ⟨bs,bo,cap,rfl,hbl⟩:=hi3.hM.some S
    try dsimp only at hbl ⊢
    by_cases h0:s1.M s0.row s0.col=0
    ·have hsg:=hza.2 h0
     have hsk:=hi3.all.skipF hr (by rw [hi3.ec]; exact hcc) (by rw [hi3.er,hi3.ec]; intro k h1 h2;rcases Nat.lt_or_eq_of_le h1 with h | h;exact hi4 k h h2;exact h▸h0)
     rw [hi3.ec,hi3.er] at hsk
     unfold bF
     try dsimp only
     refine ah (ah (aj (Am Z (Al (ab Z) (Al (ak 8 Z Z Z) (Al (sF S (aS Z Z)) (Ap (aa (aA Z ?_)))))))))
     refine aU (av (av (aC (aa (ah (ah (aj (Am Z (Al (ao Z) ?_)))))))))
     refine Al (ab Z) (Al (ab Z) (Al (aw 0 0 2 Z Z Z Z Z) (Am Z (Al (an Z Z S) (Al (aI 1 Z Z S) (Am Z (Al (an Z Z S) (Al (bd 2 Z Z (bC S) S) ?_))))))))
     refine Al (am (cn _) Z ⟨W,Aq⟩) ?_
     refine Al (sT (by assumption) (cj Z Z)) (Ap (aa (az Z (aU (av (aC (aa (aj (Am Z ?_)))))))))
     refine Al (bn _ 1 Z Z S) (An Z (Ap ?_))
     have ok2:WkS r c A s0.row (s0.col+1) { s1 with row:=s0.row,col:=s0.col+1 } (bs,some bo,cap) mU mV:=⟨hsk,rfl,rfl,hi3.hM,hi3.hU,hi3.hV⟩
     refine aJ (({ s1 with row:=s0.row,col:=s0.col+1 },(bs,some bo,cap),mU,mV)) (ok2) (by (simp only []; omega)) Ah (.keep Ak (.keep Ak (.keep Ak (.keep Ak (.keep Ak (.keep Ak (.keep Ak (.keep Ak (.keep Ak (.nil))))))))))
    ·have hsg:=fun e=>h0 (hza.1 e)
     by_cases hneg:s1.M s0.row s0.col<0
     ·have hsl:=yb.2 hneg
      have hNg:=rs b12 r c (bs,some bo,cap) mU mV s1.M s1.U s1.V s0.row S S hi3.hM hi3.hU hi3.hV hrr hl1.m hl1.u hl1.v
      have hall:=hi3.all.negF (t:=s0.row) hrr (by rw [hi3.er]; exact Nat.le_refl _) (by rw [hi3.ec]; exact hneg)
      unfold kB at hNg
      unfold bF at hNg ⊢
      try dsimp only at hNg ⊢
      refine ah (ah (aj (Am Z (Al (ab Z) (Al (ak 8 Z Z Z) (Al (sF S (aS Z Z)) (Ap (aa (aA Z ?_)))))))))
      refine aU (av (av (aC (aa (ah (ah (aj (Am Z (Al (ao Z) ?_)))))))))
      refine Al (ab Z) (Al (ab Z) (Al (aw 0 0 2 Z Z Z Z Z) (Am Z (Al (an Z Z S) (Al (aI 1 Z Z S) (Am Z (Al (an Z Z S) (Al (bd 2 Z Z (bC S) S) ?_))))))))
      refine Al (am (cn _) Z ⟨W,Aq⟩) ?_
      refine Al (sF (by assumption) (cj Z Z)) (Ap (aa (aA Z (au (aa (ah (ah (aj (Am Z ?_)))))))))
      refine Al (ao Z) (Al (ab Z) (Al (ab Z) (Al (aw 0 0 2 Z Z Z Z Z) (Am Z (Al (an Z Z S) (Al (aI 1 Z Z S) (Am Z (Al (an Z Z S) (Al (bd 2 Z Z (bC S) S) ?_)))))))))
      refine Al (am (cn _) Z ⟨W,Aq⟩) ?_
      refine Al (sT (by assumption) (aS Z Z)) (Ap (aa (az Z (aj (Am Z (Am Z ?_))))))
      refine fR (Kp := [_,_]) hNg Z ⟨W,W,Aq⟩ (List.Perm.refl _) Z Z (fun _ => ?_)
      refine Ap (aa (ah (ah (aj (An Z (Ap (aa (ar (bV (Γ' := [(1,_),(2,_),(3,_),(4,_),(5,_),(10,_)]) Ag (SubM.refl _) ?_)))))))))
      refine bv (σ:=Nat × SS × S3 × S3 × S3) (Γk := [(1,_),(2,_),(3,_),(4,_),(5,_)]) Ag (fun u => [(10,one (.int .i64 (u.1:Nat)))]) (fun u M0=>(((((((M0.set 0 (aX b12 79 9 (lB (bF r c u.2.2.1) (bF r r u.2.2.2.1) (bF r r u.2.2.2.2)))).set 1 (bO u.2.2.1.2.1 u.2.2.1.2.2 r c u.2.2.1.1)).set 2 (bg c u.2.2.1.1 u.2.1.M)).set 3 (bO u.2.2.2.1.2.1 u.2.2.2.1.2.2 r r u.2.2.2.1.1)).set 4 (bg r u.2.2.2.1.1 u.2.1.U)).set 5 (bO u.2.2.2.2.2.1 u.2.2.2.2.2.2 r r u.2.2.2.2.1)).set 6 (bg r u.2.2.2.2.1 u.2.1.V))) (fun u=>u.1≤s0.row∧WkS r c A s0.row s0.col u.2.1 u.2.2.1 u.2.2.2.1 u.2.2.2.2∧0<u.2.1.M s0.row s0.col∧(∀ k,k<u.1→0≤u.2.1.M k s0.col∧u.2.1.M k s0.col<u.2.1.M s0.row s0.col) ∧ ∀ k,s0.row<k→k<r→u.2.1.M k s0.col=0) (fun u=>s0.row - u.1) ((0, { s1 with M:=cN s0.row s1.M,U:=cN s0.row s1.U,V:=gG s0.row s1.V },(bs,some bo,cap),mU,mV)) (⟨Nat.zero_le _,⟨hall,hi3.er,hi3.ec,hi3.hM,hi3.hU,hi3.hV⟩,x8 hneg,fun k hk=>absurd hk (Nat.not_lt_zero k),x9 hi4⟩) Ah (.keep Ak (.keep Ak (.keep Ak (.keep Ak (.keep Ak (.keep Ak (.keep Ak (.keep Ak (.keep Ak (.nil)))))))))) (fun u hu => ?_)
      refine bK (Γ' := [(10,_),(1,_),(2,_),(3,_),(4,_),(5,_)]) (M' := [_,_,_,_,_,_,_,_,_]) Z Z ?_
      obtain ⟨g,s3,kM,kU,kV⟩:=u
      obtain ⟨hg1,hg2,hg3,hg4,hg5⟩:=hu
      dsimp only at hg1 hg2 hg3 hg4 hg5 ⊢
      have hl3:=hg2.all.stL hc
      by_cases hg:g<s0.row
      ·obtain ⟨bs2,bo2,cap2,rfl,hbl2⟩:=hg2.hM.some S
       have hAdd:=lf b12 r c (bs2,some bo2,cap2) kU kV s3.M s3.U s3.V g s0.row (s3.M g s0.col / s3.M s0.row s0.col) S S hg2.hM hg2.hU hg2.hV S hrr S (gm (hl3.m _ _) _) hl3.m hl3.u hl3.v
       have hfl:=nR (s3.M g s0.col) (s3.M s0.row s0.col) (hl3.m _ _) (hl3.m _ _) hg3
       have hsq:=bA (gm (hl3.m g s0.col) (s3.M s0.row s0.col))
       have hall:=hg2.all.subF (k:=g) (t:=s0.row) S hrr S (by rw [hg2.er]; exact Nat.le_refl _) (by rw [hg2.ec]; omega)
       rw [hg2.ec] at hall
       have hms:=li (x:=s3.M g s0.col) (p:=s3.M s0.row s0.col) S
       unfold kB at hAdd
       unfold bF at hAdd ⊢
       try dsimp only at hbl2 hAdd ⊢
       refine ah (ah (aj (Am Z (Am Z (Al (sT S (aS Z Z)) (Ap (aa (az Z (au ?_)))))))))
       refine aa (ah (ar (n9 16 27 aV X Y (Am Z (Am Z (Am Z (Am Z (Al (ao Z) (Al (ab Z) ?_)))))))))
       refine Al (ab Z) (Al (aw 0 0 2 Z Z Z Z Z) (Am Z (Al (an Z Z S) (Al (aI 1 Z Z S) (Am Z (Al (an Z Z S) (Al (bd 2 Z Z (bC S) S) (Am Z (Al (ao Z) ?_)))))))))
       refine Al (ab Z) (Al (ab Z) (Al (aw 0 0 2 Z Z Z Z Z) (Am Z (Al (an Z Z S) (Al (aI 1 Z Z S) (Am Z (Al (an Z Z S) (Al (bd 2 Z Z (bC S) S) ?_))))))))
       refine Al (am (hfl) Z ⟨W,W,Aq⟩) ?_
       refine Al (am (e8 _ (by assumption)) Z ⟨W,Aq⟩) ?_
       refine Ap ?_
       refine fR (Kp := [_,_]) hAdd Z ⟨W,W,W,W,Aq⟩ (List.Perm.refl _) Z Z (fun _ => ?_)
       refine Ap (aD (aa (aj (Am Z (Al (bn _ 1 Z Z S) (An Z (Ap ?_)))))))
       have ok3':WkS r c A s0.row s0.col { s3 with M:=bW g s0.row (s3.M g s0.col / s3.M s0.row s0.col) s3.M,U:=bW g s0.row (s3.M g s0.col / s3.M s0.row s0.col) s3.U,V:=eQ s0.row g (s3.M g s0.col / s3.M s0.row s0.col) s3.V,col:=s0.col } (bs2,some bo2,cap2) kU kV:=⟨hall,hg2.er,rfl,hg2.hM,hg2.hU,hg2.hV⟩
       have okf:=wV hg hg3 hg4 hms
       refine aJ ((g+1, { s3 with M:=bW g s0.row (s3.M g s0.col / s3.M s0.row s0.col) s3.M,U:=bW g s0.row (s3.M g s0.col / s3.M s0.row s0.col) s3.U,V:=eQ s0.row g (s3.M g s0.col / s3.M s0.row s0.col) s3.V,col:=s0.col },(bs2,some bo2,cap2),kU,kV)) (⟨hg,ok3',wU hg hg3,okf,wW hg hg5⟩) S Ah (.keep Ak (.keep Ak (.keep Ak (.keep Ak (.keep Ak (.keep Ak (.keep Ak (.keep Ak (.keep Ak (.nil))))))))))
      ·have hge:g=s0.row:=by omega
       have hnx:=hg2.all.nextF hr (by rw [hg2.er]; exact hrr) (by rw [hg2.ec]; exact hcc) (by rw [hg2.er,hg2.ec]; exact hg3) (by rw [hg2.er,hg2.ec]; exact fun k hk=>hg4 k S) (by rw [hg2.er,hg2.ec]; exact hg5)
       rw [hg2.er,hg2.ec] at hnx
       refine ah (ah (aj (Am Z (Am Z (Al (sF S (aS Z Z)) (Ap (aa (aA Z (aU ?_)))))))))
       refine av (av (aC (aa (aj (Am Z (Al (bn _ 1 Z Z S) (An Z (Ap (aD ?_)))))))))
       refine aa (aj (Am Z (Al (bn _ 1 Z Z S) (An Z (Ap ?_)))))
       refine aJ (({ s3 with row:=s0.row+1,col:=s0.col+1 },kM,kU,kV)) (⟨hnx,rfl,rfl,hg2.hM,hg2.hU,hg2.hV⟩) (by (simp only []; omega)) Ah (.keep Ak (.keep Ak (.keep Ak (.keep Ak (.keep Ak (.keep Ak (.keep Ak (.keep Ak (.keep Ak (.nil))))))))))
     ·have hsl : ¬ de (s1.M s0.row s0.col)<0:=fun e=>hneg (yb.1 e)
      unfold bF
      try dsimp only
      refine ah (ah (aj (Am Z (Al (ab Z) (Al (ak 8 Z Z Z) (Al (sF S (aS Z Z)) (Ap (aa (aA Z ?_)))))))))
      refine aU (av (av (aC (aa (ah (ah (aj (Am Z (Al (ao Z) ?_)))))))))
      refine Al (ab Z) (Al (ab Z) (Al (aw 0 0 2 Z Z Z Z Z) (Am Z (Al (an Z Z S) (Al (aI 1 Z Z S) (Am Z (Al (an Z Z S) (Al (bd 2 Z Z (bC S) S) ?_))))))))
      refine Al (am (cn _) Z ⟨W,Aq⟩) ?_
      refine Al (sF (by assumption) (cj Z Z)) (Ap (aa (aA Z (au (aa (ah (ah (aj (Am Z ?_)))))))))
      refine Al (ao Z) (Al (ab Z) (Al (ab Z) (Al (aw 0 0 2 Z Z Z Z Z) (Am Z (Al (an Z Z S) (Al (aI 1 Z Z S) (Am Z (Al (an Z Z S) (Al (bd 2 Z Z (bC S) S) ?_)))))))))
      refine Al (am (cn _) Z ⟨W,Aq⟩) ?_
      refine Al (sF (by assumption) (aS Z Z)) (Ap (aa (aA Z (au (aa (ah (ah (aj (An Z ?_)))))))))
      refine Ap (aa (ar (bV (Γ' := [(1,_),(2,_),(3,_),(4,_),(5,_),(10,_)]) Ag (SubM.refl _) ?_)))
      refine bv (σ:=Nat × SS × S3 × S3 × S3) (Γk := [(1,_),(2,_),(3,_),(4,_),(5,_)]) Ag (fun u => [(10,one (.int .i64 (u.1:Nat)))]) (fun u M0=>(((((((M0.set 0 (aX b12 79 9 (lB (bF r c u.2.2.1) (bF r r u.2.2.2.1) (bF r r u.2.2.2.2)))).set 1 (bO u.2.2.1.2.1 u.2.2.1.2.2 r c u.2.2.1.1)).set 2 (bg c u.2.2.1.1 u.2.1.M)).set 3 (bO u.2.2.2.1.2.1 u.2.2.2.1.2.2 r r u.2.2.2.1.1)).set 4 (bg r u.2.2.2.1.1 u.2.1.U)).set 5 (bO u.2.2.2.2.2.1 u.2.2.2.2.2.2 r r u.2.2.2.2.1)).set 6 (bg r u.2.2.2.2.1 u.2.1.V))) (fun u=>u.1≤s0.row∧WkS r c A s0.row s0.col u.2.1 u.2.2.1 u.2.2.2.1 u.2.2.2.2∧0<u.2.1.M s0.row s0.col∧(∀ k,k<u.1→0≤u.2.1.M k s0.col∧u.2.1.M k s0.col<u.2.1.M s0.row s0.col) ∧ ∀ k,s0.row<k→k<r→u.2.1.M k s0.col=0) (fun u=>s0.row - u.1) ((0,s1,(bs,some bo,cap),mU,mV)) (⟨Nat.zero_le _,hi3,xG h0 hneg,fun k hk=>absurd hk (Nat.not_lt_zero k),hi4⟩) Ah (.keep Ak (.keep Ak (.keep Ak (.keep Ak (.keep Ak (.keep Ak (.keep Ak (.keep Ak (.keep Ak (.nil)))))))))) (fun u hu => ?_)
      refine bK (Γ' := [(10,_),(1,_),(2,_),(3,_),(4,_),(5,_)]) (M' := [_,_,_,_,_,_,_,_,_]) Z Z ?_
      obtain ⟨g,s3,kM,kU,kV⟩:=u
      obtain ⟨hg1,hg2,hg3,hg4,hg5⟩:=hu
      dsimp only at hg1 hg2 hg3 hg4 hg5 ⊢
      have hl3:=hg2.all.stL hc
      by_cases hg:g<s0.row
      ·obtain ⟨bs2,bo2,cap2,rfl,hbl2⟩:=hg2.hM.some S
       have hAdd:=lf b12 r c (bs2,some bo2,cap2) kU kV s3.M s3.U s3.V g s0.row (s3.M g s0.col / s3.M s0.row s0.col) S S hg2.hM hg2.hU hg2.hV S hrr S (gm (hl3.m _ _) _) hl3.m hl3.u hl3.v
       have hfl:=nR (s3.M g s0.col) (s3.M s0.row s0.col) (hl3.m _ _) (hl3.m _ _) hg3
       have hsq:=bA (gm (hl3.m g s0.col) (s3.M s0.row s0.col))
       have hall:=hg2.all.subF (k:=g) (t:=s0.row) S hrr S (by rw [hg2.er]; exact Nat.le_refl _) (by rw [hg2.ec]; omega)
       rw [hg2.ec] at hall
       have hms:=li (x:=s3.M g s0.col) (p:=s3.M s0.row s0.col) S
       unfold kB at hAdd
       unfold bF at hAdd ⊢
       try dsimp only at hbl2 hAdd ⊢
       refine ah (ah (aj (Am Z (Am Z (Al (sT S (aS Z Z)) (Ap (aa (az Z (au ?_)))))))))
       refine aa (ah (ar (n9 16 27 aV X Y (Am Z (Am Z (Am Z (Am Z (Al (ao Z) (Al (ab Z) ?_)))))))))
       refine Al (ab Z) (Al (aw 0 0 2 Z Z Z Z Z) (Am Z (Al (an Z Z S) (Al (aI 1 Z Z S) (Am Z (Al (an Z Z S) (Al (bd 2 Z Z (bC S) S) (Am Z (Al (ao Z) ?_)))))))))
       refine Al (ab Z) (Al (ab Z) (Al (aw 0 0 2 Z Z Z Z Z) (Am Z (Al (an Z Z S) (Al (aI 1 Z Z S) (Am Z (Al (an Z Z S) (Al (bd 2 Z Z (bC S) S) ?_))))))))
       refine Al (am (hfl) Z ⟨W,W,Aq⟩) ?_
       refine Al (am (e8 _ (by assumption)) Z ⟨W,Aq⟩) ?_
       refine Ap ?_
       refine fR (Kp := [_,_]) hAdd Z ⟨W,W,W,W,Aq⟩ (List.Perm.refl _) Z Z (fun _ => ?_)
       refine Ap (aD (aa (aj (Am Z (Al (bn _ 1 Z Z S) (An Z (Ap ?_)))))))
       have ok3':WkS r c A s0.row s0.col { s3 with M:=bW g s0.row (s3.M g s0.col / s3.M s0.row s0.col) s3.M,U:=bW g s0.row (s3.M g s0.col / s3.M s0.row s0.col) s3.U,V:=eQ s0.row g (s3.M g s0.col / s3.M s0.row s0.col) s3.V,col:=s0.col } (bs2,some bo2,cap2) kU kV:=⟨hall,hg2.er,rfl,hg2.hM,hg2.hU,hg2.hV⟩
       have okf:=wV hg hg3 hg4 hms
       refine aJ ((g+1, { s3 with M:=bW g s0.row (s3.M g s0.col / s3.M s0.row s0.col) s3.M,U:=bW g s0.row (s3.M g s0.col / s3.M s0.row s0.col) s3.U,V:=eQ s0.row g (s3.M g s0.col / s3.M s0.row s0.col) s3.V,col:=s0.col },(bs2,some bo2,cap2),kU,kV)) (⟨hg,ok3',wU hg hg3,okf,wW hg hg5⟩) S Ah (.keep Ak (.keep Ak (.keep Ak (.keep Ak (.keep Ak (.keep Ak (.keep Ak (.keep Ak (.keep Ak (.nil))))))))))
      ·have hge:g=s0.row:=by omega
       have hnx:=hg2.all.nextF hr (by rw [hg2.er]; exact hrr) (by rw [hg2.ec]; exact hcc) (by rw [hg2.er,hg2.ec]; exact hg3) (by rw [hg2.er,hg2.ec]; exact fun k hk=>hg4 k S) (by rw [hg2.er,hg2.ec]; exact hg5)
       rw [hg2.er,hg2.ec] at hnx
       refine ah (ah (aj (Am Z (Am Z (Al (sF S (aS Z Z)) (Ap (aa (aA Z (aU ?_)))))))))
       refine av (av (aC (aa (aj (Am Z (Al (bn _ 1 Z Z S) (An Z (Ap (aD ?_)))))))))
       refine aa (aj (Am Z (Al (bn _ 1 Z Z S) (An Z (Ap ?_)))))
       refine aJ (({ s3 with row:=s0.row+1,col:=s0.col+1 },kM,kU,kV)) (⟨hnx,rfl,rfl,hg2.hM,hg2.hU,hg2.hV⟩) (by (simp only []; omega)) Ah (.keep Ak (.keep Ak (.keep Ak (.keep Ak (.keep Ak (.keep Ak (.keep Ak (.keep Ak (.keep Ak (.nil))))))))))
  ·refine ah (ah (aj (Am Z (Al (ab Z) (Al (ak 8 Z Z Z) (Al (sT S (aS Z Z)) (Am Z (Ao (ae Z) (Ao (ab Z) ?_)))))))))
   refine Ao (ak 8 Z Z Z) (Ao (sF S (aS Z Z)) (Al (aE Z Z) (Ap (aa (aA Z (aU (av (av (aC ?_)))))))))
   refine aa (ah (aZ 13 aV X Y (Am Z (Al (ao Z) (Al (ab Z) (Al (ak 0 Z Z Z) (Am Z (Al (ao Z) (Al (ab Z) ?_)))))))))
   refine Al (ak 0 Z Z Z) (Am Z (Al (ao Z) (Al (ab Z) (Al (ak 0 Z Z Z) (stB Z Z Z (BuildK.cons Z Z Z (BuildK.cons Z Z Z (BuildK.cons Z Z Z (BuildK.nil ?_)))))))))
   refine Ap (aW 7 Z Z Z Z (Ap (aa (aG (vy hx.hM hx.hU hx.hV ?_)))))
   exact aP Tryz.results23 (.cellW 1 Z Z (qF hx.all (decide_eq_true S)))
 ·refine ah (ah (aj (Am Z (Al (ab Z) (Al (ak 8 Z Z Z) (Al (sF S (aS Z Z)) (Am Z (sn0 Z Z Z Z Z (sn0 Z Z Z Z Z ?_)))))))))
  refine sn0 Z Z Z Z Z (sn0 Z Z Z Z Z (Al (ay Z Z) (Ap (aa (aA Z (aU (av (av (aC ?_)))))))))
  refine aa (ah (aZ 13 aV X Y (Am Z (Al (ao Z) (Al (ab Z) (Al (ak 0 Z Z Z) (Am Z (Al (ao Z) (Al (ab Z) ?_)))))))))
  refine Al (ak 0 Z Z Z) (Am Z (Al (ao Z) (Al (ab Z) (Al (ak 0 Z Z Z) (stB Z Z Z (BuildK.cons Z Z Z (BuildK.cons Z Z Z (BuildK.cons Z Z Z (BuildK.nil ?_)))))))))
  refine Ap (aW 7 Z Z Z Z (Ap (aa (aG (vy hx.hM hx.hU hx.hV ?_)))))
  exact aP Tryz.results23 (.cellW 1 Z Z (qF hx.all (decide_eq_true S)))
end Tor
end
section
namespace Tor
open Go Go.RowKit Go.Proofs
theorem tT {r c:Nat} {A:Nat→Nat→Int} {s s':SS} (h:AllS r c A s) (hf:cR r c s=true) (h':AllS r c A s') (hf':cR r c s'=true):tab r c s.M=tab r c s'.M :=
 rx ((h.endH hf).same (h'.endH hf') h.eqs.ua h'.eqs.ua h.eqs.vu h'.eqs.vu)
theorem xH {r c i j:Nat} {F G:Nat→Nat→Int} (h:tab r c F=tab r c G) (hi:i<r) (hj:j<c):F i j=G i j:=by
 have h1:(tab r c F)[i]? = (tab r c G)[i]? := by rw [h]
 unfold tab at h1
 rw [List.getElem?_map,List.getElem?_map,List.getElem?_range hi] at h1
 have h2:((List.range c).map (F i))[j]? = ((List.range c).map (G i))[j]? := by
  have:=Option.some.inj h1
  exact congrArg (fun l=>l[j]?) this
 rw [List.getElem?_map,List.getElem?_map,List.getElem?_range hj] at h2
 exact Option.some.inj h2
theorem wH {r c:Nat} {A:Nat→Nat→Int} {s:SS} (h:AllS r c A s) (hf:cR r c s=true):VT.le (vz r c A) (bG 9 [(0, .agg 3,bp r c s.M)]):=fun v k ⟨s',⟨h',hf'⟩,hp⟩=>by
 have e:=tT h' hf' h hf
 refine (ej (cs' := [(0, .agg 3,bp r c s.M)]) fun q hq => ?_:VT.le (mO (bp r c s'.M) (bp r r s'.U) (bp r r s'.V)) _) v k hp
 cases List.mem_singleton.1 hq
 exact ⟨_,bE 0 Z,kn fun i j hi hj=>xH e hi hj⟩
attribute [local irreducible] J PJ aQ one slT cA bG bZ exT cE eP aX a8 slV VT.le Ret bS
attribute [local irreducible] bX bm bp
set_option maxRecDepth 100000 in
theorem nf (r c:Nat) (l:List Int):Ok Tryz.prog 6 [lg r c l] (one (.bool true)):=by
 have hr:r % 5≤4:=by omega
 have hc:c % 5≤4:=by omega
 have hm:=tS r c l
 have hall:=vr r c l
 have hb:=vq c l
 unfold lg at hm ⊢
 generalize r % 5=R at *
 generalize c % 5=C at *
 generalize nS c l=A at *
 have hS : ∀ t,StL R C (bN R C t (bT A)):=fun t=>(hall t).stL hc
 have hmA : ∀ i j,cx (A i j):=fun i j=>(hS 0).m i j
 have hs:=qE
 obtain ⟨T,hT,hT1,hT2⟩:=xF hr hc hb
 have c1:=oZ R C A S S T S hT1 hT2 hS
 have p1:=lh R C A S S
 have k1:=kA R C A (bT A) (T:Nat) S S S hS
 rw [Int.toNat_natCast,hT1] at k1
 have hal:=hall T
 have r1:=sy hal hr hc hmA hT1
 have ck:=sB hal hr hc hmA hT1
 have fo:=(vA R C A hr hc hb).le (fg _) (wH hal hT1)
 have sm:=gY R C (bN R C T (bT A)).M S
 refine Ok.enter Tryz.func6 Z Tryz.ntmps6 Z (fun w O => ?_)
 by_cases hT0:T=0
 ·refine ah (aj ?_)
  refine aY Z Z (ltN Z) (fun b1 => ?_)
  refine An Z (Ap (aa (ah (aj (Al (am (hs) Z trivial) (An Z (Ap (aa (ah ?_)))))))))
  refine aj (Al (aL 0 Z Z) ?_)
  refine Al (am (hm) Z ⟨W,Aq⟩) ?_
  refine a7 (T:=29) Z Z Z (fun b4 => ?_)
  refine jW 0 Z Z Z Z (Ap (aa (ah (aj (Al (ak 0 Z Z Z) ?_)))))
  refine Al (am (c1) Z ⟨W,Aq⟩) ?_
  refine An Z (Ap (aa (ah (ah (aj (Am Z (Al (sF S (aS Z Z)) (Am Z (Ao (ae Z) ?_)))))))))
  refine Ao (sF S (dS Z Z)) (Al (ay Z Z) (Ap (aa (aA Z (au (aa (ah (aj (Al (ak 0 Z Z Z) ?_)))))))))
  refine Al (am (p1) Z ⟨W,Aq⟩) ?_
  refine Am Z ?_
  refine Al (am (k1) Z ⟨W,W,Aq⟩) ?_
  refine a7 (T:=32) Z Z Z (fun b6 => ?_)
  refine aW 0 Z Z Z Z (Ap (aa (ah (aj (Al (aL 0 Z Z) ?_)))))
  refine Al (am (r1) Z ⟨W,Aq⟩) ?_
  refine Am Z (Al (aN Z Z) (Al (aN Z Z) ?_))
  refine a7 (T:=43) Z Z Z (fun b7 => ?_)
  refine aW 0 Z Z Z Z (An Z (Ap (aa (ah (ah (aZ 22 aV X Y (Al (ab Z) (Al (ak 1 Z Z Z) (Al (bx Z) ?_)))))))))
  refine Am Z (Ao (ae Z) (Ao (sF S (dy Z Z)) (Al (ay Z Z) (Am Z (Ao (ak 2 Z Z Z) (Ao (aL 0 Z Z) ?_))))))
  refine Ao (am (ck) Z ⟨W,W,Aq⟩) ?_
  refine Ao (bx Z) (Al (ay Z Z) (Am Z (Ao (ab Z) (Ao (ak 0 Z Z Z) (Ao (ak 2 Z Z Z) ?_)))))
  refine Ao (am (fo) Z ⟨W,Aq⟩) ?_
  refine Ao (rB Z Z) ?_
  refine Ao (am (sm) Z ⟨W,W,Aq⟩) ?_
  refine Ao (bx Z) (Al (ay Z Z) (Ap (Ap (aa (aA Z (au (aa (ah (ah ?_)))))))))
  refine aj (Am Z (Al (sT S (cj Z Z)) (Ap (aa (az Z (ah (aj (Am Z (An Z ?_)))))))))
  refine Ap (aa (aG (aB ?_)))
  refine aP Tryz.results6 (.tmp Z W)
 ·have hf1:=hT2 (T - 1) S
  have k2:=kA R C A (bT A) ((T - 1:Nat):Int) S S S hS
  rw [Int.toNat_natCast,hf1] at k2
  have r2:=qD (hall (T - 1)) hr hc hmA hf1
  have e1:(T:Int) - 1=((T - 1:Nat):Int):=by omega
  refine ah (aj ?_)
  refine aY Z Z (ltN Z) (fun b1 => ?_)
  refine An Z (Ap (aa (ah (aj (Al (am (hs) Z trivial) (An Z (Ap (aa (ah ?_)))))))))
  refine aj (Al (aL 0 Z Z) ?_)
  refine Al (am (hm) Z ⟨W,Aq⟩) ?_
  refine a7 (T:=29) Z Z Z (fun b4 => ?_)
  refine jW 0 Z Z Z Z (Ap (aa (ah (aj (Al (ak 0 Z Z Z) ?_)))))
  refine Al (am (c1) Z ⟨W,Aq⟩) ?_
  refine An Z (Ap (aa (ah (ah (aj (Am Z (Al (sF S (aS Z Z)) (Am Z (Ao (ae Z) ?_)))))))))
  refine Ao (sF S (dS Z Z)) (Al (ay Z Z) (Ap (aa (aA Z (au (aa (ah (aj (Al (ak 0 Z Z Z) ?_)))))))))
  refine Al (am (p1) Z ⟨W,Aq⟩) ?_
  refine Am Z ?_
  refine Al (am (k1) Z ⟨W,W,Aq⟩) ?_
  refine a7 (T:=32) Z Z Z (fun b6 => ?_)
  refine aW 0 Z Z Z Z (Ap (aa (ah (aj (Al (aL 0 Z Z) ?_)))))
  refine Al (am (r1) Z ⟨W,Aq⟩) ?_
  refine Am Z (Al (aN Z Z) (Al (aN Z Z) ?_))
  refine a7 (T:=43) Z Z Z (fun b7 => ?_)
  refine aW 0 Z Z Z Z (An Z (Ap (aa (ah (ah (aZ 22 aV X Y (Al (ab Z) (Al (ak 1 Z Z Z) (Al (bx Z) ?_)))))))))
  refine Am Z (Ao (ae Z) (Ao (sF S (dy Z Z)) (Al (ay Z Z) (Am Z (Ao (ak 2 Z Z Z) (Ao (aL 0 Z Z) ?_))))))
  refine Ao (am (ck) Z ⟨W,W,Aq⟩) ?_
  refine Ao (bx Z) (Al (ay Z Z) (Am Z (Ao (ab Z) (Ao (ak 0 Z Z Z) (Ao (ak 2 Z Z Z) ?_)))))
  refine Ao (am (fo) Z ⟨W,Aq⟩) ?_
  refine Ao (rB Z Z) ?_
  refine Ao (am (sm) Z ⟨W,W,Aq⟩) ?_
  refine Ao (bx Z) (Al (ay Z Z) (Ap (Ap (aa (aA Z (au (aa (ah (ah ?_)))))))))
  refine aj (Am Z (Al (sF S (cj Z Z)) (Ap (aa (aA Z (au (aa (ah (aj ?_)))))))))
  refine Al (ak 2 Z Z Z) ?_
  refine Al (am (p1) Z ⟨W,Aq⟩) ?_
  refine Am Z (Al (dt _ 1 Z Z S S) ?_)
  refine Al (am (k2) Z ⟨W,W,Aq⟩) ?_
  refine a7 (T:=32) Z Z Z (fun b9 => ?_)
  refine aW 0 Z Z Z Z (Ap (aa (ah (aj (Al (aL 0 Z Z) ?_)))))
  refine Al (am (r2) Z ⟨W,Aq⟩) ?_
  refine Am Z (Al (aN Z Z) (Al (aN Z Z) ?_))
  refine a7 (T:=43) Z Z Z (fun b10 => ?_)
  refine aW 0 Z Z Z Z (An Z (Ap (aa (ah (aj (Am Z (Am Z (Ao (ab Z) (Ao (ak 1 Z Z Z) ?_)))))))))
  refine Ao (bx Z) (Al (aE Z Z) (Am Z (Ao (ae Z) (Ao (sT S (cj Z Z)) (Al (aE Z Z) (An Z (Ap (aa (aG ?_)))))))))
  refine aP Tryz.results6 (.tmp Z W)
end Tor
end
section
set_option maxRecDepth 100000
namespace Tor
open Go Go.RowKit Go.ChangeShapes Go.WideShapes Go.ChangeAt Go.Joins Go.Proofs
theorem wI {Ae:Type} {enc:TypeId × Value→Ae} {Af:World} {base:Nat} {v:Value} {d:DataW Ae} {ps:List MemPlace} (hval:Value.okWide Tryz.prog Af .any base 24 v) (hT:DataW.Trod enc Tryz.prog Af 0 (fun _=>true) true 24 v d ps) (hw : ∀ x∈DataW.weights Tryz.prog 24 d,x≤reachBytes) :
  ∃ (r:Nat) (c:Nat) (l:List Int),(lg r c l).p v (cC Af)∧(r:Int)≤IntKind.max .u8∧(c:Int)≤IntKind.max .u8∧(∀ x∈l,IntKind.min .i8≤x∧x≤IntKind.max .i8)∧True:=by
 obtain ⟨cs,rfl,h⟩:=vL 8 (ts := [5,5,22]) X (.inl ⟨_,Tryz.underlying24⟩) hval hT hw
 obtain ⟨c0,r0,rfl,h0,g0⟩:=h
 obtain ⟨c1,r1,rfl,h1,g1⟩:=g0
 obtain ⟨c2,r2,rfl,h2,g2⟩:=g1
 cases g2
 obtain ⟨r,rfl,b0⟩:=pG Tryz.underlying5 Z h0
 obtain ⟨c,rfl,b1⟩:=pG Tryz.underlying5 Z h1
 obtain ⟨l,k2,b2⟩:=sW Tryz.underlying22 Tryz.underlying25 X (of_decide_eq_true X) h2
 exact ⟨r,c,l,xO (φs := [one (.int .u8 r),one (.int .u8 c),kR .i8 l]) ⟨rfl,rfl,⟨rfl,rfl,⟨k2,vK k2,Aq⟩⟩⟩,b0,b1,b2,Aq⟩
end Tor
namespace Go.Proofs.YtamglpeiacmooaaGreat
open Go.ChangeShapes Go.WideShapes Go.ChangeAt Go.RowKit Go.Joins Tor
theorem stepFinishes_own:ownKnob Tryz.prog.godebug=none:=by kernel_rfl
theorem stepFinishes_laid:laidOutB Tryz.prog=true:=by kernel_rfl
set_option maxRecDepth 100000 in
theorem stepFinishes_lifted (os:Os) (started:os.Started) (Ae:Type) (enc:TypeId × Value→Ae) :
  ReturnsInHanded {} Tryz.checked os 6 .any (Rows.stepFinishesSpec.pre6 enc Tryz.prog Tryz.f6 Rows.stepFinishesRow.domain false) (Rows.stepFinishesSpec.post enc Tryz.prog Tryz.f6 false true false false):=by
 refine returnsInHanded_of_change_sized (C:=Tryz.checked) stepFinishes_own started X Tryz.func6
  (ChangeSpec.witness6 (enc:=enc) (C:=Tryz.checked) false ⟨#[], #[.agg #[.int .u8 0, .int .u8 0, .slice none 0 0]], []⟩ 8 X X X X) ?_
 intro Af base args ds gs before hval0 hW hcnd hsz0 _
 have hval : ∀ (j:Nat) t v,Tryz.f6.params[j]? = some t→args[j]? = some v→Value.okWide Tryz.prog Af .any base t v:=hval0
 have hsz:(DataW.weightsEach Tryz.prog (Tryz.f6.params.toList ++ Rows.stepFinishesSpec.plain.varTypes Tryz.prog) (ds ++ gs)).all (· ≤ reachBytes)=true:=hsz0
 have hW':=hW
 obtain ⟨p,q,hA0,hV,rfl,hfz,hnd⟩:=hW
 have hA:DataW.TrodAll enc Tryz.prog Af 0 (fun _=>true) true Tryz.f6.params.toList args.toList ds p:=hA0
 rw [Tryz.params6] at hA hval hsz
 obtain ⟨v0,d0,rfl,rfl,h0⟩:=trodAll_one hA
 obtain ⟨rfl,rfl⟩:=trodVars_none hV
 obtain ⟨r_0,c_0,l_0,x0,y0⟩:=wI (hval 0 24 _ Z Z) h0 (pH hsz 0 Z Z)
 refine (Ok.outside (Af:=Af) (args := #[v0]) (nf r_0 c_0 l_0) (And.intro x0 (trivial))).mono fun e W' ⟨v,he,hv,hw⟩ => ?_
 subst he
 have hv:v = .bool true:=hv
 subst hv
 refine ⟨_,rfl,_, [],_, [],_, [],hW',trodAll_mk1 (shut_bool Tryz.underlying4 true),trodAll_mk1
  (Below.trod stepFinishes_laid X (of_decide_eq_true X) h0 hw (fun x hx=>by simpa using hW'.lt x (by simp only [List.mem_append] at hx ⊢; simp [hx]))),rfl,hw.frame _,fun h=>by cases h⟩
theorem stepFinishes_holds:Rows.StepFinishesSaid :=
 OpenClaim.holds_of_wide 6 Tryz.f6 Z Z Z Z Z Z Z ⟨rfl,rfl,rfl,rfl,rfl⟩ Z Z Z Z Z X Tryz.func6 X
  (of_decide_eq_true X) (by unfold Func.isWrapper;first | (rw [if_pos H]; kernel_rfl) | (rw [if_neg H]; exact ⟨rfl,rfl⟩))
  (fun os started Ae enc _=>stepFinishes_lifted os started Ae enc)
end Go.Proofs.YtamglpeiacmooaaGreat
namespace Tor
end Tor
end
