/-
  Proofs that laws of this seat return true for every input, and that their arguments read afterwards as before.
  No condition.
-/
import Derived.Test.YtbgloceimmbliaaGreatEC11
import Derived.Test.YtbgloceimmbliaaGreatRows
set_option maxHeartbeats 20000000
set_option linter.unusedVariables false
set_option linter.unusedSimpArgs false
section
namespace Tor
open Go Go.RowKit Go.Proofs
theorem tH {n:Nat} {F:Nat→Nat→Int} (hn:n≤4) (hF : ∀ i j,(F i j).natAbs≤9):(Lin.bU n F).natAbs≤104976:=by
 have h:=nv n F
 have h1:prN n (fun i=>eR n (F i))≤(4*(9*9))^n:=rk (n:=n) (fun i _=>Nat.le_trans (oS (B:=9) (hF i)) (Nat.mul_le_mul_right _ hn)) n (Nat.le_refl n)
 have h2:(4*(9*9))^n≤(4*(9*9))^4:=Nat.pow_le_pow_right S hn
 have h3:=Dn (Int.le_trans h (Int.ofNat_le.2 (Nat.le_trans h1 h2)))
 rcases Nat.lt_or_ge 104976 (Lin.bU n F).natAbs with h4 | h4
 ·have:=Nat.mul_le_mul h4 h4
  have e:(4*(9*9))^4=11019960576:=by decide
  rw [e] at h3
  have:104977*104977≤(Lin.bU n F).natAbs*(Lin.bU n F).natAbs:=this
  omega
 ·exact h4
theorem Aq {n:Nat} {F:Nat→Nat→Int} (hn:n≤4) (hF : ∀ i j,(F i j).natAbs≤9) (hd:Lin.bU n F≠0):l8 (Lin.bU n F)∧gh (Lin.bU n F)=2147483647:=by
 have h:=tH hn hF
 have h1:Lin.bU n F % 2147483647≠0:=by omega
 exact ⟨fun h2=>absurd h2 h1,by unfold gh;rw [if_neg h1]⟩
theorem wn (n:Nat) (F:Nat→Nat→Int) (b:Nat→Int) (hn:n≤4) (hF : ∀ i j,(F i j).natAbs≤34359738368) (hb : ∀ i,(b i).natAbs≤1152921504606846976) (hd:Lin.bU n F≠0) (hg:l8 (Lin.bU n F)) :
  Ok Tryz.prog 13 [bW n n F,bJ n b] (bv [dV n (jm n F b),one (.int .i64 0)]):=ix n F b hn hF hb hd hg
attribute [local irreducible] J PJ aK one slT bR bC bv exT cj eP aT aI slV VT.le Ret bL xO
attribute [local irreducible] aL cB bJ
end Tor
end
section
namespace Tor
open Go Go.RowKit Go.Proofs
def dgX (n:Nat) (F:Nat→Nat→Int) (b:Nat→Int) (i j:Nat):Int:=((dgR (gh (Lin.bU n F)) (nh (gh (Lin.bU n F)) n F b i j):Nat):Int)
theorem Ar {n i j:Nat} {F:Nat→Nat→Int} {b:Nat→Int} {pre:List (Nat→Int)} (hg:l8 (Lin.bU n F)) (h:gm (gh (Lin.bU n F)) n F b pre) (hi:i<pre.length) (hj:j<n):pre.getD i z0 j=dgX n F b i j:=by
 obtain ⟨G,hG⟩:=mK n F
 obtain ⟨R,hR,he⟩:=h
 have h1:=(B2 (b:=b) (ks _) hG (l9 hg) hR i j hj).2.2
 unfold dgX
 rw [h1,he]
 simp [List.getD,hi]
theorem mb (n k:Nat) (F:Nat→Nat→Int) (b:Nat→Int) (hn:n≤4) (hF : ∀ i j,(F i j).natAbs≤34359738368) (hb : ∀ i,(b i).natAbs≤1152921504606846976) (hd:Lin.bU n F≠0) (hg:l8 (Lin.bU n F)) (hk:k≤64) :
  Ok Tryz.prog 15 [bW n n F,bJ n b,one (.int .i64 (k:Nat))] (bv [slT .one k (fun i=>bJ n (dgX n F b i)),one (.int .u64 (gh (Lin.bU n F):Nat)),one (.int .i64 0)]) :=
 (jn n k F b hn hF hb hd hg hk).le (de _) (tO fun pre=>qp fun h=>tF h.2 fun i j hi hj=>Ar hg h.1 (by rw [h.2]; exact hi) hj)
end Tor
end
section
namespace Tor
open Go Go.RowKit Go.Proofs
instance {n:Nat} {f:Nat→Int} : Flat (bJ n f) .one:=by unfold bJ;infer_instance
attribute [local irreducible] J PJ aK one slT bR bC bv exT cj eP aT aI slV VT.le Ret bL
attribute [local irreducible] aL dC
theorem u5 (r c:Nat) (F:Nat→Nat→Int) (k:Int) (hr0:r≤1048576) (hc0:c≤1048576) (hF : ∀ i j,bm (F i j)) (hk:bm k):OkM Tryz.prog 29 [bW r c F,aL k] (kO r c) (fun s => [iU s.1.2.1 s.1.2.2 r c s.1.1,fA c s.1.1 (fun i j=>F i j*k)]):=by
 unfold bW
 refine OkM.enter Tryz.func29 Y Tryz.ntmps29 Y (fun w O => ?_)
 refine ae (ai ?_)
 refine aV Y Y (ltN Y) (fun b2 => ?_)
 refine gL Y Y (ltN Y) (fun b3 => ?_)
 refine bD (T:=30) Y Y Y (fun b4 => ?_)
 refine Ep (aa (ae (ai (El (aj Y) (El (ak 2 Y Y Y) (El (aj Y) (El (ak 2 Y Y Y) ?_)))))))
 refine gw (ns _ _ (by assumption) (by assumption)) Y ⟨H,H,Er⟩ Y Y (fun s12 => ?_)
 refine bD (T:=30) Y Y Y (fun b5 => ?_)
 refine a4 0 Y Y Y Y (Ep (aa (ae (ae (ai (En Y (Ep (aa (au ?_)))))))))
 obtain ⟨⟨bs,sv1,cap1⟩,hlen,hsv⟩:=s12
 simp only at hlen hsv
 unfold kO
 dsimp only
 refine co (Γ' := [(2,_),(3,_),(4,_),(5,_),(6,_)]) Eg (SubM.refl _) ?_
 refine bB (σ:=Nat) (Γk := [(2,_),(3,_),(4,_),(5,_)]) Eg (fun i => [(6,one (.int .i64 (i:Nat)))]) (fun i M0=>(M0.set 2 (fA c bs (kA (fun i j=>F i j*k) i 0)))) (fun i=>i≤r) (fun i=>r - i) (0) (Nat.zero_le _) Eh (.keep Ek (.keep Ek (.keep (fU fun i j hi hj=>by simp [kA]) (.keep Ek (.keep Ek (.keep Ek (.nil))))))) (fun i hi => ?_)
 refine bQ (Γ' := [(6,_),(2,_),(3,_),(4,_),(5,_)]) (M' := [_,_,_,_,_,_]) Y Y (ae (ae (ai (Em Y (El (aj Y) (El (ak 5 Y Y Y) (El (a6 Y Y) (Ep (aa ?_)))))))))
 refine nR Y (fun hc => ?_) (fun hc => ?_)
 ·obtain ⟨bo,rfl⟩:=gE hsv X
  refine az (aa (ae (au (ae (ai (En Y (Ep (aa (au ?_)))))))))
  refine co (Γ' := [(2,_),(3,_),(4,_),(5,_),(6,_),(7,_)]) Eg (SubM.refl _) ?_
  refine bB (σ:=Nat) (Γk := [(2,_),(3,_),(4,_),(5,_),(6,_)]) Eg (fun j => [(7,one (.int .i64 (j:Nat)))]) (fun j M0=>(M0.set 2 (fA c bs (kA (fun i j=>F i j*k) i j)))) (fun j=>j≤c) (fun j=>c - j) (0) (Nat.zero_le _) Eh (.keep Ek (.keep Ek (.keep Ek (.keep Ek (.keep Ek (.keep Ek (.nil))))))) (fun j hj => ?_)
  refine bQ (Γ' := [(7,_),(2,_),(3,_),(4,_),(5,_),(6,_)]) (M' := [_,_,_,_,_,_]) Y Y (ae (ae (ai (Em Y (El (aj Y) (El (ak 5 Y Y Y) (El (a6 Y Y) (Ep (aa ?_)))))))))
  refine nR Y (fun hc2 => ?_) (fun hc2 => ?_)
  ·refine az (aa (ae (au (a7 16 aZ Z S (El (aj Y) (El (ak 0 Y Y Y) (Em Y ?_)))))))
   (refine El (ao Y Y ?_) ?_;omega)
   (refine El (bg 1 Y Y ?_) ?_;omega)
   refine Em Y (El (aj Y) (El (ak 5 Y Y Y) (Em Y ?_)))
   (refine El (aC Y Y ?_) ?_;omega)
   refine El (aO Y) (Em Y ?_)
   (refine El (aC Y Y ?_) ?_;omega)
   refine El (aO Y) (El (ak 4 Y Y Y) ?_)
   refine El (am (ef _ _ (hF _ _) (by assumption)) Y ⟨H,H,Er⟩) ?_
   refine Ep ?_
   (refine El (ao Y Y ?_) ?_;omega)
   (refine jG 2 Y Y Y (ui ?_) ?_ Y ?_;omega;omega)
   refine Ep (aE (aa (ai (Em Y (El (bK _ 1 Y Y X) (En Y (Ep ?_)))))))
   refine aP (j+1) X X Eh (.keep Ek (.keep Ek (.keep (w5 _ Y) (.keep Ek (.keep Ek (.keep Ek (.nil)))))))
  ·have hjm:j=c:=by omega
   subst hjm
   refine aY (av (av (aF (aE (aa (ai (Em Y (El (bK _ 1 Y Y X) (En Y ?_)))))))))
   refine Ep ?_
   refine aP (i+1) X X Eh (.keep Ek (.keep Ek (.keep (un) (.keep Ek (.keep Ek (.keep Ek (.nil)))))))
 ·have hin:i=r:=by omega
  subst hin
  refine aY (av (av (aF (aa (ae (ai (El (aN 0 Y Y) (a4 3 Y Y Y Y (Ep ?_)))))))))
  refine aa (aD ?_)
  exact jq ⟨(bs,sv1,cap1),hlen,hsv⟩ Tryz.results29 (.cellW 3 Y Y H) (.drop (.keep Ek (.keep (fU fun a b ha hb=>by simp [kA]; omega) (SubM.nilR _))))
theorem tI (r c:Nat) (F:Nat→Nat→Int) (hr0:r≤1048576) (hc0:c≤1048576) (hF : ∀ i j,bm (F i j)):OkM Tryz.prog 37 [bW r c F] (kO r c) (fun s => [iU s.1.2.1 s.1.2.2 r c s.1.1,fA c s.1.1 (fun i j=>F i j*1)]):=by
 have hs:=u5 r c F 1 hr0 hc0 hF kc
 unfold bW at hs ⊢
 refine OkM.enter Tryz.func37 Y Tryz.ntmps37 Y (fun w O => ?_)
 refine ae (ai ?_)
 refine aV Y Y (ltN Y) (fun b1 => ?_)
 refine bD (T:=30) Y Y Y (fun b2 => ?_)
 refine Ep (aa (ae (a7 2 aZ Z S (El (aN 1 Y Y) ?_))))
 refine El (am (gZ _ X X) Y ⟨H,Er⟩) ?_
 refine Ep ?_
 refine gw (hs) Y ⟨H,H,Er⟩ Y Y (fun s5 => ?_)
 refine a4 2 Y Y Y Y (Ep (aa (aD ?_)))
 exact jq s5 Tryz.results37 (.cellW 2 Y Y H) (.keep Ek (.keep Ek (SubM.nilR _)))
end Tor
end
section
set_option linter.unusedSectionVars false
namespace Tor
open Go Go.RowKit
section
variable {P:Program} {E:Env} {D:List Deferred} {Γ:Ctx} {M:Mem} {ops:Array Oper} {σ:Type} {ty:TypeId} {pos:String} {af:Array Edge} {gd:Option (Nat × Bool)} {d:Option Tmp}
def ny (h:Hp):RH:=fun b=>(h b).map fun x => .cells x.1 x.2.1 x.2.2
theorem mP {w:World} {b:Nat} {O:List Nat} (hO:b ∉ O) (hx : ∃ x,vw (raw w) b=some x):raw w b=ny (hid O (bZ w)) b ∧ ∃ x,hid O (bZ w) b=some x:=by
 obtain ⟨⟨c,T,f⟩,hx⟩:=hx
 have h1:hid O (bZ w) b=some (c,T,f):=el hO hx
 have h2:=e7 (w:=w) (b:=b) hx
 exact ⟨by unfold ny raw;rw [h1,h2]; rfl,_,h1⟩
def frM (B:Nat) (ψ:σ→VT) (Ms:σ→Mem):VT where
 p v h := ∃ s,(ψ s).p v (hid (aW (Ms s)) h)∧(∀ o∈Ms s,o.p (ny h) (hid (aW (Ms s)) h))∧(aW (Ms s)).Nodup ∧ ∀ b∈aW (Ms s),B≤b ∧ ∃ x,h b=some x
 mono:=fun {v h h'} Ef ⟨s,h1,h2,h3,h4⟩=>⟨s,(ψ s).mono (iH Ef) h1,fun o ho=>o.loc (fun b hb=>by
  obtain ⟨_,x,hx⟩:=h4 b (cG ho hb)
  unfold ny;rw [hx,Ef _ _ hx]) (iH Ef) (h2 o ho),h3,fun b hb=>⟨(h4 b hb).1,let ⟨x,hx⟩:=(h4 b hb).2;⟨x,Ef _ _ hx⟩⟩⟩
instance {B:Nat} {ψ:σ→VT} {Ms:σ→Mem} {L:Lay} [hF : ∀ s,Flat (ψ s) L]:Flat (frM B ψ Ms) L:=⟨fun v h ⟨s,h1,_⟩=>(hF s).ok v _ h1⟩
theorem As {f:FuncId} [hF:Fn P f] {xs:Array Operand} {ats:Array TypeId} {φs φs':List VT} {ψ:σ→VT} {Ms:σ→Mem} (B0:Nat) (hB0:B0=E.w0.heap.size) (h:OkM P f φs' ψ Ms) (hx:gK Γ xs.toList=some φs) (hle:iK φs φs')
  (hc : ∀ s g h,(∀ o∈Ms s,o.p g h) → ∀ b∈aW (Ms s), ∃ x,vw g b=some x):aK P E Γ M ⟨d, .call ⟨.value (.func f),xs,ats⟩,ty,pos,af,gd⟩ (frM B0 ψ Ms):=by
 subst hB0
 intro a w hb hf next Q hn
 have hp:=gp (a:=a) (h:=hv E M w) hx (fun x φ hx' he=>hf x φ (by simp [Op.operands,Call.operands]; exact .inr (by simpa using hx')) he)
 have hcall:=h w _ _ hb.ex (gr hle hp)
 unfold Oper.wp
 have hr:(execOp a.eval ⟨d, .call ⟨.value (.func f),xs,ats⟩,ty,pos,af,gd⟩).run P w = .ok (.enter f (xs.toList.map a.eval).toArray) w:=by
  have h0:a.eval (.func f) = .func (.func f) #[] #[]:=rfl
  have h9:(xs.map a.eval)=(xs.toList.map a.eval).toArray:=by simp [← Array.toList_map]
  simp [execOp,resolve,Deferred.ofValue,invoke,h0,hF.run,h9]
 rw [hr]
 refine Calls.mono hcall ?_
 rintro e w' ⟨s,v,rfl,hv',hext,hmem,hnd,hbl⟩
 have hcc:=hc s _ _ hmem
 have eh:hid (aW (Ms s)) (hid (E.O ++ aW M) (bZ w'))=hid ((E.O ++ aW M) ++ aW (Ms s)) (bZ w'):=by
  funext b;unfold hid;simp only [List.mem_append]
  by_cases h1:b∈aW (Ms s) <;> by_cases h2:b∈E.O∨b∈aW M <;> simp [h1,h2]
 refine hn v w' hext ⟨s,?_,fun o ho => ?_,hnd,fun b hb'=>⟨Nat.le_trans hb.fr.size (hbl b hb').1,(mP (hbl b hb').2.2 (hcc b hb')).2⟩⟩
 ·rw [eh]; exact hv'
 ·rw [eh]
  exact o.loc (fun b hb'=>(mP (hbl b (cG ho hb')).2.2 (hcc b (cG ho hb'))).1) (fun _ _ h=>h) (hmem o ho)
theorem xR {a1 a2:Act} {w1 w2:World} {Γ2 Γn Γk:Ctx} {p m:Nat} {T:TypeId} {cs:σ→cm} {Ms:σ→Mem} (hS:St E D Γ M a1 w1) (hI:E.I = [])
  (hS2:St ⟨w1,E.O,aW M ++ E.I,E.N,E.R⟩ D Γ2 (aT p T m [(0, .agg m,frM w1.heap.size (fun s=>bC m (cs s)) Ms)] :: M) a2 w2) (hx:Ext w1 w2) (hk2 : ∀ t,(∀ j,dstOf ops j≠some t)→a2.tmps.getD t undef=a1.tmps.getD t undef) (hk:pz ops Γ Γk)
  (hn : ∀ t φ,bP Γn t=some φ → ∃ v, φ=one v∧bP Γ2 t=some (one v)) : ∃ s,St E D (Γn ++ Γk) (aT p T m (cs s) :: Ms s ++ M) a2 w2:=by
 obtain ⟨c,hc,hs,ha,hcs⟩:=hS2.base.mem _ List.mem_cons_self
 obtain ⟨v,hv1,s,h1,h2,h3,h4⟩:=hcs _ List.mem_cons_self
 have hv1:(if 0+m≤c.size then some (Value.agg (c.extract 0 (0+m))) else none)=some v:=hv1
 rw [if_pos X] at hv1
 have e1:c.extract 0 (0+m)=c:=by rw [Nat.zero_add, ← hs]; simp
 rw [e1] at hv1;cases hv1
 have hpb:w1.heap.size≤p∧p<w2.heap.size:=by
  refine ⟨?_,hS2.base.ex p (by simp [aT])⟩
  rcases hS2.base.lo p (by simp [aT]) with h | h
  ·exact h
  ·exfalso
   rw [hI,List.append_nil] at h
   have hnd:=hS2.base.nd
   rw [blks_cons,List.nodup_append] at hnd
   exact hnd.2.2 p (by simp [aT]) p h Y
 have hm : ∀ b∈aW (Ms s),b ∉ E.O ++ (p :: aW M) ∧ ∃ x,bZ w2 b=some x:=fun b hb=>by
  obtain ⟨_,x,hx⟩:=h4 b hb
  obtain ⟨n1,n2⟩:=cP hx
  exact ⟨n1,x,n2⟩
 have hpm:p ∉ aW (Ms s):=fun h=>(hm p h).1 (by simp)
 have hle:Hp.le (hid (aW (Ms s)) (hid (E.O ++ aW (aT p T m [(0, .agg m,frM w1.heap.size (fun s=>bC m (cs s)) Ms)] :: M)) (bZ w2))) (hv E (aT p T m (cs s) :: Ms s ++ M) w2):=fun b x e=>by
  obtain ⟨e1,e2⟩:=cP e
  obtain ⟨e3,e4⟩:=cP e2
  refine el (fun h => ?_) e4
  simp only [List.cons_append,blks_cons,bj,aT,List.mem_append,List.mem_cons,List.not_mem_nil,or_false,false_or] at h e3
  rcases h with h | h | h | h
  ·exact e3 (.inl h)
  ·exact e3 (.inr (.inl h))
  ·exact e1 h
  ·exact e3 (.inr (.inr h))
 refine ⟨s,nQ (N:=aT p T m (cs s) :: Ms s) (Γn:=Γn) hS hx hS2.sz hS2.df (fun t φ h=>⟨(hk t φ h).1,hk2 t (hk t φ h).2⟩) (fun o ho => ?_) ?_ (fun b hb => ?_) (fun t φ h => ?_)⟩
 ·rcases List.mem_cons.1 ho with rfl | ho
  ·obtain ⟨c',e,k1,k2,k3⟩:=h1
   cases e
   exact ⟨c,hc,hs,ha,ju hle k3⟩
  ·refine o.loc (fun b hb => ?_) hle (h2 o ho)
   obtain ⟨n1,x,n2⟩:=hm b (cG ho hb)
   exact (mP n1 ⟨x,n2⟩).1.symm
 ·rw [blks_cons]
  exact List.nodup_append.2 ⟨by simp [aT],h3,fun x hx y hy e=>by
   have hx:x=p:=by simpa [aT] using hx
   subst hx;subst e;exact hpm hy⟩
 ·rw [blks_cons] at hb
  rcases List.mem_append.1 hb with hb | hb
  ·have hb:b=p:=by simpa [aT] using hb
   subst hb;exact hpb
  ·obtain ⟨_,x,n2⟩:=hm b hb
   exact ⟨(h4 b hb).1,ep n2⟩
 ·obtain ⟨v,rfl,h2⟩:=hn t φ h
  exact hS2.tm t _ h2
end
end Tor
end
section
namespace Tor
open Go Go.RowKit Go.Proofs
def gi (i c:Nat) (m:Int) (F:Nat→Nat→Int):Nat→Nat→Int:=fun q j=>if q=i∧j<c then F q j*m else F q j
theorem mQ {n i:Nat} {m:Int} {F:Nat→Nat→Int} (hi:i<n):Lin.bU n (gi i n m F)=m*Lin.bU n F:=by
 refine Rat.intCast_inj.1 ?_
 rw [Rat.intCast_mul,Lin.c7,Lin.c7,Lin.gz (m:Rat) 0 (p:=i) (G:=fun i j=>(F i j:Rat)) (Ef:=fun i j=>(F i j:Rat)) hi (fun j hj => ?_) (fun a b _ _ h => ?_) (fun a b _ _ h => ?_)]
 ·rw [Rat.zero_mul,Rat.add_zero]
 ·unfold gi;rw [if_pos ⟨rfl,hj⟩,Rat.intCast_mul]; grind
 ·unfold gi;rw [if_neg (fun h2=>h h2.1)]
 ·unfold gi;rw [if_neg (fun h2=>h h2.1)]
theorem xS {n i q:Nat} {m:Int} {F:Nat→Nat→Int} {b:Nat→Int} (hi:i<n) (hm:m≠0) (hd:Lin.bU n F≠0) (hq:q<n):jm n (gi i n m F) b q=if q=i then jm n F b q / (m:Rat) else jm n F b q:=by
 have hd2:Lin.bU n (gi i n m F)≠0:=by rw [mQ hi]; exact Int.mul_ne_zero hm hd
 have hm0:(m:Rat)≠0:=fun e=>hm (Rat.intCast_eq_zero_iff.1 e)
 refine (xQ (x:=fun q=>if q=i then jm n F b q / (m:Rat) else jm n F b q) hd2 (fun k hk => ?_) hq).symm
 rw [← Al (b:=b) hd hk]
 refine Lin.be fun t _ => ?_
 unfold gi
 by_cases h:t=i
 ·rw [if_pos h,if_pos ⟨h,hk⟩,Rat.intCast_mul,Rat.div_def]
  have:=Rat.mul_inv_cancel _ hm0
  grind
 ·rw [if_neg h,if_neg (fun h2=>h h2.1)]
theorem oY {i c:Nat} {F:Nat→Nat→Int} (hF : ∀ i j,(F i j).natAbs≤9) (q j:Nat):(gi i c 2147483647 F q j).natAbs≤34359738368:=by
 unfold gi
 split
 ·rw [Int.natAbs_mul]; exact Nat.le_trans (Nat.mul_le_mul_right _ (hF q j)) S
 ·exact Nat.le_trans (hF q j) S
theorem B7 {n i:Nat} {F:Nat→Nat→Int} (hn:n≤4) (hi:i<n) (hF : ∀ i j,(F i j).natAbs≤9) (hd:Lin.bU n F≠0):l8 (Lin.bU n (gi i n 2147483647 F))∧gh (Lin.bU n (gi i n 2147483647 F))=2147483629:=by
 have h:=tH hn hF
 rw [mQ hi]
 generalize Lin.bU n F=d at *
 exact ⟨fun h2=>by omega,by unfold gh;rw [if_pos X]⟩
theorem At {T:TypeId} {n i j:Nat} {m:Int} {bs:List Nat} {F:Nat→Nat→Int} : Own.le (dC T (.agg 2) n bs (kD (fun q k=>aL (gi i j m F q k)) i j (aL (gi i j m F i j*m)))) (dC T (.agg 2) n bs (fun q k=>aL (gi i (j+1) m F q k))):=by
 refine jF fun q k hq hk => ?_
 by_cases h:q=i∧k=j
 ·obtain ⟨rfl,rfl⟩:=h
  unfold kD gi
  rw [if_pos ⟨rfl,rfl⟩,if_neg X,if_pos X]
 ·unfold kD
  rw [if_neg h]
  unfold gi
  by_cases h2:q=i∧k<j
  ·simp only [if_pos h2,if_pos (show q=i∧k<j+1 by omega)]
  ·simp only [if_neg h2,if_neg (show ¬ (q=i∧k<j+1) by omega)]
instance {r c:Nat} {s:Bf r} : Flat (kO r c s) (.agg 3):=by unfold kO;infer_instance
theorem rx {n c cap:Nat} {sv:Option Nat} {bs:List Nat} {F:Nat→Nat→Int} (g:RH) (h:Hp) (Ef : ∀ o ∈ [iU sv cap n c bs,fA c bs F],o.p g h) (hl:bs.length=n) : ∀ b∈aW [iU sv cap n c bs,fA c bs F], ∃ x,vw g b=some x:=by
 intro b hb
 rcases List.mem_append.1 hb with hb | hb
 ·obtain ⟨_,_,_,h4⟩:=Ef _ List.mem_cons_self
  cases sv with
  | none => cases hb
  | some b0 =>
   have hb:b=b0:=by simpa [iU,aI] using hb
   subst hb
   obtain ⟨c,hc,_⟩:=h4 b Y
   exact ⟨_,hc⟩
 ·have h2:=Ef _ (List.mem_cons_of_mem _ List.mem_cons_self)
  have hb:b∈bs:=by simpa [fA,dC] using hb
  obtain ⟨i,hi,rfl⟩:=List.getElem_of_mem hb
  obtain ⟨_,_,_,h4⟩:=h2 i _ (List.getElem?_eq_getElem hi)
  obtain ⟨c,hc,_⟩:=h4 _ Y
  exact ⟨_,hc⟩
attribute [local irreducible] J PJ aK one slT bR bC bv exT cj eP aT aI slV VT.le Ret bL xO
attribute [local irreducible] aL cB bJ dC
set_option maxRecDepth 100000 in
theorem pj (r c:Nat) (l v:List Int) (k:Nat) (hk0:k<256):Ok Tryz.prog 6 [mB r c l,gD .i8 v,one (.int .u8 (k:Nat))] (one (.bool true)):=by
 have hsq:=uJ r c l
 have hn:r % 5≤4:=by omega
 generalize hF:(fun i j=>dig l (i*(r % 5)+j))=F at *
 have hA : ∀ i j,(F i j).natAbs≤9:=fun i j=>by rw [← hF]; exact rm _ _
 have lF : ∀ i j,lz 1 (F i j):=fun i j=>by rw [← hF]; exact C9 _ _
 clear hF
 generalize r % 5=n at *
 have hve:=uo v n X
 have hb : ∀ j,(dig v j).natAbs≤9:=fun j=>rm v j
 generalize dig v=b at *
 have hA' : ∀ i j,(F i j).natAbs≤34359738368:=fun i j=>Nat.le_trans (hA i j) S
 have hb' : ∀ j,(b j).natAbs≤1152921504606846976:=fun j=>Nat.le_trans (hb j) S
 have hva:=xP n F hn hA'
 have hsan:=tG
 have hsz:=eH (Lin.bU n F)
 have hsg:=dA (Lin.bU n F)
 by_cases hn0:n=0
 ·subst hn0
  unfold bW at *
  refine Ok.enter Tryz.func6 Y Tryz.ntmps6 Y (fun w O => ?_)
  refine ae (ai ?_)
  refine aV Y Y (ltN Y) (fun b3 => ?_)
  refine En Y (Ep (aa (ae (ai (El (am (hsan) Y trivial) (En Y (Ep (aa (ae ?_)))))))))
  refine ai (El (aN 0 Y Y) ?_)
  refine El (am (hsq) Y ⟨H,Er⟩) ?_
  refine bD (T:=30) Y Y Y (fun b8 => ?_)
  refine a4 0 Y Y Y Y (Ep (aa (ae (ai (Em Y (El (aj Y) (El (ak 0 Y Y Y) ?_)))))))
  refine El (am (hve) Y ⟨H,H,Er⟩) ?_
  refine En Y (Ep (aa (ae (ae (ai (El (aj Y) (El (ak 0 Y Y Y) (El (sT X (cg Y Y)) (Em Y ?_)))))))))
  refine sn0 Y Y Y Y Y (sn0 Y Y Y Y Y (sn0 Y Y Y Y Y (sn0 Y Y Y Y Y (El (bk Y Y) (Ep (aa (aG Y (ae (ai ?_)))))))))
  refine Em Y (En Y (Ep (aa (aD (aR ?_)))))
  refine aS Tryz.results6 (.tmp Y H)
 by_cases hd:Lin.bU n F=0
 ·have h6:=hsz.2 hd
  unfold bW at *
  refine Ok.enter Tryz.func6 Y Tryz.ntmps6 Y (fun w O => ?_)
  refine ae (ai ?_)
  refine aV Y Y (ltN Y) (fun b3 => ?_)
  refine En Y (Ep (aa (ae (ai (El (am (hsan) Y trivial) (En Y (Ep (aa (ae ?_)))))))))
  refine ai (El (aN 0 Y Y) ?_)
  refine El (am (hsq) Y ⟨H,Er⟩) ?_
  refine bD (T:=30) Y Y Y (fun b8 => ?_)
  refine a4 0 Y Y Y Y (Ep (aa (ae (ai (Em Y (El (aj Y) (El (ak 0 Y Y Y) ?_)))))))
  refine El (am (hve) Y ⟨H,H,Er⟩) ?_
  refine En Y (Ep (aa (ae (ae (ai (El (aj Y) (El (ak 0 Y Y Y) (El (sF X (cg Y Y)) (Em Y ?_)))))))))
  refine Eo (aN 0 Y Y) ?_
  refine Eo (am (hva) Y ⟨H,Er⟩) ?_
  refine Eo (am (hsg) Y ⟨H,Er⟩) ?_
  refine Eo (sT (by assumption) (cg Y Y)) (El (bE Y Y) (Ep (aa (aG Y (ae (ai (Em Y (En Y (Ep ?_)))))))))
  refine aa (aD (aR ?_))
  refine aS Tryz.results6 (.tmp Y H)
 ·obtain ⟨hg,hp⟩:=Aq hn hA hd
  have h6:c9 (Lin.bU n F)≠0:=fun e=>hd (hsz.1 e)
  have hi:=Nat.mod_lt k (show 0<n by omega)
  have hCo:=tI n n F X X (fun i j=>dn (hA i j) U)
  have ho1:=gZ 2147483647 S S
  have hmu:=fun (x:Int) (hx:bm x)=>ef x 2147483647 hx (dm U)
  unfold bW at *
  refine Ok.enter Tryz.func6 Y Tryz.ntmps6 Y (fun w O => ?_)
  refine ae (ai ?_)
  refine aV Y Y (ltN Y) (fun b3 => ?_)
  refine En Y (Ep (aa (ae (ai (El (am (hsan) Y trivial) (En Y (Ep (aa (ae ?_)))))))))
  refine ai (El (aN 0 Y Y) ?_)
  refine El (am (hsq) Y ⟨H,Er⟩) ?_
  refine bD (T:=30) Y Y Y (fun b8 => ?_)
  refine a4 0 Y Y Y Y (Ep (aa (ae (ai (Em Y (El (aj Y) (El (ak 0 Y Y Y) ?_)))))))
  refine El (am (hve) Y ⟨H,H,Er⟩) ?_
  refine En Y (Ep (aa (ae (ae (ai (El (aj Y) (El (ak 0 Y Y Y) (El (sF X (cg Y Y)) (Em Y ?_)))))))))
  refine Eo (aN 0 Y Y) ?_
  refine Eo (am (hva) Y ⟨H,Er⟩) ?_
  refine Eo (am (hsg) Y ⟨H,Er⟩) ?_
  refine Eo (sF (by assumption) (cg Y Y)) (El (bE Y Y) (Ep (aa (aB Y (az (aa (ae ?_)))))))
  refine tT aZ Z Z (fun a1 w1 hS1 => ?_)
  refine ux (fun B=>aN 0 Y Y) Y Y ?_
  refine ux (fun B=>As w1.heap.size Y hCo Y ⟨H,Er⟩ (fun s g h Ef=>rx g h Ef s.2.1)) Y Y ?_
  refine ux (fun B=>ab Y) Y Y ?_
  refine ux (fun B=>dZ Y X X) Y Y ?_
  refine ux (fun B=>aj Y) Y Y ?_
  refine ux (fun B=>ak 0 Y Y Y) Y Y ?_
  refine ux (fun B=>eK _ Y Y Y X) Y Y ?_
  refine ua Y (us Y ?_)
  refine ux (fun B=>ah Y) Y Y ?_
  refine RunU.nil (fun γ a2 w2 hS2 hx hk2 => ?_)
  obtain ⟨⟨⟨bs,sv1,cap1⟩,hlen,hsv⟩,hS3⟩:=xR (Γn := [(10,one (.pointer (some ⟨γ 10,0,none⟩))),(11,one (.int .i64 ((k % n:Nat):Int)))])
   (Γk := [(0,mB r c l),(1,gD .i8 v),(3,one (.pointer (some ⟨b3,0,none⟩))),(8,one (.pointer (some ⟨b8,0,none⟩))),(9,bJ n b),(7,one (.bool true))])
   (cs:=fun s:Bf n => [(0, .one,one (.int .i64 n)),(1, .one,one (.int .i64 n)),(2, .one,one (slV s.1.2.1 n s.1.2.2))])
   hS1 Y hS2 hx hk2 (.cons Y Z (.cons Y Z (.cons Y Z (.cons Y Z (.cons Y Z (.cons Y Z .nil)))))) (fun t φ h=>by
    rw [bp] at h
    split at h
    ·rename_i e;subst e;cases h;exact ⟨_,rfl,rfl⟩
    ·rw [bp] at h
     split at h
     ·rename_i e;subst e;cases h;exact ⟨_,rfl,rfl⟩
     ·cases h)
  generalize γ 10=b10 at hS3
  refine tU ?_ hS3
  clear hS3 hS2 hx hk2 hS1
  dsimp only at hlen hsv ⊢
  obtain ⟨bo,rfl⟩:=gE hsv X
  unfold iU
  generalize k % n=i at *
  refine aa (ae (ae (ai (En Y (Ep (aa (au (co (Γ' := [(7,_),(8,_),(9,_),(10,_),(11,_),(12,_)]) Eg (SubM.refl _) ?_))))))))
  refine bB (σ:=Nat) (Γk := [(7,_),(8,_),(9,_),(10,_),(11,_)]) Eg (fun j => [(12,one (.int .i64 (j:Nat)))]) (fun j M0=>(M0.set 2 (fA n bs (gi i j 2147483647 F)))) (fun j=>j≤n) (fun j=>n - j) (0) (Nat.zero_le _) Eh (.keep Ek (.keep Ek (.keep (fU fun a b ha hb=>by simp [gi]) (.keep Ek (.keep Ek (.nil)))))) (fun j hj => ?_)
  refine bQ (Γ' := [(12,_),(7,_),(8,_),(9,_),(10,_),(11,_)]) (M' := [_,_,_,_,_]) Y Y ?_
  by_cases hj2:j<n
  ·have hm2:=hmu (gi i j 2147483647 F i j) (dn (oY hA i j) U)
   refine ae (ae (ai (Em Y (El (aj Y) (El (ak 3 Y Y Y) (El (sT X (a6 Y Y)) (Ep (aa (aG Y ?_)))))))))
   refine az (aa (ae (au (a7 16 aZ Z S (El (aj Y) (El (ak 0 Y Y Y) (Em Y (El (ao Y Y X) (El (bg 1 Y Y X) ?_)))))))))
   refine Em Y (El (aj Y) (El (ak 0 Y Y Y) (Em Y (El (ao Y Y X) (El (bg 1 Y Y X) (Em Y (El (ao Y Y X) (El (Ax 2 Y Y (ui X) X) ?_))))))))
   refine El (am (ho1) Y ⟨H,Er⟩) ?_
   refine El (am (hm2) Y ⟨H,H,Er⟩) ?_
   refine Ep (El (ao Y Y X) ?_)
   (refine jG 2 Y Y Y (ui ?_) ?_ Y ?_;omega;omega)
   refine Ep (aE (aa (ai (Em Y (El (bK _ 1 Y Y X) (En Y (Ep ?_)))))))
   refine aP (j+1) X X Eh (.keep Ek (.keep Ek (.keep (At) (.keep Ek (.keep Ek (.nil))))))
  ·have hjn:j=n:=by omega
   subst hjn
   have hb2:=sW 2147483647 S
   rw [BX] at hb2
   have hd2:Lin.bU j (gi i j 2147483647 F)≠0:=by rw [mQ hi]; exact Int.mul_ne_zero S hd
   obtain ⟨hg2,hp2⟩:=B7 hn hi hA hd
   have s1:=wn j F b hn hA' hb' hd hg
   have s2:=wn j (gi i j 2147483647 F) b hn (oY hA) hb' hd2 hg2
   have d1:=mb j 0 F b hn hA' hb' hd hg S
   have d2:=mb j 0 (gi i j 2147483647 F) b hn (oY hA) hb' hd2 hg2 S
   rw [hp] at d1
   rw [hp2] at d2
   have hq:=fun q (hq:q<j)=>B4 (b:=b) hn hA' hb' hd hq
   have hxs : ∀ q,q<j→jm j (gi i j 2147483647 F) b q=if q=i then jm j F b q / ((2147483647:Int):Rat) else jm j F b q:=fun q hq=>xS hi S hd hq
   generalize jm j F b=Eb at *
   generalize jm j (gi i j 2147483647 F) b=Ea at *
   have hvl:=ng j j Eb 12 X S hq
   rw [decide_eq_true Y] at hvl
   have hnu:=iu 2147483647 S S
   have hov:=mI (Eb i) ((2147483647:Int):Rat) 12 1 (hq i hi) (uQ S (cx (k:=1) S)) S S
   have hli:=kT j j (fun q=>if q=i then Eb q / ((2147483647:Int):Rat) else Eb q) Ea X
   rw [decide_eq_true ⟨rfl,fun q hq=>(hxs q hq).symm⟩] at hli
   unfold bW dV at *
   refine x5 [aI (some bo) 32 .one cap1 j (fun q=>one (slV (some (bs.getD q 0)) j j)),fA j bs (gi i j 2147483647 F)] ((List.Perm.swap _ _ _).trans (List.Perm.cons _ (List.Perm.swap _ _ _))) (.keep (wu.box (kg hlen ⟨by simp,by simp,by simp⟩)) (EntM.refl _)) (wv.refl _) ?_
   refine ae (ae (ai (Em Y (El (aj Y) (El (ak 1 Y Y Y) (El (sF X (a6 Y Y)) (Ep (aa (aB Y ?_)))))))))
   refine aY (av (av (aF (aa (ae (ai (El (aN 1 Y Y) (Em Y ?_))))))))
   refine El (am (s1) Y ⟨H,H,Er⟩) ?_
   refine Em Y (El (ar Y Y) (El (ar Y Y) (En Y (En Y (Ep (aa (ae (ai (El (aN 0 Y Y) ?_)))))))))
   refine Em Y ?_
   refine El (am (s2) Y ⟨H,H,Er⟩) ?_
   refine Em Y (El (ar Y Y) (El (ar Y Y) (En Y (En Y (Ep (aa (ae (ai (El (aN 1 Y Y) ?_)))))))))
   refine Em Y ?_
   refine El (am (d1) Y ⟨H,H,H,Er⟩) ?_
   refine Em Y (El (ar Y Y) (El (ar Y Y) (El (ar Y Y) (En Y (En Y (En Y (Ep (aa (ae ?_)))))))))
   refine ai (El (aN 0 Y Y) (Em Y ?_))
   refine El (am (d2) Y ⟨H,H,H,Er⟩) ?_
   refine Em Y (El (ar Y Y) (El (ar Y Y) (El (ar Y Y) (En Y (En Y (En Y (Ep (aa (ae ?_)))))))))
   refine ae (ai (Em Y (El (sF X (dy Y Y)) (Em Y (Eo (ab Y) (Eo (sF X (dy Y Y)) (El (bE Y Y) (Em Y (Eo (ab Y) ?_)))))))))
   refine Eo (sF X (dy Y Y)) (El (bE Y Y) (Em Y (Eo (ab Y) (Eo (sF X (dy Y Y)) (El (bE Y Y) (Em Y (Eo (ab Y) (Eo (aj Y) (Eo (ak 1 Y Y Y) ?_)))))))))
   refine Eo (am (hvl) Y ⟨H,H,Er⟩) ?_
   refine Eo (cS Y) (El (bE Y Y) (Em Y (Eo (ab Y) (Eo (sF X (dy Y Y)) (El (bE Y Y) (Em Y (Eo (ab Y) ?_)))))))
   refine Eo (am (hb2) Y ⟨H,Er⟩) ?_
   refine Eo (sF X (dy Y Y)) (El (bE Y Y) (Ep (aa (aB Y (az (aa (ae (ai (m5 (n:=0) Y Y Y Y Y ?_)))))))))
   refine PartsK.nil (fun bl => ?_)
   refine Em Y ?_
   (refine cT 0 Y Y Y (leN Y) ?_ ?_ Y (ltN Y) (fun sv129 cap129 => ?_);omega;omega)
   refine En Y (Ep (aa (ae ?_)))
   refine k9 (i:=0) Y (fun g h Ef=>yp Ef X) (fun hsv => ?_)
   obtain ⟨bw,rfl⟩:=hsv
   refine a7 8 aZ Z S (Em Y (Em Y (Em Y (Em Y (El (aC Y Y X) (El (aO Y) ?_))))))
   refine El (am (hnu) Y ⟨H,Er⟩) ?_
   refine El (am (hov) Y ⟨H,H,Er⟩) ?_
   refine Ep (El (ao Y Y X) ?_)
   (refine aw 0 Y Y Y ?_ Y ?_;omega)
   refine Ep (aa (ae (ai (Em Y (Em Y (fG (t:=139) (j:=0) Y Y ?_))))))
   refine jd (t:=139) (ψ:=slT (.agg 4) j (fun q=>cB (if q=i then Eb q / ((2147483647:Int):Rat) else Eb q))) Y (cC X (fun q hq=>by
    unfold upd
    by_cases h:q=i
    ·rw [if_pos h,if_pos h,h]
    ·rw [if_neg h,if_neg h]; exact if_neg (Nat.not_lt_zero q))) ?_
   refine El (am (hli) Y ⟨H,H,Er⟩) ?_
   refine Em Y (Eo (ab Y) (El (bk Y Y) (En Y (Ep (aa (aD ?_))))))
   refine aS Tryz.results6 (.tmp Y H)
end Tor
end
section
namespace Tor
open Go Go.RowKit Go.Proofs
theorem oZ {p0 p1:Prop} (r c:Nat) (l v:List Int) (k:Nat) (y0:p0) (y1:p1) (y2:(k:Int)≤IntKind.max .u8∧True) :
  Ok Tryz.prog 6 [mB r c l,gD .i8 v,one (.int .u8 (k:Nat))] (one (.bool true)) :=
 pj r c l v k (by have h:(k:Int)≤255:=y2.1;omega)
end Tor
end
section
set_option maxRecDepth 100000
namespace Tor
open Go Go.RowKit Go.ChangeShapes Go.WideShapes Go.ChangeAt Go.Joins Go.Proofs
theorem Du {Ef:Type} {enc:TypeId × Value→Ef} {W:World} {base:Nat} {v:Value} {d:DataW Ef} {ps:List MemPlace} (hval:Value.okWide Tryz.prog W .any base 24 v) (hT:DataW.Trod enc Tryz.prog W 0 (fun _=>true) true 24 v d ps) (hw : ∀ x∈DataW.weights Tryz.prog 24 d,x≤reachBytes) :
  ∃ (r:Nat) (c:Nat) (l:List Int),(mB r c l).p v (bZ W)∧(r:Int)≤IntKind.max .u8∧(c:Int)≤IntKind.max .u8∧(∀ x∈l,IntKind.min .i8≤x∧x≤IntKind.max .i8)∧True:=by
 obtain ⟨cs,rfl,h⟩:=AB 8 (ts := [5,5,22]) Z (.inl ⟨_,Tryz.underlying24⟩) hval hT hw
 obtain ⟨c0,r0,rfl,h0,g0⟩:=h
 obtain ⟨c1,r1,rfl,h1,g1⟩:=g0
 obtain ⟨c2,r2,rfl,h2,g2⟩:=g1
 cases g2
 obtain ⟨r,rfl,b0⟩:=nW Tryz.underlying5 Y h0
 obtain ⟨c,rfl,b1⟩:=nW Tryz.underlying5 Y h1
 obtain ⟨l,k2,b2⟩:=pA Tryz.underlying22 Tryz.underlying25 Z (of_decide_eq_true Z) h2
 exact ⟨r,c,l,Dy (φs := [one (.int .u8 r),one (.int .u8 c),gD .i8 l]) ⟨rfl,rfl,⟨rfl,rfl,⟨k2,AA k2,Er⟩⟩⟩,b0,b1,b2,Er⟩
theorem DT {Ef:Type} {enc:TypeId × Value→Ef} {W:World} {base:Nat} {v:Value} {d:DataW Ef} {ps:List MemPlace} (hval:Value.okWide Tryz.prog W .any base 22 v) (hT:DataW.Trod enc Tryz.prog W 0 (fun _=>true) true 22 v d ps) (hw : ∀ x∈DataW.weights Tryz.prog 22 d,x≤reachBytes) :
  ∃ (d:List Int),(gD .i8 d).p v (bZ W)∧(∀ x∈d,IntKind.min .i8≤x∧x≤IntKind.max .i8)∧True:=by
 have h:=rO (.inr (.inr ⟨_,Tryz.underlying22⟩)) hval hT hw
 obtain ⟨d,k0,b0⟩:=pA Tryz.underlying22 Tryz.underlying25 Z (of_decide_eq_true Z) h
 exact ⟨d,k0,b0,Er⟩
theorem DU {Ef:Type} {enc:TypeId × Value→Ef} {W:World} {base:Nat} {v:Value} {d:DataW Ef} {ps:List MemPlace} (hval:Value.okWide Tryz.prog W .any base 5 v) (hT:DataW.Trod enc Tryz.prog W 0 (fun _=>true) true 5 v d ps) (hw : ∀ x∈DataW.weights Tryz.prog 5 d,x≤reachBytes) :
  ∃ (k:Nat),(one (.int .u8 k)).p v (bZ W)∧(k:Int)≤IntKind.max .u8∧True:=by
 have h:=rO (.inl ⟨_,Tryz.underlying5⟩) hval hT hw
 obtain ⟨k,rfl,b0⟩:=nW Tryz.underlying5 Y h
 exact ⟨k,rfl,b0,Er⟩
end Tor
namespace Go.Proofs.YtbgloceimmbliaaGreat
open Go.ChangeShapes Go.WideShapes Go.ChangeAt Go.RowKit Go.Joins Tor
theorem dixonUnlucky_own:ownKnob Tryz.prog.godebug=none:=by kernel_rfl
theorem dixonUnlucky_laid:laidOutB Tryz.prog=true:=by kernel_rfl
set_option maxRecDepth 100000 in
theorem dixonUnlucky_lifted (os:Os) (started:os.Started) (Ef:Type) (enc:TypeId × Value→Ef) :
  ReturnsInHanded {} Tryz.checked os 6 .any (Rows.dixonUnluckySpec.pre6 enc Tryz.prog Tryz.f6 Rows.dixonUnluckyRow.domain false) (Rows.dixonUnluckySpec.post enc Tryz.prog Tryz.f6 false true false false):=by
 refine returnsInHanded_of_change_sized (C:=Tryz.checked) dixonUnlucky_own started Z Tryz.func6
  (ChangeSpec.witness6 (enc:=enc) (C:=Tryz.checked) false ⟨#[], #[.agg #[.int .u8 0, .int .u8 0, .slice none 0 0], .slice none 0 0, .int .u8 0], []⟩ 8 Z Z Z Z) ?_
 intro W base args ds gs before hval0 hW hcnd hsz0 _
 have hval : ∀ (j:Nat) t v,Tryz.f6.params[j]? = some t→args[j]? = some v→Value.okWide Tryz.prog W .any base t v:=hval0
 have hsz:(DataW.weightsEach Tryz.prog (Tryz.f6.params.toList ++ Rows.dixonUnluckySpec.plain.varTypes Tryz.prog) (ds ++ gs)).all (· ≤ reachBytes)=true:=hsz0
 have hW':=hW
 obtain ⟨p,q,hA0,hV,rfl,hfz,hnd⟩:=hW
 have hA:DataW.TrodAll enc Tryz.prog W 0 (fun _=>true) true Tryz.f6.params.toList args.toList ds p:=hA0
 rw [Tryz.params6] at hA hval hsz
 obtain ⟨v0,v1,v2,d0,d1,d2,p0,p1,p2,rfl,rfl,rfl,h0,h1,h2⟩:=trodAll_three hA
 obtain ⟨rfl,rfl⟩:=trodVars_none hV
 obtain ⟨r_0,c_0,l_0,x0,y0⟩:=Du (hval 0 24 _ Y Y) h0 (jJ hsz 0 Y Y)
 obtain ⟨d_1,x1,y1⟩:=DT (hval 1 22 _ Y Y) h1 (jJ hsz 1 Y Y)
 obtain ⟨k_2,x2,y2⟩:=DU (hval 2 5 _ Y Y) h2 (jJ hsz 2 Y Y)
 refine (Ok.outside (W:=W) (args := #[v0,v1,v2]) (oZ r_0 c_0 l_0 d_1 k_2 y0 y1 y2) (And.intro x0 (And.intro x1 (And.intro x2 (trivial))))).mono fun e W' ⟨v,he,hv,hw⟩ => ?_
 subst he
 have hv:v = .bool true:=hv
 subst hv
 refine ⟨_,rfl,_, [],_, [],_, [],hW',trodAll_mk1 (shut_bool Tryz.underlying4 true),trodAll_mk3
  (Below.trod dixonUnlucky_laid Z (of_decide_eq_true Z) h0 hw (fun x hx=>by simpa using hW'.lt x (by simp only [List.mem_append] at hx ⊢; simp [hx])))
  (Below.trod dixonUnlucky_laid Z (of_decide_eq_true Z) h1 hw (fun x hx=>by simpa using hW'.lt x (by simp only [List.mem_append] at hx ⊢; simp [hx])))
  (Below.trod dixonUnlucky_laid Z (of_decide_eq_true Z) h2 hw (fun x hx=>by simpa using hW'.lt x (by simp only [List.mem_append] at hx ⊢; simp [hx]))),rfl,hw.frame _,fun h=>by cases h⟩
theorem dixonUnlucky_holds:Rows.DixonUnluckySaid :=
 OpenClaim.holds_of_wide 6 Tryz.f6 Y Y Y Y Y Y Y ⟨rfl,rfl,rfl,rfl,rfl⟩ Y Y Y Y Y Z Tryz.func6 Z
  (of_decide_eq_true Z) (by unfold Func.isWrapper;first | (rw [if_pos U]; kernel_rfl) | (rw [if_neg U]; exact ⟨rfl,rfl⟩))
  (fun os started Ef enc _=>dixonUnlucky_lifted os started Ef enc)
end Go.Proofs.YtbgloceimmbliaaGreat
namespace Tor
end Tor
end
