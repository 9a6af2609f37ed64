/-
  Theorems that the proofs of laws of this seat rest on.
  No condition.
-/
import Derived.Test.YtfaglimgjfhdfaaGreatZM10
set_option maxHeartbeats 20000000
set_option linter.unusedVariables false
set_option linter.unusedSimpArgs false
set_option linter.unusedSectionVars false
section
namespace Tor
open Go Go.RowKit Go.Proofs
variable [Tor.Co.Kc]
attribute [local irreducible] J PJ aC one slT bJ bH bF exT ch eP aQ aK slV VT.le Ret bQ
attribute [local irreducible] aR cX
theorem tx (r c:Nat) (F:Nat→Nat→Int) (k:Int) (hr0:r≤1048576) (hc0:c≤1048576) (hF : ∀ i j,bV (F i j)) (hk:bV k):OkM Tryz.prog 42 [co r c F,aR k] (kr r c) (fun s => [fR s.1.2.1 s.1.2.2 r c s.1.1,d5 c s.1.1 (fun i j=>F i j*k)]):=by
 unfold co
 refine OkM.enter Tryz.func42 Z Tryz.ntmps42 Z (fun w O => ?_)
 refine ae (ai ?_)
 refine be Z Z (ltN Z) (fun b2 => ?_)
 refine jb Z Z (ltN Z) (fun b3 => ?_)
 refine bS (T:=35) Z Z Z (fun b4 => ?_)
 refine Cq (aa (ae (ai (Cl (aj Z) (Cl (ak 2 Z Z Z) (Cl (aj Z) (Cl (ak 2 Z Z Z) ?_)))))))
 refine gi (jM _ _ (by assumption) (by assumption)) Z ⟨A,A,Cr⟩ Z Z (fun s12 => ?_)
 refine bS (T:=35) Z Z Z (fun b5 => ?_)
 refine bO 0 Z Z Z Z (Cq (aa (ae (ae (ai (Cn Z (Cq (aa (av ?_)))))))))
 obtain ⟨⟨bs,sv1,cap1⟩,hlen,hsv⟩:=s12
 simp only at hlen hsv
 unfold kr
 dsimp only
 refine cB (Γ' := [(2,_),(3,_),(4,_),(5,_),(6,_)]) Cg (SubM.refl _) ?_
 refine bP (σ:=Nat) (Γk := [(2,_),(3,_),(4,_),(5,_)]) Cg (fun i => [(6,one (.int .i64 (i:Nat)))]) (fun i M0=>(M0.set 2 (d5 c bs (fe (fun i j=>F i j*k) i 0)))) (fun i=>i≤r) (fun i=>r - i) (0) (Nat.zero_le _) Ch (.keep Ck (.keep Ck (.keep (d7 fun i j hi hj=>by simp [fe]) (.keep Ck (.keep Ck (.keep Ck (.nil))))))) (fun i hi => ?_)
 refine ci (Γ' := [(6,_),(2,_),(3,_),(4,_),(5,_)]) (M' := [_,_,_,_,_,_]) Z Z (ae (ae (ai (Cm Z (Cl (aj Z) (Cl (ak 5 Z Z Z) (Cl (bE Z Z) (Cq (aa ?_)))))))))
 refine nW Z (fun hc => ?_) (fun hc => ?_)
 ·obtain ⟨bo,rfl⟩:=fG hsv X
  refine ax (aa (ae (av (ae (ai (Cn Z (Cq (aa (av ?_)))))))))
  refine cB (Γ' := [(2,_),(3,_),(4,_),(5,_),(6,_),(7,_)]) Cg (SubM.refl _) ?_
  refine bP (σ:=Nat) (Γk := [(2,_),(3,_),(4,_),(5,_),(6,_)]) Cg (fun j => [(7,one (.int .i64 (j:Nat)))]) (fun j M0=>(M0.set 2 (d5 c bs (fe (fun i j=>F i j*k) i j)))) (fun j=>j≤c) (fun j=>c - j) (0) (Nat.zero_le _) Ch (.keep Ck (.keep Ck (.keep Ck (.keep Ck (.keep Ck (.keep Ck (.nil))))))) (fun j hj => ?_)
  refine ci (Γ' := [(7,_),(2,_),(3,_),(4,_),(5,_),(6,_)]) (M' := [_,_,_,_,_,_]) Z Z (ae (ae (ai (Cm Z (Cl (aj Z) (Cl (ak 5 Z Z Z) (Cl (bE Z Z) (Cq (aa ?_)))))))))
  refine nW Z (fun hc2 => ?_) (fun hc2 => ?_)
  ·refine ax (aa (ae (av (bm 16 bD Y U (Cl (aj Z) (Cl (ak 0 Z Z Z) (Cm Z ?_)))))))
   (refine Cl (au Z Z ?_) ?_;omega)
   (refine Cl (bR 1 Z Z ?_) ?_;omega)
   refine Cm Z (Cl (aj Z) (Cl (ak 5 Z Z Z) (Cm Z ?_)))
   (refine Cl (aH Z Z ?_) ?_;omega)
   refine Cl (aY Z) (Cm Z ?_)
   (refine Cl (aH Z Z ?_) ?_;omega)
   refine Cl (aY Z) (Cl (ak 4 Z Z Z) ?_)
   refine Cl (am (fN _ _ (hF _ _) (by assumption)) Z ⟨A,A,Cr⟩) ?_
   refine Cq ?_
   (refine Cl (au Z Z ?_) ?_;omega)
   (refine fJ 2 Z Z Z (n6 ?_) ?_ Z ?_;omega;omega)
   refine Cq (aL (aa (ai (Cm Z (Cl (bW _ 1 Z Z X) (Cn Z (Cq ?_)))))))
   refine aZ (j+1) X X Ch (.keep Ck (.keep Ck (.keep (vA _ Z) (.keep Ck (.keep Ck (.keep Ck (.nil)))))))
  ·have hjm:j=c:=by omega
   subst hjm
   refine a8 (aw (aw (aM (aL (aa (ai (Cm Z (Cl (bW _ 1 Z Z X) (Cn Z ?_)))))))))
   refine Cq ?_
   refine aZ (i+1) X X Ch (.keep Ck (.keep Ck (.keep (nD) (.keep Ck (.keep Ck (.keep Ck (.nil)))))))
 ·have hin:i=r:=by omega
  subst hin
  refine a8 (aw (aw (aM (aa (ae (ai (Cl (bj 0 Z Z) (bO 3 Z Z Z Z (Cq ?_)))))))))
  refine aa (aE ?_)
  exact mQ ⟨(bs,sv1,cap1),hlen,hsv⟩ Tryz.results42 (.cellW 3 Z Z A) (.drop (.keep Ck (.keep (d7 fun a b ha hb=>by simp [fe]; omega) (SubM.nilR _))))
theorem mc (r c:Nat) (F:Nat→Nat→Int) (hr0:r≤1048576) (hc0:c≤1048576) (hF : ∀ i j,bV (F i j)):OkM Tryz.prog 14 [co r c F] (kr r c) (fun s => [fR s.1.2.1 s.1.2.2 r c s.1.1,d5 c s.1.1 (fun i j=>F i j*1)]):=by
 have hs:=tx r c F 1 hr0 hc0 hF lJ
 unfold co at hs ⊢
 refine OkM.enter Tryz.func14 Z Tryz.ntmps14 Z (fun w O => ?_)
 refine ae (ai ?_)
 refine be Z Z (ltN Z) (fun b1 => ?_)
 refine bS (T:=35) Z Z Z (fun b2 => ?_)
 refine Cq (aa (ae (bm 2 bD Y U (Cl (bj 1 Z Z) ?_))))
 refine Cl (am (g8 _ X X) Z ⟨A,Cr⟩) ?_
 refine Cq ?_
 refine gi (hs) Z ⟨A,A,Cr⟩ Z Z (fun s5 => ?_)
 refine bO 2 Z Z Z Z (Cq (aa (aE ?_)))
 exact mQ s5 Tryz.results14 (.cellW 2 Z Z A) (.keep Ck (.keep Ck (SubM.nilR _)))
end Tor
end
section
namespace Tor
open Go Go.RowKit Go.Proofs
theorem yI (n:Nat) (F G:Nat→Nat→Int):Lin.bX n (nC n F G)=Lin.bX n F*Lin.bX n G:=by
 have h:((Lin.bX n (nC n F G):Int):Rat)=((Lin.bX n F*Lin.bX n G:Int):Rat):=by
  rw [Rat.intCast_mul,Lin.cR,Lin.cR,Lin.cR, ← Lin.mu]
  exact Lin.cy fun i j _ _=>by
   show ((ez n (fun k=>F i k*G k j):Int):Rat)=Lin.sm n (fun k=>(F i k:Rat)*(G k j:Rat))
   rw [nG]
   exact Lin.cv fun k _=>Rat.intCast_mul _ _
 exact_mod_cast h
theorem Ai (n:Nat) (F:Nat→Nat→Int):Lin.bX n (fun i j=>F j i)=Lin.bX n F:=by
 have h:((Lin.bX n (fun i j=>F j i):Int):Rat)=((Lin.bX n F:Int):Rat):=by
  rw [Lin.cR,Lin.cR]
  exact Lin.xz n Lin.mv (fun i j=>(F i j:Rat))
 exact_mod_cast h
theorem jO (l:List Int) (n:Nat):(dig l n).natAbs≤9:=by
 unfold dig;rw [Int.natAbs_tmod]
 show (l.getD n 0).natAbs % 10≤9
 omega
theorem rV (l:List Int) (n:Nat):fW (dig l n):=Nat.le_trans (jO l n) V
theorem rW {B:Nat} {f:Nat→Int} (h : ∀ k,(f k).natAbs≤B) : ∀ n,(ez n f).natAbs≤n*B
 | 0 => Nat.zero_le _
 | n + 1 => by
  have h1:=rW h n
  have h2:=h n
  rw [vz,Nat.succ_mul]
  omega
def Sz (m K:Nat):Prop:=m≤12∧(m*(K*K)+1)^m<2^598∧K≤2^400
theorem Sz.pow {m K n:Nat} (h:Sz m K) (hn:n≤m):(m*(K*K)+1)^n<2^598:=Nat.lt_of_le_of_lt (Nat.pow_le_pow_right X hn) h.2.1
theorem Sz.len {m K n:Nat} (hn:n≤m) {f:Nat→Int} (hf : ∀ k,(f k).natAbs≤K):de n f≤m*(K*K)+1:=Nat.le_succ_of_le (Nat.le_trans (x5 hf) (Nat.mul_le_mul_right _ hn))
theorem Sz.detG {m K n:Nat} (h:Sz m K) (hn:n≤m) {F:Nat→Nat→Int} (hF : ∀ i j,(F i j).natAbs≤K):DetG n F (m*(K*K)+1) :=
 ⟨Nat.le_trans hn h.1,fun i j=>Nat.le_trans (hF i j) h.2.2,by omega,h.pow hn,fun i _=>Sz.len hn (hF i)⟩
theorem Sz.det {m K n:Nat} (h:Sz m K) (hn:n≤m) {F:Nat→Nat→Int} (hF : ∀ i j,(F i j).natAbs≤K):(Lin.bX n F).natAbs<2^300 :=
 Nat.lt_of_le_of_lt (pX n F) (lV (Nat.lt_of_le_of_lt (nF (fun i _=>Sz.len hn (hF i)) n (Nat.le_refl n)) (h.pow hn)))
theorem Sz.m4 {m K n:Nat} (h:Sz m K) (hn:n≤m) {F:Nat→Nat→Int} (hF : ∀ i j,(F i j).natAbs≤K):fW (Lin.bX n F):=Nat.le_of_lt (Nat.lt_trans (h.det hn hF) V)
theorem Sz.small {m K n:Nat} (h:Sz m K) (hn:n≤m) {F:Nat→Nat→Int} (hF : ∀ i j,(F i j).natAbs≤K):bV (Lin.bX n F):=cW (h.m4 hn hF)
theorem gv {m K n:Nat} (h:Sz m K) (hn:n≤m) (F:Nat→Nat→Int) (hF : ∀ i j,(F i j).natAbs≤K):Ok Tryz.prog 17 [co n n F] (bF [aR (Lin.bX n F),one (.bool true)]):=wc n F _ (h.detG hn hF) (h.small hn hF)
theorem kA (x:Int):Ok Tryz.prog 18 [aR x,aR x] (one (.bool true)):=by
 have h:=kV x x
 rw [decide_eq_true Z] at h;exact h
theorem yJ {n:Nat} {F G:Nat→Nat→Int} {Cf B:Nat} (hn:n≤4) (hF : ∀ i j,(F i j).natAbs≤Cf) (hG : ∀ i j,(G i j).natAbs≤B) (i j:Nat):(nC n F G i j).natAbs≤4*(Cf*B):=by
 have h:=rW (B:=Cf*B) (f:=fun k=>F i k*G k j) (fun k=>by
  rw [Int.natAbs_mul]
  exact Nat.mul_le_mul (hF i k) (hG k j)) n
 exact Nat.le_trans h (Nat.mul_le_mul_right _ hn)
attribute [local irreducible] J PJ aC one slT bJ bH bF exT ch eP aQ aK slV VT.le Ret bQ dG el
attribute [local irreducible] aR dZ
theorem iQ (r c:Nat) (l:List Int):Ok Tryz.prog 13 [fX r c l] (co (r % 5) (r % 5) (fun i j=>dig l (i*(r % 5)+j))):=by
 have h:=nz (r % 5) (r % 5) l X X
 have h5:=BP r
 have hr:r % 5<5:=Nat.mod_lt _ U
 unfold fX co at *
 refine Ok.enter Tryz.func13 Z Tryz.ntmps13 Z (fun w O => ?_)
 refine ae (ai ?_)
 refine be Z Z (ltN Z) (fun b1 => ?_)
 refine bS (T:=35) Z Z Z (fun b2 => ?_)
 refine Cq (aa (ae (ai (Cl (aj Z) (Cl (ak 1 Z Z Z) (Cl (dm 5 Z Z Z U) (Cl (cE Z X X) (Cl (aj Z) (Cl (ak 1 Z Z Z) ?_)))))))))
 refine Cl (dm 5 Z Z Z U) (Cl (cE Z X X) (Cl (aj Z) (Cl (ak 1 Z Z Z) ?_)))
 refine Cl (am (h) Z ⟨A,A,A,Cr⟩) ?_
 refine bO 0 Z Z Z Z (Cq (aa (aE ?_)))
 refine aV Tryz.results13 (.cellW 0 Z Z A)
end Tor
end
section
namespace Tor
open Go Go.RowKit Go.Proofs
theorem sz9:Sz 4 9:=⟨by decide,by decide +kernel,by decide +kernel⟩
theorem BT:Sz 4 324:=⟨by decide,by decide +kernel,by decide +kernel⟩
attribute [local irreducible] J PJ aC one slT bJ bH bF exT ch eP aQ aK slV VT.le Ret bQ dG el
attribute [local irreducible] aR dZ co
set_option maxRecDepth 100000 in
theorem lW (r c:Nat) (l:List Int) (r' c':Nat) (l':List Int):nO Tryz.prog 5 [fX r c l,fX r' c' l'] (one (.bool true)):=by
 have hsq:=iQ r c l
 have hsq2:=iQ r c' l'
 have hr:r % 5≤4:=by omega
 generalize hF:(fun i j=>dig l (i*(r % 5)+j))=F at *
 have aF : ∀ i j,(F i j).natAbs≤9:=fun i j=>by rw [← hF]; exact jO _ _
 have mF : ∀ i j,fW (F i j):=fun i j=>by rw [← hF]; exact rV _ _
 generalize hG:(fun i j=>dig l' (i*(r % 5)+j))=G at *
 have aG : ∀ i j,(G i j).natAbs≤9:=fun i j=>by rw [← hG]; exact jO _ _
 have mG : ∀ i j,fW (G i j):=fun i j=>by rw [← hG]; exact rV _ _
 generalize r % 5=n at *
 have hsan:=ju
 have v1:=gv sz9 hr F aF
 have v2:=gv sz9 hr G aG
 have hPr:=rx n n F n G X X X mF mG
 have v3:=gv BT hr (nC n F G) (yJ hr aF aG)
 rw [yI] at v3
 have hTr:=n9 n n F X X
 have v4:=gv sz9 hr (fun i j=>F j i) (fun i j=>aF j i)
 rw [Ai] at v4
 have hMul:=fN (Lin.bX n F) (Lin.bX n G) (sz9.small hr aF) (sz9.small hr aG)
 generalize Lin.bX n F=d at *
 generalize Lin.bX n G=f at *
 have s1:=kA (d*f)
 have s2:=kA d
 clear hF hG aF aG mF mG
 unfold fX at *
 refine nO.enter Tryz.func5 Z Tryz.ntmps5 Z (fun w O => ?_)
 refine ae (ai ?_)
 refine be Z Z (ltN Z) (fun b2 => ?_)
 refine be Z Z (ltN Z) (fun b3 => ?_)
 refine Cn Z (Cq (aa (ae (ai (Cl (am (hsan) Z trivial) (Cn Z (Cq (aa (ae ?_)))))))))
 refine ai (Cl (aj Z) (Cl (ak 1 Z Z Z) (Cl (aj Z) (ay 0 Z Z Z Z Z (leN Z) Z (Cq (aa (ae ?_)))))))
 refine jz bD Y Y ?_
 refine ux (fun B=>bj 1 Z Z) Z Z ?_
 refine uxk (hsq) Z ⟨A,Cr⟩ Z ?_
 refine ux (fun B=>bj 0 Z Z) Z Z ?_
 refine uxk (hsq2) Z ⟨A,Cr⟩ Z ?_
 refine ua Z (ua Z (us Z (us Z ?_)))
 refine RunU.nil (fun γ => ?_)
 refine gC (M' := [_,_,_,_]) Z (aa (ae (ai (Cl (ak 1 Z Z Z) ?_))))
 refine Cl (am (v1) Z ⟨A,Cr⟩) ?_
 refine Cm Z (Cl (aA Z Z) (Cl (aA Z Z) ?_))
 refine aJ (T:=28) Z (ltN Z) (fun b8 => ?_)
 refine ay 0 Z Z Z Z Z (leN Z) Z (Cn Z (Cq (aa (ae (ai (Cl (ak 1 Z Z Z) ?_))))))
 refine Cl (am (v2) Z ⟨A,Cr⟩) ?_
 refine Cm Z (Cl (aA Z Z) (Cl (aA Z Z) ?_))
 refine aJ (T:=28) Z (ltN Z) (fun b10 => ?_)
 refine ay 0 Z Z Z Z Z (leN Z) Z (Cn Z (Cq (aa (ae (ai (Cl (ak 3 Z Z Z) (Cl (ak 2 Z Z Z) ?_)))))))
 refine Cl (am (hPr) Z ⟨A,A,Cr⟩) ?_
 refine Cl (am (v3) Z ⟨A,Cr⟩) ?_
 refine Cm Z (Cl (aA Z Z) (Cl (aA Z Z) ?_))
 refine aJ (T:=28) Z (ltN Z) (fun b12 => ?_)
 refine ay 0 Z Z Z Z Z (leN Z) Z (Cn Z (Cq (aa (ae (ai (Cl (ak 4 Z Z Z) ?_))))))
 refine Cl (am (hTr) Z ⟨A,Cr⟩) ?_
 refine Cl (am (v4) Z ⟨A,Cr⟩) ?_
 refine Cm Z (Cl (aA Z Z) (Cl (aA Z Z) ?_))
 refine aJ (T:=28) Z (ltN Z) (fun b14 => ?_)
 refine ay 0 Z Z Z Z Z (leN Z) Z (Cn Z (Cq (aa (ae (bm 25 bD Y U (Cm Z (Cm Z (Cp (ab Z) (Cl (bG Z Z) ?_)))))))))
 refine Cm Z (Cp (ab Z) (Cl (bG Z Z) (Cm Z (Cp (ab Z) (Cl (bG Z Z) (Cm Z (Cp (ak 1 Z Z Z) (Cp (ak 3 Z Z Z) (Cp (ak 2 Z Z Z) ?_)))))))))
 refine Cp (am (hMul) Z ⟨A,A,Cr⟩) ?_
 refine Cp (am (s1) Z ⟨A,A,Cr⟩) ?_
 refine Cl (bG Z Z) (Cm Z (Cp (ak 0 Z Z Z) (Cp (ak 3 Z Z Z) ?_)))
 refine Cp (am (s2) Z ⟨A,A,Cr⟩) ?_
 refine Cl (bG Z Z) (Cm Z (Cp (ab Z) (Cl (bG Z Z) (Cq (Cn Z (Cq (aa (aE ?_))))))))
 refine aV Tryz.results5 (.tmp Z A)
end Tor
end
section
namespace Tor
open Go Go.RowKit
variable [Tor.Co.Kc]
section
variable {P:Program} {E:Env} {ops:Array Oper} {σ:Type}
def MkO (P:Program) (E:Env) (Γ:Ctx) (M:Mem) (o:Oper) (ψ:σ→VT) (Ms:σ→Mem):Prop :=
 ∀ (a:Act) (w:World),Base E M w→(∀ x φ,x∈o.op.operands→aB Γ x=some φ→φ.p (a.eval x) (hv E M w)) →
  ∀ (next:Act→World→Prop),
   (∀ s v w',Ext w w'→(∀ q∈Ms s,q.p (raw w') (hid ((E.O ++ aU M) ++ aU (Ms s)) (view w')))→(aU (Ms s)).Nodup→(∀ b∈aU (Ms s),w.heap.size≤b∧b<w'.heap.size) →
    (ψ s).p v (hid ((E.O ++ aU M) ++ aU (Ms s)) (view w'))→next (a.put o.dst v) w')→Co.opX P o a w next
theorem uK {Γ:Ctx} {M:Mem} {f:FuncId} [hF:Fn P f] {xs:Array Operand} {ats:Array TypeId} {φs φs':List VT} {ψ:σ→VT} {Ms:σ→Mem} {d:Option Tmp} {ty:TypeId} {pos:String} {af:Array Edge} {gd:Option (Nat × Bool)} (h:OkM P f φs' ψ Ms) (hx:fH Γ xs.toList=some φs) (hle:gS φs φs') :
  MkO P E Γ M ⟨d, .call ⟨.value (.func f),xs,ats⟩,ty,pos,af,gd⟩ ψ Ms:=by
 intro a w hb hf next hn
 have hp:=fC (a:=a) (h:=hv E M w) hx (fun x φ hx' he=>hf x φ (by simp [Op.operands,Call.operands]; exact .inr (by simpa using hx')) he)
 have hcall:=h w _ _ hb.ex (gc hle hp)
 refine ⟨fun _=>hF.plain _,?_⟩
 have hr:(execOp a.eval ⟨d, .call ⟨.value (.func f),xs,ats⟩,ty,pos,af,gd⟩).run P w = .ok (.enter f (xs.toList.map a.eval).toArray) w:=by
  have h0:a.eval (.func f) = .func (.func f) #[] #[]:=rfl
  have h9:(xs.map a.eval)=(xs.toList.map a.eval).toArray:=by simp [← Array.toList_map]
  simp [execOp,resolve,Deferred.ofValue,invoke,h0,hF.run,h9]
 rw [hr]
 refine iw hcall ?_
 rintro e w' ⟨s,v,rfl,hv',hext,hmem,hnd,hbl⟩
 exact ⟨v,rfl,hn s v w' hext hmem hnd (fun b h=>⟨(hbl b h).1,(hbl b h).2.1⟩) hv'⟩
theorem o6 {Γ:Ctx} {M:Mem} {T:TypeId} {m:Nat} {z:Array Value} {pl:List (Nat × Lay)} [hB:BuildOf P T m z pl] {ψ:σ→VT} {Ms:σ→Mem} {d:Option Tmp} {ty:TypeId} {pos:String} {af:Array Edge} {gd:Option (Nat × Bool)} (g:Nat→σ)
  (h1 : ∀ b, ψ (g b)=one (.pointer (some ⟨b,0,none⟩))) (h2 : ∀ b,Ms (g b) = [aQ b T m (dg z pl)]) (hz:(pl.all fun q=>(bN q.2 z q.1).isSome)=true) :
  MkO P E Γ M ⟨d, .alloc T,ty,pos,af,gd⟩ ψ Ms:=by
 intro a w hb hf next hn
 have hz0:=hB.zero w
 refine ⟨fun h=>(by cases h),?_⟩
 have hr:(execOp a.eval ⟨d, .alloc T,ty,pos,af,gd⟩).run P w = .ok (.value (.pointer (some ⟨w.heap.size,0,none⟩))) (w.alloc (.cells z T)):=by
  simp [execOp,Instr.alloc,Sem.run_bind,hz0,newVar,newRow,newObj,Sem.run,Value.cells]
 rw [hr]
 refine hn (g w.heap.size) _ _ (Ext.alloc w _) ?_ ?_ ?_ ?_
 ·rw [h2]; intro q hq
  cases List.mem_singleton.1 hq
  exact ⟨z,cn w _ _ _,hB.zs,hB.zo,kG hz⟩
 ·rw [h2]; simp [aU,aQ]
 ·rw [h2]; intro b hb'
  simp [aU,aQ] at hb'
  subst hb'
  exact ⟨Nat.le_refl _,eh (cn w _ _ _)⟩
 ·rw [h1]; rfl
inductive OpW (P:Program) (E:Env) (M:Mem) (ops:Array Oper) (mk:List Nat) (ψm:Nat→σ→VT) (Ms:Nat→σ→Mem) (i:Nat) (Γ:(Nat→σ)→Ctx) (o:Oper):((Nat→σ)→Ctx)→Prop
 | pure {d : Nat} {ψ : (Nat → σ) → VT} (ds : List Nat) : mk.elem i = false → (ds.all fun j => iS 6 ops j i) = true → (∀ s s', (∀ j ∈ ds, s j = s' j) → ψ s = ψ s') → (∀ s B, StepG P (E.hide B) (Γ s) M ops o ((d, ψ s) :: Γ s)) → OpW P E M ops mk ψm Ms i Γ o (fun s => (d, ψ s) :: Γ s)
 | make {d : Nat} : mk.elem i = true → o.dst = some d → d < E.N → o.guard = none → (∀ s B, MkO P (E.hide B) (Γ s) M o (ψm i) (Ms i)) → OpW P E M ops mk ψm Ms i Γ o (fun s => (d, ψm i (s i)) :: Γ s)
inductive RunW (P:Program) (E:Env) (M:Mem) (ops:Array Oper) (mk:List Nat) (ψm:Nat→σ→VT) (Ms:Nat→σ→Mem):Nat→((Nat→σ)→Ctx)→List Oper→(((Nat→σ)→Ctx)→Prop)→Prop
 | nil {i Γ K} : K Γ → RunW P E M ops mk ψm Ms i Γ [] K
 | step {i Γ o os K Γ'} : OpW P E M ops mk ψm Ms i Γ o Γ' → RunW P E M ops mk ψm Ms (i + 1) Γ' os K → RunW P E M ops mk ψm Ms i Γ (o :: os) K
theorem RunW.chain {M:Mem} {mk:List Nat} {ψm:Nat→σ→VT} {Ms:Nat→σ→Mem} {i:Nat} {Γ:(Nat→σ)→Ctx} {os:List Oper} {K:((Nat→σ)→Ctx)→Prop} (h:RunW P E M ops mk ψm Ms i Γ os K) :
  ∃ (G:Nat→(Nat→σ)→Ctx),G i=Γ∧K (G (i+os.length)) ∧ ∀ j o,os[j]? = some o→OpW P E M ops mk ψm Ms (i+j) (G (i+j)) o (G (i+j+1)):=by
 induction h with
 | @nil i Γ K hK => exact ⟨fun _ => Γ, rfl, hK, fun j o h => by simp at h⟩
 | @step i Γ o os K Γ' hs _ ih =>
  obtain ⟨G,h0,hK,hG⟩:=ih
  refine ⟨fun j=>if j=i then Γ else G j,by simp,?_,fun j o' hj => ?_⟩
  ·have e1:i+(o :: os).length=i+1+os.length:=by simp only [List.length_cons]; omega
   have e2 : ¬ (i+(o :: os).length=i):=by simp only [List.length_cons]; omega
   simp only [if_neg e2,e1]; rw [e1] at e2;simp only [if_neg e2]; exact hK
  ·cases j with
   | zero =>
    simp only [List.getElem?_cons_zero,Option.some.injEq] at hj;subst hj
    have e : ¬ (i+0+1=i):=by omega
    simp only [Nat.add_zero,if_true] at e ⊢; rw [if_neg e,h0]; exact hs
   | succ j =>
    simp only [List.getElem?_cons_succ] at hj
    have:=hG j o' hj
    have e1 : ¬ (i+(j+1)=i):=by omega
    have e2 : ¬ (i+(j+1)+1=i):=by omega
    simp only [if_neg e1,if_neg e2]
    rw [show i+(j+1)=i+1+j by omega]; exact this
theorem OpW.dst {M:Mem} {mk:List Nat} {ψm:Nat→σ→VT} {Ms:Nat→σ→Mem} {i:Nat} {Γ Γ':(Nat→σ)→Ctx} {o:Oper} (h:OpW P E M ops mk ψm Ms i Γ o Γ') (s0:Nat→σ) : ∃ (d:Nat) (ψ:(Nat→σ)→VT),o.dst=some d∧d<E.N ∧ ∀ s, Γ' s=(d, ψ s) :: Γ s:=by
 cases h with
 | @pure d ψ ds _ _ _ hs =>
  obtain ⟨d', ψ',h1,h2,h3⟩:=(hs s0 []).dst'
  simp only [List.cons.injEq,Prod.mk.injEq,and_true] at h3
  exact ⟨d, ψ,by rw [h1,h3.1],by rw [h3.1]; exact h2,fun s=>rfl⟩
 | @make d _ h1 h2 _ _ => exact ⟨d, fun s => ψm i (s i), h1, h2, fun s => rfl⟩
section
variable {M:Mem} {mk:List Nat} {ψm:Nat→σ→VT} {Ms:Nat→σ→Mem} {G:Nat→(Nat→σ)→Ctx} {n:Nat}
theorem tz (hG : ∀ j o,j<n→ops[j]? = some o→OpW P E M ops mk ψm Ms j (G j) o (G (j+1))) (s:Nat→σ) {t j:Nat} {o:Oper} (hj:j<n) (ho:ops[j]? = some o) (hno:dstOf ops j≠some t):bA (G (j+1) s) t=bA (G j s) t:=by
 obtain ⟨d, ψ,hd,_,hΓ⟩:=(hG j o hj ho).dst s
 rw [hΓ,aW,if_neg]
 intro e;subst e;exact hno (by simp [dstOf,ho,hd])
theorem g9 (hG : ∀ j o,j<n→ops[j]? = some o→OpW P E M ops mk ψm Ms j (G j) o (G (j+1))) (hn:n≤ops.size) (s:Nat→σ) {t i k:Nat} (hik:i≤k) (hk:k≤n)
    (hno : ∀ j,i≤j→j<k→dstOf ops j≠some t):bA (G k s) t=bA (G i s) t:=by
  induction k with
  | zero => have : i = 0 := by omega
            subst this;rfl
  | succ k ih =>
    by_cases e:i=k+1
    · subst e;rfl
    · have ho:ops[k]? = some ops[k]:=by simp [show k<ops.size by omega]
      rw [tz hG s X ho (hno k X X)]
      exact ih X X (fun j h1 h2=>hno j h1 X)
theorem yK (hG : ∀ j o,j<n→ops[j]? = some o→OpW P E M ops mk ψm Ms j (G j) o (G (j+1))) (hn:n≤ops.size) {s s':Nat→σ} (h0:G 0 s=G 0 s') {l:Array Bool} (hl:Lst ops l) (hs : ∀ j,l.getD j false=true→s j=s' j) :
  ∀ k,k≤n → ∀ t,(∀ j,j<k→dstOf ops j=some t→l.getD j false=true)→bA (G k s) t=bA (G k s') t
 | 0, _, t, _ => by rw [h0]
 | k + 1, hk, t, hw => by
  have ho:ops[k]? = some ops[k]:=by simp [show k<ops.size by omega]
  have ih:=yK hG hn h0 hl hs k X t (fun j hj=>hw j X)
  have hop:=hG k _ X ho
  obtain ⟨d, ψ,hd,_,hΓ⟩:=hop.dst s
  have hdk:dstOf ops k=some d:=by simp [dstOf,ho,hd]
  rw [hΓ s,hΓ s',aW,aW]
  by_cases e:d=t
  ·rw [if_pos e,if_pos e]
   have hlk:=hw k X (by rw [hdk,e])
   generalize hX:G (k+1)=Cb at hop hΓ
   generalize hY:G k=Cc at hop hΓ
   cases hop with
   | @pure d' ψ' ds hb hp hψ hst =>
    have e1:=hΓ s
    have e2:=hΓ s'
    simp only [List.cons.injEq,Prod.mk.injEq,and_true] at e1 e2
    rw [← e1.2, ← e2.2,hψ s s' (fun j hj=>hs j (lC hl 6 k hlk j (by have:=List.all_eq_true.1 hp j hj;exact this)))]
   | make hb h1 h2 h3 h4 =>
    have e1:=hΓ s
    have e2:=hΓ s'
    simp only [List.cons.injEq,Prod.mk.injEq,and_true] at e1 e2
    rw [← e1.2, ← e2.2,hs k hlk]
  ·rw [if_neg e,if_neg e]; exact ih
end
theorem rX {fq n:Nat} {E':Env} {G G':Nat→Ctx} {M:Mem} {l:Array Bool} {a:Act} {w w':World} {i d:Nat} {v:Value} (hok:ek fq n ops=true) (hl:Lst ops l) (hd:d<a.tmps.size) (hi1:i<ops.size) (hi2:l.getD i false=false) (hdi:dstOf ops i=some d)
  (hbt : ∀ k t,i+1≤k→k≤n→(∀ j,i+1≤j→j<k→dstOf ops j≠some t)→bA (G' k) t=bA (G' (i+1)) t) (hself : ∀ φ,bA (G' (i+1)) d=some φ→φ.p v (hv E' M w'))
  (hag : ∀ k,k≤n → ∀ t,(∀ j,j<k→dstOf ops j=some t→l.getD j false=true)→bA (G' k) t=bA (G k) t) (hle:Hp.le (hv E M w) (hv E' M w')) (hI:Inv E ops n G M l a w) :
  Inv E' ops n G' M (l.setIfInBounds i true) (a.put (some d) v) w':=by
 have hn:n≤ops.size:=by simp only [ek,Bool.and_eq_true] at hok;exact of_decide_eq_true hok.1
 have hls:=hl.size
 have hsame : ∀ j,j≠i→(l.setIfInBounds i true).getD j false=l.getD j false:=fun j hj=>by rw [aX X,if_neg (fun e=>hj e.symm)]
 have hself':(l.setIfInBounds i true).getD i false=true:=by rw [aX X,if_pos Z]
 intro k' hk' t φ hlk hlo hhi
 by_cases htd:d=t
 ·subst htd
  have hik:i<k':=by
   rcases Nat.lt_or_ge i k' with h' | h'
   ·exact h'
   ·have:=hhi i h' hi1 hdi;rw [hself'] at this;cases this
  have hno : ∀ j,i+1≤j→j<k'→dstOf ops j≠some d:=by
   intro j h1 h2 hdj
   have h3:=hlo j h2 hdj
   rw [hsame j X] at h3
   rcases c6 hok (i:=i) (j:=j) X X with hp | ⟨_,hp⟩
   ·have:=lC hl _ j h3 i hp;rw [this] at hi2;cases hi2
   ·rw [eQ hdi hdj] at hp;cases hp
  rw [hbt k' d X hk' hno] at hlk
  rw [bp hd]; exact hself φ hlk
 ·rw [aT htd]
  have hlo' : ∀ j,j<k'→dstOf ops j=some t→l.getD j false=true:=fun j hj hdj=>by
   have hji:j≠i:=fun e=>by subst e;rw [hdi] at hdj;cases hdj;exact htd Z
   have:=hlo j hj hdj;rwa [hsame j hji] at this
  rw [hag k' hk' t hlo'] at hlk
  refine φ.mono hle (hI k' hk' t φ hlk hlo' (fun j hj hjs hdj => ?_))
  have hji:j≠i:=fun e=>by subst e;rw [hdi] at hdj;cases hdj;exact htd Z
  have:=hhi j hj hjs hdj;rwa [hsame j hji] at this
theorem tA {fq n:Nat} {G:Nat→Ctx} {M:Mem} {l:Array Bool} {a:Act} {w:World} (hI:Inv E ops n G M l a w) (hok:ek fq n ops=true) (hl:Lst ops l)
  {i:Nat} {o:Oper} (hin:i<n) (ho:ops[i]? = some o) (hi2:l.getD i false=false) (hi:i∈Region.ready .any ops l) :
  ∀ t φ,t∈iZ ops o→bA (G i) t=some φ→φ.p (a.tmps.getD t undef) (hv E M w):=by
 have hi1:=cD hi
 intro t φ ht hlk
 refine hI i X t φ hlk (fun j hj hdj => ?_) (fun j hj hjs hdj => ?_)
 ·rcases c6 hok hj hi1 with hp | ⟨_,hp⟩
  ·exact qs hl hi hp
  ·rw [d9 hdj (by simpa [cZ,ho] using ht)] at hp;cases hp
 ·rcases Nat.lt_or_ge i j with h' | h'
  ·rw [← Bool.not_eq_true]; intro hlj
   rcases c6 hok h' hjs with hp | ⟨_,hp⟩
   ·have:=lC hl _ j hlj i hp;rw [this] at hi2;cases hi2
   ·rw [dI hdj (by simpa [cZ,ho] using ht)] at hp;cases hp
  ·have:j=i:=by omega
   subst this;exact hi2
theorem tB {fq n:Nat} (hok:ek fq n ops=true) {Q:Act→World→Prop} (Iv:Array Bool→Act→World→Prop)
  (hstep : ∀ l a w i,Iv l a w→Lst ops l→i<n→l.getD i false=false→i∈Region.ready .any ops l→Co.wpOpX P ops i (fun a' w'=>Iv (l.setIfInBounds i true) a' w') a w)
  (htail : ∀ l a w,Iv l a w→Lst ops l→(∀ j,j<ops.size→(l.getD j false=true↔j<n))→Co.wpOpsX P ops Q (List.range' n (ops.size - n)) a w)
  (hgrow : ∀ l a w w₁,Iv l a w→Ext w w₁→Iv l a w₁) :
  ∀ (fuel:Nat) (l:Array Bool) (a:Act) (w:World),Lst ops l→left ops l≤fuel→Iv l a w→(∃ i,i<n∧l.getD i false=false)→Co.wpAnyX P .any ops Q fuel l a w:=by
 have hn:n≤ops.size:=by simp only [ek,Bool.and_eq_true] at hok;exact of_decide_eq_true hok.1
 have tail : ∀ (m:Nat) (fuel:Nat) (l:Array Bool) (k:Nat) (a:Act) (w:World),k+m=ops.size→n≤k→Lst ops l→(∀ j,j<ops.size→(l.getD j false=true↔j<k))→m≤fuel →
   Co.wpOpsX P ops Q (List.range' k m) a w→Co.wpAnyX P .any ops Q fuel l a w:=by
  intro m
  induction m with
  | zero =>
   intro fuel l k a w hkm hnk hl hiff _ h
   have hr:Region.ready .any ops l = []:=by
    rw [List.eq_nil_iff_forall_not_mem]
    intro j hj
    have h1:=cD hj
    have h2:=(mem_ready.1 hj).1
    have h3:=(hiff j h1).2 X
    rw [db (by have:=hl.size;omega) true false,h3] at h2;cases h2
   have hq:Q a w:=by simpa [Co.wpOpsX] using h
   cases fuel with
   | zero => exact ⟨hr, hq⟩
   | succ f => exact ⟨fun _ => hq, fun i hi => by rw [hr] at hi; cases hi⟩
  | succ m ih =>
   intro fuel l k a w hkm hnk hl hiff hf h
   obtain ⟨f,rfl⟩ : ∃ f,fuel=f+1:=⟨fuel - 1,by omega⟩
   have hsz:=hl.size
   have hkl:l.getD k false=false:=by
    rw [← Bool.not_eq_true]; intro h';have:=(hiff k X).1 h';omega
   refine ⟨fun hr => ?_,fun i hi w₁ hw₁ => ?_⟩
   ·obtain ⟨i,hi⟩:=jy hok hsz (j:=k) X hkl
    rw [hr] at hi;cases hi
   ·have hi1:=cD hi
    have hi2:=(mem_ready.1 hi).1
    rw [db X true false] at hi2
    have hik:k≤i:=by
     rcases Nat.lt_or_ge i k with h' | h'
     ·rw [(hiff i hi1).2 h'] at hi2;cases hi2
     ·exact h'
    have:i=k:=by
     rcases Nat.lt_or_ge k i with h' | h'
     ·rcases c6 hok h' hi1 with hp | ⟨hp,_⟩
      ·have:=qs hl hi hp;rw [this] at hkl;cases hkl
      ·omega
     ·omega
    subst this
    rw [List.range'_succ] at h
    refine Co.wpOpX_mono (fun a' w' h' => ?_) (h w₁ hw₁)
    refine ih f _ (i+1) a' w' X X ⟨by simpa using hsz,?_⟩ ?_ X h'
    ·intro j hj i' hp
     rw [aX X] at hj ⊢
     split
     ·rfl
     ·split at hj
      ·rename_i h1;subst h1;exact bU hi hp
      ·exact hl.closed j hj i' hp
    ·intro j hj
     rw [aX X]
     split
     ·rename_i h1;subst h1;simp
     ·rename_i h1;rw [hiff j hj]; omega
 intro fuel
 induction fuel with
 | zero =>
  intro l a w hl hleft _ ⟨i,hi,hil⟩
  have:=dw (ops:=ops) hl.size (i:=i) X hil
  omega
 | succ fuel ih =>
  intro l a w hl hleft hI ⟨i0,hi0,hil0⟩
  have hls:=hl.size
  refine ⟨fun hr => ?_,fun i hi w₁ hw₁ => ?_⟩
  ·obtain ⟨i,hi⟩:=jy hok hls (j:=i0) X hil0
   rw [hr] at hi;cases hi
  ·have hi1:=cD hi
   have hi2:l.getD i false=false:=by
    have:=(mem_ready.1 hi).1
    rw [db X true false] at this;exact this
   have hin:i<n:=by
    rcases Nat.lt_or_ge i n with h' | h'
    ·exact h'
    ·rcases c6 hok (i:=i0) (j:=i) X hi1 with hp | ⟨hp,_⟩
     ·have:=qs hl hi hp;rw [this] at hil0;cases hil0
     ·omega
   refine Co.wpOpX_mono (fun a' w' h' => ?_) (hstep l a w₁ i (hgrow l a w w₁ hI hw₁) hl hin hi2 hi)
   have hl':Lst ops (l.setIfInBounds i true):=by
    refine ⟨by simpa using hls,fun j hj i' hp => ?_⟩
    rw [aX X] at hj ⊢
    split
    ·rfl
    ·split at hj
     ·rename_i h1;subst h1;exact bU hi hp
     ·exact hl.closed j hj i' hp
   have hleft':=dw (ops:=ops) hls hi1 hi2
   by_cases hmore : ∃ i',i'<n∧(l.setIfInBounds i true).getD i' false=false
   ·exact ih _ _ _ hl' X h' hmore
   ·have hall : ∀ j,j<n→(l.setIfInBounds i true).getD j false=true:=by
     intro j hj;rw [← Bool.not_eq_false]; intro h;exact hmore ⟨j,hj,h⟩
    have hlate : ∀ j,n≤j→j<ops.size→(l.setIfInBounds i true).getD j false=false:=by
     intro j hj hjs
     rw [aX X,if_neg X, ← Bool.not_eq_true]
     intro hlj
     rcases c6 hok (i:=i) (j:=j) X hjs with hp | ⟨hp,_⟩
     ·have:=lC hl _ j hlj i hp;rw [this] at hi2;cases hi2
     ·omega
    have hiff : ∀ j,j<ops.size→((l.setIfInBounds i true).getD j false=true↔j<n):=fun j hj=>by
     constructor
     ·intro h;rcases Nat.lt_or_ge j n with h' | h'
      ·exact h'
      ·rw [hlate j h' hj] at h;cases h
     ·exact hall j
    refine tail (ops.size - n) fuel _ n _ w' X (Nat.le_refl _) hl' hiff ?_ (htail _ _ _ h' hl' hiff)
    have:ops.size - n≤left ops (l.setIfInBounds i true):=by
     unfold left
     have h1:(List.range' n (ops.size - n)).Sublist ((List.range ops.size).filter fun i' => !(l.setIfInBounds i true).getD i' false):=by
      have h2:((List.range' n (ops.size - n)).filter fun i' => !(l.setIfInBounds i true).getD i' false)=List.range' n (ops.size - n):=by
       rw [List.filter_eq_self]
       intro j hj;rw [List.mem_range'_1] at hj
       rw [hlate j X X]; rfl
      rw [← h2]
      refine List.Sublist.filter _ ?_
      have h3:List.range ops.size=List.range' 0 n ++ List.range' n (ops.size - n):=by
       have := @List.range'_append 0 n (ops.size - n) 1
       rw [List.range_eq_range']
       simp only [Nat.one_mul,Nat.zero_add] at this
       rw [this]; congr 1;omega
      rw [h3]; exact List.sublist_append_right _ _
     have:=h1.length_le;simpa using this
    omega
def gQ (Ms:Nat→σ→Mem) (s:Nat→σ) (ord:List Nat):Mem:=ord.flatMap fun j=>Ms j (s j)
theorem lX {Ms:Nat→σ→Mem} {s:Nat→σ} {j:Nat} {ord:List Nat} : gQ Ms s (j :: ord)=Ms j (s j) ++ gQ Ms s ord:=rfl
theorem nQ {Ms:Nat→σ→Mem} {s s':Nat→σ} : ∀ {ord:List Nat},(∀ j∈ord,s j=s' j)→gQ Ms s ord=gQ Ms s' ord
 | [], _ => rfl
 | j :: ord, h => by rw [lX, lX, h j List.mem_cons_self, nQ (fun k hk => h k (List.mem_cons_of_mem _ hk))]
structure IvW (E:Env) (D:List Deferred) (M:Mem) (ops:Array Oper) (n:Nat) (mk:List Nat) (Ms:Nat→σ→Mem) (G:Nat→(Nat→σ)→Ctx) (s:Nat→σ) (ord:List Nat) (l:Array Bool) (a:Act) (w:World):Prop where
 sz:a.tmps.size=E.N
 df:a.defers=D
 nd:ord.Nodup
 mem : ∀ j,j∈ord↔(j∈mk∧l.getD j false=true)
 base:Base E (gQ Ms s ord ++ M) w
 inv:Inv (E.hide (aU (gQ Ms s ord))) ops n (fun k=>G k s) M l a w
theorem BD {D:List Deferred} {Γ:Ctx} {M:Mem} {id:Nat} {Q:Exit→Act→World→Prop} (fq n:Nat) (mk:List Nat) (s0:σ) (ψm:Nat→σ→VT) (Ms:Nat→σ→Mem) (hm:P.follows .mixedOrders=true) (hok:ek fq n ops=true) (hn0:0<n) (hmk:(mk.all fun j=>decide (j<n))=true) (hmd:mk.Nodup)
  (h:RunW P E M ops mk ψm Ms 0 (fun _=>Γ) (ops.toList.take n) (fun Γ' => ∀ s,Run P E ops false n D (Γ' s) (gQ Ms s mk ++ M) (ops.toList.drop n) (fun D' Γ' M'=>PJ E D' Γ' M' .normal Q))):J P E D Γ M (.region id ops true) Q:=by
 intro a w hS
 have hn:n≤ops.size:=by simp only [ek,Bool.and_eq_true] at hok;exact of_decide_eq_true hok.1
 refine dQ hm fun w₁ hw₁ => ?_
 have k0:Ext w { w₁ with drawn:=w₁.drawn+1 } := hw₁.trans ⟨rfl,rfl,rfl,Nat.le_refl _,fun _ _=>rfl⟩
 obtain ⟨G,hG0,hK,hG'⟩:=h.chain
 have hlen:(ops.toList.take n).length=n:=by simp [hn]
 rw [hlen,Nat.zero_add] at hK
 have hG : ∀ j o,j<n→ops[j]? = some o→OpW P E M ops mk ψm Ms j (G j) o (G (j+1)):=fun j o hj ho=>by
  have:=hG' j o (by rw [List.getElem?_take,if_pos hj]; simpa using ho)
  simpa using this
 have hl0 : ∀ j,(Array.replicate ops.size false).getD j false=false:=fun j=>by
  simp [Array.getD_eq_getD_getElem?,Array.getElem?_replicate]; split <;> rfl
 refine tB hok (fun l a' w' => ∃ s ord,IvW E D M ops n mk Ms G s ord l a' w') ?_ ?_ (fun l a w w' ⟨s,ord,h⟩ k=>⟨s,ord,⟨h.sz,h.df,h.nd,h.mem,h.base.ext k,fun i hi t φ e1 e2 e3=>φ.mono (Base.hv_ext k) (h.inv i hi t φ e1 e2 e3)⟩⟩) ops.size _ a _ ⟨by simp,fun j hj => ?_⟩ ?_ ⟨fun _=>s0, [],hS.sz,hS.df,List.nodup_nil,fun j => ?_,?_,?_⟩ ⟨0,hn0,hl0 0⟩
 ·rintro l a' w' i ⟨s,ord,hI⟩ hl hin hi2 hi
  have hi1:=cD hi
  have hls:=hl.size
  have ho:ops[i]? = some ops[i]:=by simp [hi1]
  have hsame : ∀ j,j≠i→(l.setIfInBounds i true).getD j false=l.getD j false:=fun j hj=>by rw [aX X,if_neg (fun e=>hj e.symm)]
  have hself:(l.setIfInBounds i true).getD i false=true:=by rw [aX X,if_pos Z]
  have hnm:=tA hI.inv hok hl hin ho hi2 hi
  generalize hX:G (i+1)=Cb
  generalize hY:G i=Cc at hnm
  have hop:=hG i _ hin ho
  have hX2:=hX
  rw [hX,hY] at hop
  cases hop with
  | @pure d ψ ds hb hp hψ hst =>
   obtain ⟨d', ψ',hd,hN,hΓ,hrun⟩:=(hst s (aU (gQ Ms s ord))).run ho
   simp only [List.cons.injEq,Prod.mk.injEq,and_true] at hΓ
   obtain ⟨e1,e2⟩:=hΓ
   subst e1 e2
   have hdi:dstOf ops i=some d:=by simp [dstOf,ho,hd]
   refine hrun a' w' hI.base.swap hnm _ fun v w'' k hv'=>⟨s,ord,by simp [Act.put,hI.sz],hI.df,hI.nd,fun j => ?_,hI.base.ext k,?_⟩
   ·rw [hI.mem j]
    by_cases e:j=i
    ·subst e
     constructor
     ·rintro ⟨_,h2⟩;rw [h2] at hi2;cases hi2
     ·rintro ⟨h1,_⟩;rw [List.elem_eq_true_of_mem h1] at hb;cases hb
    ·rw [hsame j e]
   ·refine rX (G:=fun k=>G k s) hok hl (by rw [hI.sz]; exact hN) hi1 hi2 hdi (fun k t h1 h2 h3=>g9 hG hn s h1 h2 h3) (fun φ hlk => ?_) (fun _ _ _ _=>rfl) (Base.hv_ext k) hI.inv
    have hlk:bA (G (i+1) s) d=some φ:=hlk
    rw [hX2,aW,if_pos Z] at hlk
    cases hlk;exact hv'
  | @make d hb hd hN hg hmkO =>
   have hdi:dstOf ops i=some d:=by simp [dstOf,ho,hd]
   have hB:=hI.base.swap
   have hpo : ∀ x φ,x∈(ops[i]).op.operands→aB (Cc s) x=some φ→φ.p (a'.eval x) (hv (E.hide (aU (gQ Ms s ord))) M w'):=fun x φ hx he=>by
    cases x with
    | tmp t => exact hnm t φ (List.mem_append.2 (.inl (List.mem_filterMap.2 ⟨.tmp t, by simpa using hx, rfl⟩))) he
    | const v => cases he; rfl
    | global g => cases he; rfl
    | func f => cases he; rfl
   simp only [Co.wpOpX,ho,cT (o:=ops[i]) hg,if_true]
   refine hmkO s (aU (gQ Ms s ord)) a' w' hB hpo _ fun x v w'' hext hmem hnd hbl hv' => ?_
   have hni:i ∉ ord:=fun h=>by rw [((hI.mem i).1 h).2] at hi2;cases hi2
   have hs' : ∀ j∈ord,s j=(fun j=>if j=i then x else s j) j:=fun j hj=>by
    have:j≠i:=fun e=>hni (e▸hj)
    simp [this]
   have hcg:=nQ (Ms:=Ms) hs'
   have hS0:St E D [] (gQ Ms s ord ++ M) a' w':=⟨hI.base,hI.sz,hI.df,fun t φ h=>by cases h⟩
   have ehid : ∀ W:World,hid (((E.hide (aU (gQ Ms s ord))).O ++ aU M) ++ aU (Ms i x)) (view W)=hid ((E.O ++ aU (gQ Ms s ord ++ M)) ++ aU (Ms i x)) (view W):=fun W=>by
    unfold Env.hide;rw [bt, ← List.append_assoc]
   have hS1:=hS0.take hext (fun q hq=>by rw [← ehid]; exact hmem q hq) hnd hbl hN (by rw [← ehid]; exact hv')
   rw [hd]
   have e5:gQ Ms (fun j=>if j=i then x else s j) (i :: ord)=Ms i x ++ gQ Ms s ord:=by
    rw [lX, ← hcg]; simp
   refine ⟨fun j=>if j=i then x else s j,i :: ord,by simp [Act.put,hI.sz],hI.df,List.nodup_cons.2 ⟨hni,hI.nd⟩,fun j => ?_,?_,?_⟩
   ·rw [List.mem_cons,hI.mem j]
    by_cases e:j=i
    ·subst e
     exact ⟨fun _=>⟨by simpa using hb,hself⟩,fun _ => .inl Z⟩
    ·rw [hsame j e]
     exact ⟨fun h=>h.resolve_left e, .inr⟩
   ·rw [e5,List.append_assoc]; exact hS1.base
   ·rw [e5]
    have hle2:Hp.le (hv (E.hide (aU (gQ Ms s ord))) M w') (hv (E.hide (aU (Ms i x ++ gQ Ms s ord))) M w''):=by
     rw [gU,gU]
     intro b y e
     obtain ⟨g1,g2⟩:=c7 e
     refine eG ?_ (hext.view _ _ g2)
     intro h
     have hlt:=eh g2
     rw [List.append_assoc,bt] at h
     rcases List.mem_append.1 h with h | h
     ·exact g1 (List.mem_append.2 (.inl h))
     ·rcases List.mem_append.1 h with h | h
      ·have:=(hbl b h).1;omega
      ·exact g1 (List.mem_append.2 (.inr h))
    refine rX (G:=fun k=>G k s) hok hl (by rw [hI.sz]; exact hN) hi1 hi2 hdi (fun k t h1 h2 h3=>g9 hG hn _ h1 h2 h3) (fun φ hlk => ?_) (fun k hk t hw=>yK hG hn (by rw [hG0]) hl (fun j hj => ?_) k hk t hw) hle2 hI.inv
    ·have hlk:bA (G (i+1) (fun j=>if j=i then x else s j)) d=some φ:=hlk
     rw [hX2,aW,if_pos Z] at hlk
     cases hlk
     have:=hS1.tm d (ψm i x) (by rw [aW,if_pos Z])
     rw [bp (by rw [hI.sz]; exact hN)] at this
     rw [gU,List.append_assoc]
     simpa using this
    ·have:j≠i:=fun e=>by rw [e,hi2] at hj;cases hj
     simp [this]
 ·rintro l a' w' ⟨s,ord,hI⟩ hl hiff
  have hpm:ord.Perm mk:=(List.perm_ext_iff_of_nodup hI.nd hmd).2 fun j=>by
   rw [hI.mem j]
   refine ⟨fun h=>h.1,fun h=>⟨h,?_⟩⟩
   have hj:j<n:=of_decide_eq_true (List.all_eq_true.1 hmk j h)
   exact (hiff j X).2 hj
  have hpM:(gQ Ms s ord ++ M).Perm (gQ Ms s mk ++ M):=(hpm.flatMap_right _).append_right M
  have hSt:St E D (G n s) (gQ Ms s ord ++ M) a' w':=⟨hI.base,hI.sz,hI.df,fun t φ hlk=>by
   have:=hI.inv n (Nat.le_refl _) t φ hlk (fun j hj _=>(hiff j X).2 hj) (fun j hj hjs _=>by
    rw [← Bool.not_eq_true]; intro h;have:=(hiff j hjs).1 h;omega)
   rwa [gU] at this⟩
  have:=(hK s).seq (Q .normal) [] (fun j _=>by simp [List.getElem?_drop]) (fun D' Γ' M' a w hK hS=>by simpa [Co.wpOpsX] using hK a w hS) a' w' (kJ hpM hSt)
  simpa using this
 ·rw [hl0] at hj;cases hj
 ·unfold left;refine Nat.le_trans (List.length_filter_le _ _) (by simp)
 ·simp [hl0]
 ·exact hS.base.ext k0
 ·have e0:E.hide (aU (gQ Ms (fun _=>s0) []))=E:=by cases E;simp [Env.hide,gQ,aU]
  rw [e0]
  intro k' hk' t φ hlk hlo _
  have hno : ∀ j,0≤j→j<k'→dstOf ops j≠some t:=by
   intro j _ hj hd
   have:=hlo j hj hd
   rw [hl0] at this;cases this
  have hlk:bA (G k' (fun _=>s0)) t=some φ:=hlk
  rw [g9 hG hn (fun _=>s0) (Nat.zero_le _) hk' hno,hG0] at hlk
  exact φ.mono (Base.hv_ext k0) (hS.tm t φ hlk)
section
variable {M:Mem} {mk:List Nat} {ψm:Nat→σ→VT} {Ms:Nat→σ→Mem} {i:Nat} {Γ:(Nat→σ)→Ctx} {os:List Oper} {K:((Nat→σ)→Ctx)→Prop} {op:Op} {ty:TypeId} {pos:String} {af:Array Edge}
theorem kx {d:Nat} {ψ:VT} (hi:mk.elem i=false) (h : ∀ s B,aC P (E.hide B) (Γ s) M ⟨some d,op,ty,pos,af,none⟩ ψ) (hd:Nat.ble (d+1) E.N=true) (hr:RunW P E M ops mk ψm Ms (i+1) (fun s=>(d, ψ) :: Γ s) os K) :
  RunW P E M ops mk ψm Ms i Γ (⟨some d,op,ty,pos,af,none⟩ :: os) K := .step (.pure (ψ:=fun _=>ψ) [] hi Z (fun _ _ _=>rfl) (fun s B => .plain (h s B) Z Z (Nat.le_of_ble_eq_true hd))) hr
theorem kc {d:Nat} (hi:mk.elem i=true) (h : ∀ s B,MkO P (E.hide B) (Γ s) M ⟨some d,op,ty,pos,af,none⟩ (ψm i) (Ms i)) (hd:Nat.ble (d+1) E.N=true)
  (hr:RunW P E M ops mk ψm Ms (i+1) (fun s=>(d, ψm i (s i)) :: Γ s) os K):RunW P E M ops mk ψm Ms i Γ (⟨some d,op,ty,pos,af,none⟩ :: os) K := .step (.make hi Z (Nat.le_of_ble_eq_true hd) Z h) hr
end
end
end Tor
end
section
namespace Tor
open Go Go.RowKit Go.Proofs
def o7 (F:Prop):Own:=⟨[],fun _ _=>F,fun _ _ h=>h⟩
abbrev S3:=List Nat × Option Nat × Nat
def ok3 (r:Nat) (s:S3):Prop:=s.1.length=r∧(s.2.1=none→r=0)
def yL (r c:Nat) (s:S3):VT:=bH 3 [(0, .one,one (.int .i64 r)),(1, .one,one (.int .i64 c)),(2, .one,one (slV s.2.1 r s.2.2))]
def BE (r c:Nat) (s:S3) (F:Nat→Nat→Int):Mem := [o7 (ok3 r s),fR s.2.1 s.2.2 r c s.1,d5 c s.1 F]
theorem Aj (n:Nat) (is:List Nat) {L L':Mem} (h:is.isPerm (List.range n)=true) (hn:L.length=n) (h2:is.map (fun i=>L.getD i (o7 True))=L'):L.Perm L':=by
 subst hn
 have h1:=(List.isPerm_iff.1 h).map fun i=>L.getD i (o7 True)
 rw [h2] at h1
 have e:(List.range L.length).map (fun i=>L.getD i (o7 True))=L:=by
  refine List.ext_getElem (by simp) fun i h1 h2 => ?_
  simp [List.getD,h2]
 rw [e] at h1
 exact h1.symm
theorem Ak {P:Program} {f:FuncId} {φs:List VT} {r c:Nat} {F:Nat→Nat→Int} (h:OkM P f φs (kr r c) (fun s => [fR s.1.2.1 s.1.2.2 r c s.1.1,d5 c s.1.1 F])):OkM P f φs (yL r c) (fun s=>BE r c s F) :=
 fun w O vs hO hv=>jT.mono (h w O vs hO hv) (by
  rintro e w' ⟨s,v,rfl,hv',hext,hmem,hnd,hb⟩
  refine ⟨s.1,v,rfl,hv',hext,fun o ho => ?_,hnd,hb⟩
  rcases List.mem_cons.1 ho with rfl | ho
  ·exact s.2
  ·exact hmem o ho)
end Tor
end
section
namespace Tor
open Go Go.RowKit Go.Proofs
theorem yM {n p q:Nat} (hne:p≠q) (hp:p<n) (hq:q<n) {F:Nat→Nat→Int} (h : ∀ j,j<n→F p j=F q j):Lin.bX n F=0:=by
 have h1:=uv hne hp hq F
 rw [Lin.fA (F:=swp p q F) (G:=F) (fun a b ha hb=>by
  unfold swp
  by_cases h2:a=p
  ·rw [if_pos h2,h2]; exact (h b hb).symm
  ·rw [if_neg h2]
   by_cases h3:a=q
   ·rw [if_pos h3,h3]; exact h b hb
   ·rw [if_neg h3])] at h1
 omega
def eo (i c:Nat) (v:Nat→Int) (F:Nat→Nat→Int):Nat→Nat→Int:=fun q j=>if q=i∧j<c then v j else F q j
theorem nR {T:TypeId} {n i j:Nat} {v:Nat→Int} {bs:List Nat} {F:Nat→Nat→Int} : Own.le (cX T (.agg 2) n bs (iW (fun q k=>aR (eo i j v F q k)) i j (aR (v j)))) (cX T (.agg 2) n bs (fun q k=>aR (eo i (j+1) v F q k))):=by
 refine ie fun q k hq hk => ?_
 by_cases h:q=i∧k=j
 ·obtain ⟨rfl,rfl⟩:=h
  unfold iW eo
  rw [if_pos ⟨rfl,rfl⟩,if_pos ⟨rfl,by omega⟩]
 ·unfold iW
  rw [if_neg h]
  unfold eo
  by_cases h2:q=i∧k<j
  ·simp only [if_pos h2,if_pos (show q=i∧k<j+1 by omega)]
  ·simp only [if_neg h2,if_neg (show ¬ (q=i∧k<j+1) by omega)]
theorem lr {i c K:Nat} {v:Nat→Int} {F:Nat→Nat→Int} (hF : ∀ i j,(F i j).natAbs≤K) (hv : ∀ j,(v j).natAbs≤K) (q j:Nat):(eo i c v F q j).natAbs≤K:=by
 unfold eo;split
 ·exact hv j
 ·exact hF q j
theorem lY {i:Nat} {v:Nat→Int} {F:Nat→Nat→Int} (q j:Nat):eo i 0 v F q j=F q j:=if_neg (fun h=>Nat.not_lt_zero _ h.2)
theorem rY (a b:Int) {n i:Nat} {u v w:Nat→Int} {F:Nat→Nat→Int} (hi:i<n) (h : ∀ j,j<n→w j=a*u j+b*v j):Lin.bX n (eo i n w F)=a*Lin.bX n (eo i n u F)+b*Lin.bX n (eo i n v F):=by
 refine Rat.intCast_inj.1 ?_
 rw [Rat.intCast_add,Rat.intCast_mul,Rat.intCast_mul,Lin.cR,Lin.cR,Lin.cR,Lin.jK (a:Rat) (b:Rat) (p:=i) (G:=fun a j=>(eo i n u F a j:Rat)) (H:=fun a j=>(eo i n v F a j:Rat)) hi (fun j hj => ?_) (fun a b _ _ h => ?_) (fun a b _ _ h => ?_)]
 ·unfold eo;rw [if_pos ⟨rfl,hj⟩,if_pos ⟨rfl,hj⟩,if_pos ⟨rfl,hj⟩,h j hj,Rat.intCast_add,Rat.intCast_mul,Rat.intCast_mul]
 ·unfold eo;rw [if_neg (fun h2=>h h2.1),if_neg (fun h2=>h h2.1)]
 ·unfold eo;rw [if_neg (fun h2=>h h2.1),if_neg (fun h2=>h h2.1)]
theorem wd {n i:Nat} {F:Nat→Nat→Int} : eo i n (F i) F=F:=by
 funext q j;unfold eo;split
 ·rename_i h;rw [h.1]
 ·rfl
theorem rZ {n i j:Nat} {F:Nat→Nat→Int} (hij:i≠j) (hi:i<n) (hj:j<n):Lin.bX n (eo i n (F j) F)=0:=yM hij hi hj fun c hc=>by
 unfold eo;rw [if_pos ⟨rfl,hc⟩,if_neg (fun h=>hij h.1.symm)]
theorem yN {n i:Nat} {v:Nat→Int} {F:Nat→Nat→Int} (hi:i<n):Lin.bX n (eo i n (fun j=>F i j+v j) F)=Lin.bX n F+Lin.bX n (eo i n v F):=by
 rw [rY 1 1 (u:=F i) (v:=v) hi (fun j _=>by omega),wd,Int.one_mul,Int.one_mul]
theorem we {n i j m:Nat} {a b:Int} {F:Nat→Nat→Int} (hij:i≠j) (him:i≠m) (hi:i<n) (hj:j<n) (hm:m<n):Lin.bX n (eo i n (fun q=>a*F j q+b*F m q) F)=0:=by
 rw [rY a b (u:=F j) (v:=F m) hi (fun j _=>rfl),rZ hij hi hj,rZ him hi hm,Int.mul_zero,Int.mul_zero]; rfl
end Tor
end
section
namespace Tor
open Go Go.RowKit Go.Proofs
theorem B5:Sz 4 18:=⟨by decide,by decide +kernel,by decide +kernel⟩
theorem BU:Sz 4 9:=⟨by decide,by decide +kernel,by decide +kernel⟩
def c2V (n:Nat):Nat→S3→VT
 | 1, s => yL n n s
 | 3, s => yL n n s
 | _, s => one (.pointer (some ⟨s.1.headD 0, 0, none⟩))
def c2M (T:TypeId) (n:Nat) (F:Nat→Nat→Int):Nat→S3→Mem
 | 1, s => BE n n s F
 | 3, s => BE n n s F
 | _, s => [aQ (s.1.headD 0) T 3 (dg #[Value.int IntKind.i64 0, Value.int IntKind.i64 0, Value.slice none 0 0] [(0, .one), (1, .one), (2, .one)])]
attribute [local irreducible] J PJ aC one slT bJ bH bF exT ch eP aQ aK slV VT.le Ret bQ dG el
attribute [local irreducible] aR co cX
set_option maxRecDepth 100000 in
theorem qg (r c:Nat) (l v:List Int) (k:Nat) (hk0:k<256):nO Tryz.prog 7 [fX r c l,ku .i8 v,one (.int .u8 (k:Nat))] (one (.bool true)):=by
 have hsq:=iQ r c l
 have hr:r % 5≤4:=by omega
 generalize hF:(fun i j=>dig l (i*(r % 5)+j))=F at *
 have aF : ∀ i j,(F i j).natAbs≤9:=fun i j=>by rw [← hF]; exact jO _ _
 generalize r % 5=n at *
 have hve:=sU v n X
 have hb : ∀ j,(dig v j).natAbs≤9:=fun j=>jO v j
 generalize dig v=u at *
 have hsan:=ju
 have v1:=gv BU hr F aF
 have hs9 : ∀ {x:Int},x.natAbs≤9→bV x:=fun h=>cW (Nat.le_trans h V)
 have hCo:=mc n n F X X (fun i j=>hs9 (aF i j))
 simp only [Int.mul_one] at hCo
 have hCo2:=Ak hCo
 clear hCo
 unfold fX co at *
 refine nO.enter Tryz.func7 Z Tryz.ntmps7 Z (fun w O => ?_)
 by_cases hn:0<n
 ·have hi:=Nat.mod_lt k hn
  have v2:=gv BU hr (eo (k % n) n u F) (lr aF hb)
  have v3:=gv B5 hr (eo (k % n) n (fun j=>F (k % n) j+u j) F) (lr (fun i j=>Nat.le_trans (aF i j) U) (fun j=>by have:=aF (k % n) j;have:=hb j;omega))
  rw [yN hi] at v3
  have hA:=fM (Lin.bX n F) (Lin.bX n (eo (k % n) n u F)) (BU.small hr aF) (BU.small hr (lr aF hb))
  have s1:=kA (Lin.bX n F+Lin.bX n (eo (k % n) n u F))
  unfold co at *
  refine ae (ai ?_)
  refine be Z Z (ltN Z) (fun b3 => ?_)
  refine Cn Z (Cq (aa (ae (ai (Cl (am (hsan) Z trivial) (Cn Z (Cq (aa (ae ?_)))))))))
  refine ai (Cl (bj 0 Z Z) ?_)
  refine Cl (am (hsq) Z ⟨A,Cr⟩) ?_
  refine bS (T:=35) Z Z Z (fun b8 => ?_)
  refine bO 0 Z Z Z Z (Cq (aa (ae (ae (ai (Cl (aj Z) (Cl (ak 0 Z Z Z) (Cl (sF X (cL Z Z)) (Cq ?_)))))))))
  refine aa (aD Z (ax (aa (ae (bm 10 bD Y U (Cm Z (Cl (cE Z X X) (Cl (aj Z) (Cl (ak 0 Z Z Z) ?_)))))))))
  refine Cl (dm _ Z Z Z X) (Cm Z (Cl (aj Z) (Cl (ak 0 Z Z Z) ?_)))
  refine Cl (am (hve) Z ⟨A,A,Cr⟩) ?_
  refine Cn Z (Cq (Cn Z (Cq (aa (ae (BD 6 6 [1,3,4,5] ([],none,0) (c2V n) (c2M 35 n F) bD Y U Z U ?_))))))
  refine kx Z (fun s B=>bj 0 Z Z) Z ?_
  refine kc Z (fun s B=>uK hCo2 Z ⟨A,Cr⟩) Z ?_
  refine kx Z (fun s B=>bj 0 Z Z) Z ?_
  refine kc Z (fun s B=>uK hCo2 Z ⟨A,Cr⟩) Z ?_
  refine kc Z (fun s B=>o6 (fun b=>([b],none,0)) (fun b=>rfl) (fun b=>rfl) Z) Z ?_
  refine kc Z (fun s B=>o6 (fun b=>([b],none,0)) (fun b=>rfl) (fun b=>rfl) Z) Z ?_
  refine .nil fun t => ?_
  refine y3 (Γ' := [(12,one (.pointer (some ⟨(t 5).1.headD 0,0,none⟩))),(11,one (.pointer (some ⟨(t 4).1.headD 0,0,none⟩))),(39,yL n n (t 3)),(37,yL n n (t 1)),(10,_),(9,_),(8,_),(7,_)]) (M' := [o7 (ok3 n (t 1)),fR (t 1).2.1 (t 1).2.2 n n (t 1).1,d5 n (t 1).1 F,o7 (ok3 n (t 3)),fR (t 3).2.1 (t 3).2.2 n n (t 3).1,d5 n (t 3).1 F,_,_,_,_]) Cj (SubM.refl _) ?_
  generalize t 1=sB
  generalize t 3=sC
  generalize (t 4).1.headD 0=b11
  generalize (t 5).1.headD 0=b12
  refine bO 6 Z Z Z Z (bO 7 Z Z Z Z (Cq (aa (ae (ae ?_)))))
  refine mj (i:=0) (F:=ok3 n sB) Z (fun g h hp=>hp) (fun hB => ?_)
  refine mj (i:=3) (F:=ok3 n sC) Z (fun g h hp=>hp) (fun hC => ?_)
  obtain ⟨bB,svB,capB⟩:=sB
  obtain ⟨bC,svC,capC⟩:=sC
  obtain ⟨hlB,hsB⟩:=hB
  obtain ⟨hlC,hsC⟩:=hC
  dsimp only at hlB hsB hlC hsC
  obtain ⟨oB,rfl⟩:=fG hsB X
  obtain ⟨oC,rfl⟩:=fG hsC X
  refine cB (Γ' := [(12,_),(11,_),(10,_),(9,_),(8,_),(7,_)]) (M' := [_,_,_,_,_,_,_,_]) Cj (.drop (.keep Ck (.keep Ck (.drop (SubM.refl _))))) ?_
  unfold fR
  dsimp only
  generalize k % n=i at *
  refine ai (Cn Z (Cq (aa (av (cB (Γ' := [(7,_),(8,_),(9,_),(10,_),(11,_),(12,_),(13,_)]) Cg (SubM.refl _) ?_)))))
  refine bP (σ:=Nat) (Γk := [(7,_),(8,_),(9,_),(10,_),(11,_),(12,_)]) Cg (fun j => [(13,one (.int .i64 (j:Nat)))]) (fun j M0=>((M0.set 1 (d5 n bB (eo i j u F))).set 3 (d5 n bC (eo i j (fun j=>F i j+u j) F)))) (fun j=>j≤n) (fun j=>n - j) (0) (Nat.zero_le _) Ch (.keep Ck (.keep (d7 fun a b ha hb=>(lY a b).symm) (.keep Ck (.keep (d7 fun a b ha hb=>(lY a b).symm) (.keep Ck (.keep Ck (.keep Ck (.keep Ck (.nil))))))))) (fun j hj => ?_)
  refine ci (Γ' := [(13,_),(7,_),(8,_),(9,_),(10,_),(11,_),(12,_)]) (M' := [_,_,_,_,_,_,_,_]) Z Z ?_
  by_cases hj2:j<n
  ·have hA2:=fM (F i j) (u j) (hs9 (aF i j)) (hs9 (hb j))
   refine ae (ae (ai (Cm Z (Cl (aj Z) (Cl (ak 6 Z Z Z) (Cl (sT X (bE Z Z)) (Cq (aa (aO Z ?_)))))))))
   refine ax (aa (ae (av (ae (bm 10 bD Y U (Cl (aj Z) (Cl (ak 4 Z Z Z) (Cm Z (Cl (au Z Z X) ?_)))))))))
   refine Cl (bR 0 Z Z X) (Cm Z (Cm Z (Cm Z (Cl (aH Z Z X) (Cl (aY Z) (Cq (Cl (au Z Z X) ?_)))))))
   (refine fJ 1 Z Z Z (n6 ?_) ?_ Z ?_;omega;omega)
   refine Cq (aa (bm 19 bD Y U (Cl (aj Z) (Cl (ak 5 Z Z Z) (Cm Z (Cl (au Z Z X) (Cl (bR 2 Z Z X) (Cm Z (Cl (aj Z) ?_)))))))))
   refine Cl (ak 6 Z Z Z) (Cm Z (Cl (aH Z Z X) (Cl (aY Z) (Cm Z (Cl (aH Z Z X) (Cl (aY Z) (Cm Z (Cm Z (Cl (aH Z Z X) ?_)))))))))
   refine Cl (aY Z) ?_
   refine Cl (am (hA2) Z ⟨A,A,Cr⟩) ?_
   refine Cq (Cl (au Z Z X) ?_)
   (refine fJ 3 Z Z Z (n6 ?_) ?_ Z ?_;omega;omega)
   refine Cq (aL (aa (ai (Cm Z (Cl (bW _ 1 Z Z X) (Cn Z (Cq ?_)))))))
   refine aZ (j+1) X X Ch (.keep Ck (.keep (nR) (.keep Ck (.keep (nR) (.keep Ck (.keep Ck (.keep Ck (.keep Ck (.nil)))))))))
  ·have hjn:j=n:=by omega
   subst hjn
   refine mR [aK (some oC) 39 .one capC j (fun q=>one (slV (some (bC.getD q 0)) j j)),d5 j bC (eo i j (fun q=>F i q+u q) F)] (Aj 8 [2,3,0,1,4,5,6,7] V Z Z) (.keep (uQ.refl _) (.keep (uQ.refl _) (.keep (uQ.refl _) (.keep (uQ.box (fB hlC ⟨by simp,by simp,by simp⟩)) (EntM.refl _))))) (uR.refl _) ?_
   refine mR [aK (some oB) 39 .one capB j (fun q=>one (slV (some (bB.getD q 0)) j j)),d5 j bB (eo i j u F)] (List.Perm.refl _) (.keep (uQ.box (fB hlB ⟨by simp,by simp,by simp⟩)) (EntM.refl _)) (uR.refl _) ?_
   refine ae (ae (ai (Cm Z (Cl (aj Z) (Cl (ak 2 Z Z Z) (Cl (sF X (bE Z Z)) (Cq (aa (aD Z ?_)))))))))
   refine a8 (aw (aw (aM (aa (ae (ai (Cl (bj 2 Z Z) ?_)))))))
   refine Cl (am (v1) Z ⟨A,Cr⟩) ?_
   refine Cm Z (Cl (aA Z Z) (Cl (aA Z Z) ?_))
   refine aJ (T:=28) Z (ltN Z) (fun b14 => ?_)
   refine ay 0 Z Z Z Z Z (leN Z) Z (Cn Z (Cq (aa (ae (ai (Cl (bj 1 Z Z) ?_))))))
   refine Cl (am (v2) Z ⟨A,Cr⟩) ?_
   refine Cm Z (Cl (aA Z Z) (Cl (aA Z Z) ?_))
   refine aJ (T:=28) Z (ltN Z) (fun b16 => ?_)
   refine ay 0 Z Z Z Z Z (leN Z) Z (Cn Z (Cq (aa (ae (ai (Cl (bj 3 Z Z) ?_))))))
   refine Cl (am (v3) Z ⟨A,Cr⟩) ?_
   refine Cm Z (Cl (aA Z Z) (Cl (aA Z Z) ?_))
   refine aJ (T:=28) Z (ltN Z) (fun b18 => ?_)
   refine ay 0 Z Z Z Z Z (leN Z) Z (Cn Z (Cq (aa (ae (bm 17 bD Y U (Cm Z (Cm Z (Cp (ab Z) (Cl (bG Z Z) ?_)))))))))
   refine Cm Z (Cp (ab Z) (Cl (bG Z Z) (Cm Z (Cp (ak 0 Z Z Z) (Cp (ak 2 Z Z Z) (Cp (ak 1 Z Z Z) ?_))))))
   refine Cp (am (hA) Z ⟨A,A,Cr⟩) ?_
   refine Cp (am (s1) Z ⟨A,A,Cr⟩) ?_
   refine Cl (bG Z Z) (Cm Z (Cp (ab Z) (Cl (bG Z Z) (Cq (Cn Z (Cq (aa (aE ?_))))))))
   refine aV Tryz.results7 (.tmp Z A)
 ·have hn0:n=0:=by omega
  subst hn0
  refine ae (ai ?_)
  refine be Z Z (ltN Z) (fun b3 => ?_)
  refine Cn Z (Cq (aa (ae (ai (Cl (am (hsan) Z trivial) (Cn Z (Cq (aa (ae ?_)))))))))
  refine ai (Cl (bj 0 Z Z) ?_)
  refine Cl (am (hsq) Z ⟨A,Cr⟩) ?_
  refine bS (T:=35) Z Z Z (fun b8 => ?_)
  refine bO 0 Z Z Z Z (Cq (aa (ae (ae (ai (Cl (aj Z) (Cl (ak 0 Z Z Z) (Cl (sT X (cL Z Z)) (Cq ?_)))))))))
  refine aa (aO Z (ae (ai (Cm Z (Cn Z (Cq (aa (aE (aI ?_)))))))))
  refine aV Tryz.results7 (.tmp Z A)
theorem oc {p0 p1:Prop} (r c:Nat) (l v:List Int) (k:Nat) (y0:p0) (y1:p1) (y2:(k:Int)≤IntKind.max .u8∧True):nO Tryz.prog 7 [fX r c l,ku .i8 v,one (.int .u8 (k:Nat))] (one (.bool true)) :=
 qg r c l v k (by have h:(k:Int)≤255:=y2.1;omega)
end Tor
end
section
namespace Tor
open Go Go.RowKit Go.Proofs
def w3D (a b c:Nat):VT:=bH 3 [(0, .one,one (.int .u8 (a:Int))),(1, .one,one (.int .u8 (b:Int))),(2, .one,one (.int .u8 (c:Int)))]
def k2D (a b:Int):VT:=bH 2 [(0, .one,one (.int .i8 a)),(1, .one,one (.int .i8 b))]
theorem B6:Sz 4 9:=⟨by decide,by decide +kernel,by decide +kernel⟩
theorem szB:Sz 4 2304:=⟨by decide,by decide +kernel,by decide +kernel⟩
theorem B7 {n:Nat} (hn:n≤4) {F:Nat→Nat→Int} (hF : ∀ i j,(F i j).natAbs≤9):prN n (fun i=>de n (F i))<2^598 :=
 Nat.lt_of_le_of_lt (nF (fun i _=>Sz.len hn (hF i)) n (Nat.le_refl n)) (B6.pow hn)
theorem Al {n:Nat} {F:Nat→Nat→Int} : ¬ 0<cG ((Lin.bX n F).natAbs:Int) (upN (prN n (fun i=>de n (F i))):Int):=by
 have h:=pX n F
 unfold cG
 by_cases h1:((Lin.bX n F).natAbs:Int)<(upN (prN n (fun i=>de n (F i))):Int)
 ·rw [if_pos h1]; decide
 ·rw [if_neg h1,if_neg X]; decide
attribute [local irreducible] J PJ aC one slT bJ bH bF exT ch eP aQ aK slV VT.le Ret bQ dG el
attribute [local irreducible] aR co cX
set_option maxRecDepth 100000 in
theorem od (r c:Nat) (l:List Int) (w0 w1 w2:Nat) (k0 k1:Int) (hw0:w0<256) (hw1:w1<256) (hw2:w2<256) (hk0 : -128≤k0∧k0≤127) (hk1 : -128≤k1∧k1≤127):nO Tryz.prog 9 [fX r c l,w3D w0 w1 w2,k2D k0 k1] (one (.bool true)):=by
 have hsq:=iQ r c l
 have hr:r % 5≤4:=by omega
 generalize hF:(fun i j=>dig l (i*(r % 5)+j))=F at *
 have aF : ∀ i j,(F i j).natAbs≤9:=fun i j=>by rw [← hF]; exact jO _ _
 clear hF
 generalize r % 5=n at *
 have hsan:=ju
 have v1:=gv B6 hr F aF
 have hs4 : ∀ {x:Int},x.natAbs≤2304→bV x:=fun h=>cW (Nat.le_trans h V)
 have hm4 : ∀ i j,fW (F i j):=fun i j=>Nat.le_trans (aF i j) V
 have hH:=oa n F (4*(9*9)+1) X hm4 U (Nat.lt_trans (B6.pow hr) V) (fun i _=>Sz.len hr (aF i))
 have hAb:=xa (Lin.bX n F) (B6.small hr aF)
 have hCm:=m8 ((Lin.bX n F).natAbs:Int) (upN (prN n (fun i=>de n (F i))):Int) (cW (Nat.le_of_lt (Nat.lt_trans (by show (Lin.bX n F).natAbs<_;exact B6.det hr aF) V))) (cW (Nat.le_of_lt (Nat.lt_trans (by show upN _<_;exact lV (B7 hr aF)) V)))
 have hcm := @Al n F
 generalize cG ((Lin.bX n F).natAbs:Int) (upN (prN n (fun i=>de n (F i))):Int)=cm at *
 generalize (upN (prN n (fun i=>de n (F i))):Int)=hb at *
 have hCo:=mc n n F X X (fun i j=>hs4 (Nat.le_trans (aF i j) U))
 simp only [Int.mul_one] at hCo
 have ho1:=g8 k0 X X
 have ho2:=g8 k1 X X
 have hz:=lK 0
 rw [show gm 0=0 from rfl] at hz
 have hk9 : ∀ {k:Int}, -128≤k∧k≤127 → ∀ i j,(k*F i j).natAbs≤1152:=fun hk i j=>by
  rw [Int.natAbs_mul]; exact Nat.le_trans (Nat.mul_le_mul (show _≤128 by omega) (aF i j)) U
 have hmu : ∀ {k:Int}, -128≤k∧k≤127 → ∀ i j,Ok Tryz.prog 16 [aR k,aR (F i j)] (aR (k*F i j)):=fun {k} hk i j=>fN k (F i j) (hs4 X) (hs4 (Nat.le_trans (aF i j) U))
 have had : ∀ i j a b,Ok Tryz.prog 15 [aR (k0*F i j),aR (k1*F a b)] (aR (k0*F i j+k1*F a b)):=fun i j a b=>fM _ _ (hs4 (Nat.le_trans (hk9 hk0 i j) U)) (hs4 (Nat.le_trans (hk9 hk1 a b) U))
 have hab : ∀ i j a b,(k0*F i j+k1*F a b).natAbs≤2304:=fun i j a b=>by have:=hk9 hk0 i j;have:=hk9 hk1 a b;omega
 unfold fX co w3D k2D at *
 refine nO.enter Tryz.func9 Z Tryz.ntmps9 Z (fun w O => ?_)
 by_cases hn:2≤n
 ·have hi:=Nat.mod_lt w0 (show 0<n by omega)
  have hj:=Nat.mod_lt w1 (show 0<n by omega)
  have hm:=Nat.mod_lt w2 (show 0<n by omega)
  by_cases hij:w0 % n=w1 % n
  ·refine ae (ai ?_)
   refine be Z Z (ltN Z) (fun b3 => ?_)
   refine be Z Z (ltN Z) (fun b4 => ?_)
   refine be Z Z (ltN Z) (fun b5 => ?_)
   refine Cn Z (Cq (aa (ae (ai (Cl (am (hsan) Z trivial) (Cn Z (Cq (aa (ae ?_)))))))))
   refine ai (Cl (bj 2 Z Z) ?_)
   refine Cl (am (hsq) Z ⟨A,Cr⟩) ?_
   refine bS (T:=35) Z Z Z (fun b8 => ?_)
   refine bO 0 Z Z Z Z (Cq (aa (ae (ai (Cl (bj 0 Z Z) ?_)))))
   refine Cl (am (v1) Z ⟨A,Cr⟩) ?_
   refine Cm Z (Cl (aA Z Z) (Cl (aA Z Z) ?_))
   refine aJ (T:=28) Z (ltN Z) (fun b9 => ?_)
   refine ay 0 Z Z Z Z Z (leN Z) Z (Cn Z (Cq (aa (ae (ai (Cl (bj 1 Z Z) ?_))))))
   refine Cl (am (hH) Z ⟨A,Cr⟩) ?_
   refine Cm Z (Cl (aA Z Z) (Cl (aA Z Z) ?_))
   refine aJ (T:=28) Z (ltN Z) (fun b11 => ?_)
   refine ay 0 Z Z Z Z Z (leN Z) Z (Cn Z (Cq (aa (ae (ae (bm 13 bD Y U (Cm Z (Cl (dj Z) (Cm Z ?_)))))))))
   refine Cp (ab Z) (Cp (sF X (ej Z Z)) (Cl (bK Z Z) (Cm Z (Cp (ak 1 Z Z Z) ?_))))
   refine Cp (am (hAb) Z ⟨A,Cr⟩) ?_
   refine Cp (ak 0 Z Z Z) ?_
   refine Cp (am (hCm) Z ⟨A,A,Cr⟩) ?_
   refine Cp (sF (by assumption) (dl Z Z)) (Cl (bK Z Z) (Cq (Cq (aa (aD Z (ax (aa (ae (ae ?_)))))))))
   refine ai (Cl (aj Z) (Cl (ak 2 Z Z Z) (Cl (sF X (bE Z Z)) (Cq (aa (aD Z (ax (aa (ae ?_)))))))))
   refine bm 20 bD Y U (Cl (dF 0 _ Z Z (ltN Z)) (Cl (ak 4 Z Z Z) (Cl (cE Z X X) (Cl (aj Z) (Cl (ak 2 Z Z Z) (Cl (dm _ Z Z Z X) (Cl (dF 1 _ Z Z (ltN Z)) (Cl (ak 4 Z Z Z) (Cl (cE Z X X) ?_)))))))))
   refine Cl (aj Z) (Cl (ak 2 Z Z Z) (Cl (dm _ Z Z Z X) (Cl (dF 2 _ Z Z (ltN Z)) (Cl (ak 4 Z Z Z) (Cl (cE Z X X) (Cl (aj Z) (Cl (ak 2 Z Z Z) (Cl (dm _ Z Z Z X) (Cn Z ?_)))))))))
   refine Cn Z (Cq (Cn Z (Cq (aa (ae (ae (ai (Cm Z (Cm Z ?_)))))))))
   refine Cl (sT X (cL Z Z)) (Cm Z (sn0 Z Z Z Z Z (sn0 Z Z Z Z Z (sn0 Z Z Z Z Z (Cl (bG Z Z) (Cq (aa (aO Z (ae ?_)))))))))
   refine ai (Cm Z (Cn Z (Cq (aa (aE (aI ?_))))))
   refine aV Tryz.results9 (.tmp Z A)
  ·by_cases him:w0 % n=w2 % n
   ·refine ae (ai ?_)
    refine be Z Z (ltN Z) (fun b3 => ?_)
    refine be Z Z (ltN Z) (fun b4 => ?_)
    refine be Z Z (ltN Z) (fun b5 => ?_)
    refine Cn Z (Cq (aa (ae (ai (Cl (am (hsan) Z trivial) (Cn Z (Cq (aa (ae ?_)))))))))
    refine ai (Cl (bj 2 Z Z) ?_)
    refine Cl (am (hsq) Z ⟨A,Cr⟩) ?_
    refine bS (T:=35) Z Z Z (fun b8 => ?_)
    refine bO 0 Z Z Z Z (Cq (aa (ae (ai (Cl (bj 0 Z Z) ?_)))))
    refine Cl (am (v1) Z ⟨A,Cr⟩) ?_
    refine Cm Z (Cl (aA Z Z) (Cl (aA Z Z) ?_))
    refine aJ (T:=28) Z (ltN Z) (fun b9 => ?_)
    refine ay 0 Z Z Z Z Z (leN Z) Z (Cn Z (Cq (aa (ae (ai (Cl (bj 1 Z Z) ?_))))))
    refine Cl (am (hH) Z ⟨A,Cr⟩) ?_
    refine Cm Z (Cl (aA Z Z) (Cl (aA Z Z) ?_))
    refine aJ (T:=28) Z (ltN Z) (fun b11 => ?_)
    refine ay 0 Z Z Z Z Z (leN Z) Z (Cn Z (Cq (aa (ae (ae (bm 13 bD Y U (Cm Z (Cl (dj Z) (Cm Z ?_)))))))))
    refine Cp (ab Z) (Cp (sF X (ej Z Z)) (Cl (bK Z Z) (Cm Z (Cp (ak 1 Z Z Z) ?_))))
    refine Cp (am (hAb) Z ⟨A,Cr⟩) ?_
    refine Cp (ak 0 Z Z Z) ?_
    refine Cp (am (hCm) Z ⟨A,A,Cr⟩) ?_
    refine Cp (sF (by assumption) (dl Z Z)) (Cl (bK Z Z) (Cq (Cq (aa (aD Z (ax (aa (ae (ae ?_)))))))))
    refine ai (Cl (aj Z) (Cl (ak 2 Z Z Z) (Cl (sF X (bE Z Z)) (Cq (aa (aD Z (ax (aa (ae ?_)))))))))
    refine bm 20 bD Y U (Cl (dF 0 _ Z Z (ltN Z)) (Cl (ak 4 Z Z Z) (Cl (cE Z X X) (Cl (aj Z) (Cl (ak 2 Z Z Z) (Cl (dm _ Z Z Z X) (Cl (dF 1 _ Z Z (ltN Z)) (Cl (ak 4 Z Z Z) (Cl (cE Z X X) ?_)))))))))
    refine Cl (aj Z) (Cl (ak 2 Z Z Z) (Cl (dm _ Z Z Z X) (Cl (dF 2 _ Z Z (ltN Z)) (Cl (ak 4 Z Z Z) (Cl (cE Z X X) (Cl (aj Z) (Cl (ak 2 Z Z Z) (Cl (dm _ Z Z Z X) (Cn Z ?_)))))))))
    refine Cn Z (Cq (Cn Z (Cq (aa (ae (ae (ai (Cm Z (Cm Z ?_)))))))))
    refine Cl (sF X (cL Z Z)) (Cm Z (Cp (ab Z) (Cp (ab Z) (Cp (sT X (cL Z Z)) (Cl (bK Z Z) (Cq (aa (aO Z (ae ?_)))))))))
    refine ai (Cm Z (Cn Z (Cq (aa (aE (aI ?_))))))
    refine aV Tryz.results9 (.tmp Z A)
   ·have v2:=gv szB hr (eo (w0 % n) n (fun q=>k0*F (w1 % n) q+k1*F (w2 % n) q) F) (lr (fun i j=>Nat.le_trans (aF i j) U) (fun q=>hab _ _ _ _))
    rw [we hij him hi hj hm] at v2
    unfold co at v2
    refine ae (ai ?_)
    refine be Z Z (ltN Z) (fun b3 => ?_)
    refine be Z Z (ltN Z) (fun b4 => ?_)
    refine be Z Z (ltN Z) (fun b5 => ?_)
    refine Cn Z (Cq (aa (ae (ai (Cl (am (hsan) Z trivial) (Cn Z (Cq (aa (ae ?_)))))))))
    refine ai (Cl (bj 2 Z Z) ?_)
    refine Cl (am (hsq) Z ⟨A,Cr⟩) ?_
    refine bS (T:=35) Z Z Z (fun b8 => ?_)
    refine bO 0 Z Z Z Z (Cq (aa (ae (ai (Cl (bj 0 Z Z) ?_)))))
    refine Cl (am (v1) Z ⟨A,Cr⟩) ?_
    refine Cm Z (Cl (aA Z Z) (Cl (aA Z Z) ?_))
    refine aJ (T:=28) Z (ltN Z) (fun b9 => ?_)
    refine ay 0 Z Z Z Z Z (leN Z) Z (Cn Z (Cq (aa (ae (ai (Cl (bj 1 Z Z) ?_))))))
    refine Cl (am (hH) Z ⟨A,Cr⟩) ?_
    refine Cm Z (Cl (aA Z Z) (Cl (aA Z Z) ?_))
    refine aJ (T:=28) Z (ltN Z) (fun b11 => ?_)
    refine ay 0 Z Z Z Z Z (leN Z) Z (Cn Z (Cq (aa (ae (ae (bm 13 bD Y U (Cm Z (Cl (dj Z) (Cm Z ?_)))))))))
    refine Cp (ab Z) (Cp (sF X (ej Z Z)) (Cl (bK Z Z) (Cm Z (Cp (ak 1 Z Z Z) ?_))))
    refine Cp (am (hAb) Z ⟨A,Cr⟩) ?_
    refine Cp (ak 0 Z Z Z) ?_
    refine Cp (am (hCm) Z ⟨A,A,Cr⟩) ?_
    refine Cp (sF (by assumption) (dl Z Z)) (Cl (bK Z Z) (Cq (Cq (aa (aD Z (ax (aa (ae (ae ?_)))))))))
    refine ai (Cl (aj Z) (Cl (ak 2 Z Z Z) (Cl (sF X (bE Z Z)) (Cq (aa (aD Z (ax (aa (ae ?_)))))))))
    refine bm 20 bD Y U (Cl (dF 0 _ Z Z (ltN Z)) (Cl (ak 4 Z Z Z) (Cl (cE Z X X) (Cl (aj Z) (Cl (ak 2 Z Z Z) (Cl (dm _ Z Z Z X) (Cl (dF 1 _ Z Z (ltN Z)) (Cl (ak 4 Z Z Z) (Cl (cE Z X X) ?_)))))))))
    refine Cl (aj Z) (Cl (ak 2 Z Z Z) (Cl (dm _ Z Z Z X) (Cl (dF 2 _ Z Z (ltN Z)) (Cl (ak 4 Z Z Z) (Cl (cE Z X X) (Cl (aj Z) (Cl (ak 2 Z Z Z) (Cl (dm _ Z Z Z X) (Cn Z ?_)))))))))
    refine Cn Z (Cq (Cn Z (Cq (aa (ae (ae (ai (Cm Z (Cm Z ?_)))))))))
    refine Cl (sF X (cL Z Z)) (Cm Z (Cp (ab Z) (Cp (ab Z) (Cp (sF X (cL Z Z)) (Cl (bK Z Z) (Cq (aa (aD Z (ax ?_)))))))))
    refine aa (ae (ai (Cl (bj 2 Z Z) ?_)))
    refine gi (hCo) Z ⟨A,Cr⟩ Z Z (fun s78 => ?_)
    refine bS (T:=35) Z Z Z (fun b16 => ?_)
    refine bO 0 Z Z Z Z (Cq (aa (ae (ae (ai (Cn Z (Cq (aa (av ?_)))))))))
    obtain ⟨⟨bs,sv1,cap1⟩,hlen,hsv⟩:=s78
    dsimp only at hlen hsv
    obtain ⟨bo,rfl⟩:=fG hsv X
    unfold kr fR
    dsimp only
    generalize w0 % n=i at *
    generalize w1 % n=t at *
    generalize w2 % n=m at *
    refine cB (Γ' := [(5,_),(6,_),(7,_),(8,_),(13,_),(14,_),(15,_),(16,_),(17,_)]) Cg (SubM.refl _) ?_
    refine bP (σ:=Nat) (Γk := [(5,_),(6,_),(7,_),(8,_),(13,_),(14,_),(15,_),(16,_)]) Cg (fun j => [(17,one (.int .i64 (j:Nat)))]) (fun j M0=>(M0.set 2 (d5 n bs (eo i j (fun q=>k0*F t q+k1*F m q) F)))) (fun j=>j≤n) (fun j=>n - j) (0) (Nat.zero_le _) Ch (.keep Ck (.keep Ck (.keep (d7 fun a b ha hb=>(lY a b).symm) (.keep Ck (.keep Ck (.keep Ck (.keep Ck (.keep Ck (.keep Ck (.nil)))))))))) (fun j hj => ?_)
    refine ci (Γ' := [(17,_),(5,_),(6,_),(7,_),(8,_),(13,_),(14,_),(15,_),(16,_)]) (M' := [_,_,_,_,_,_,_,_,_]) Z Z ?_
    by_cases hj2:j<n
    ·have h1:=hmu hk0 t j
     have h2:=hmu hk1 m j
     have h3:=had t j m j
     clear hmu had
     refine ae (ae (ai (Cm Z (Cl (aj Z) (Cl (ak 5 Z Z Z) (Cl (sT X (bE Z Z)) (Cq (aa (aO Z ?_)))))))))
     refine ax (aa (ae (av (bm 33 bD Y U (Cl (aj Z) (Cl (ak 0 Z Z Z) (Cm Z (Cl (au Z Z X) (Cl (bR 1 Z Z X) ?_)))))))))
     refine Cm Z (Cl (dF 0 _ Z Z (ltN Z)) (Cl (ak 6 Z Z Z) (Cl (cE Z X X) ?_)))
     refine Cl (am (ho1) Z ⟨A,Cr⟩) ?_
     refine Cl (aj Z) (Cl (ak 5 Z Z Z) (Cm Z (Cl (aH Z Z X) (Cl (aY Z) (Cm Z (Cl (aH Z Z X) (Cl (aY Z) ?_)))))))
     refine Cl (am (h1) Z ⟨A,A,Cr⟩) ?_
     refine Cl (dF 1 _ Z Z (ltN Z)) (Cl (ak 6 Z Z Z) (Cl (cE Z X X) ?_))
     refine Cl (am (ho2) Z ⟨A,Cr⟩) ?_
     refine Cl (aj Z) (Cl (ak 5 Z Z Z) (Cm Z (Cl (aH Z Z X) (Cl (aY Z) (Cm Z (Cl (aH Z Z X) (Cl (aY Z) ?_)))))))
     refine Cl (am (h2) Z ⟨A,A,Cr⟩) ?_
     refine Cl (am (h3) Z ⟨A,A,Cr⟩) ?_
     refine Cq (Cl (au Z Z X) ?_)
     (refine fJ 2 Z Z Z (n6 ?_) ?_ Z ?_;omega;omega)
     refine Cq (aL (aa (ai (Cm Z (Cl (bW _ 1 Z Z X) (Cn Z (Cq ?_)))))))
     refine aZ (j+1) X X Ch (.keep Ck (.keep Ck (.keep (nR) (.keep Ck (.keep Ck (.keep Ck (.keep Ck (.keep Ck (.keep Ck (.nil))))))))))
    ·have hjn:j=n:=by omega
     subst hjn
     refine mR [aK (some bo) 39 .one cap1 j (fun q=>one (slV (some (bs.getD q 0)) j j)),d5 j bs (eo i j (fun q=>k0*F t q+k1*F m q) F)] ((List.Perm.swap _ _ _).trans (List.Perm.cons _ (List.Perm.swap _ _ _))) (.keep (uQ.box (fB hlen ⟨by simp,by simp,by simp⟩)) (EntM.refl _)) (uR.refl _) ?_
     refine ae (ae (ai (Cm Z (Cl (aj Z) (Cl (ak 3 Z Z Z) (Cl (sF X (bE Z Z)) (Cq (aa (aD Z ?_)))))))))
     refine a8 (aw (aw (aM (aa (ae (ai (Cl (bj 0 Z Z) ?_)))))))
     refine Cl (am (v2) Z ⟨A,Cr⟩) ?_
     refine Cm Z (Cl (aA Z Z) (Cl (aA Z Z) ?_))
     refine aJ (T:=28) Z (ltN Z) (fun b18 => ?_)
     refine ay 0 Z Z Z Z Z (leN Z) Z (Cn Z (Cq (aa (ae (ai (Cm Z (Cm Z (Cp (ak 0 Z Z Z) ?_))))))))
     refine Cp (am (hz) Z ⟨A,Cr⟩) ?_
     refine Cp (sT X (cL Z Z)) (Cl (bG Z Z) (Cm Z (Cp (ab Z) (Cl (bG Z Z) (Cn Z (Cq (aa (aE ?_))))))))
     refine aV Tryz.results9 (.tmp Z A)
 ·refine ae (ai ?_)
  refine be Z Z (ltN Z) (fun b3 => ?_)
  refine be Z Z (ltN Z) (fun b4 => ?_)
  refine be Z Z (ltN Z) (fun b5 => ?_)
  refine Cn Z (Cq (aa (ae (ai (Cl (am (hsan) Z trivial) (Cn Z (Cq (aa (ae ?_)))))))))
  refine ai (Cl (bj 2 Z Z) ?_)
  refine Cl (am (hsq) Z ⟨A,Cr⟩) ?_
  refine bS (T:=35) Z Z Z (fun b8 => ?_)
  refine bO 0 Z Z Z Z (Cq (aa (ae (ai (Cl (bj 0 Z Z) ?_)))))
  refine Cl (am (v1) Z ⟨A,Cr⟩) ?_
  refine Cm Z (Cl (aA Z Z) (Cl (aA Z Z) ?_))
  refine aJ (T:=28) Z (ltN Z) (fun b9 => ?_)
  refine ay 0 Z Z Z Z Z (leN Z) Z (Cn Z (Cq (aa (ae (ai (Cl (bj 1 Z Z) ?_))))))
  refine Cl (am (hH) Z ⟨A,Cr⟩) ?_
  refine Cm Z (Cl (aA Z Z) (Cl (aA Z Z) ?_))
  refine aJ (T:=28) Z (ltN Z) (fun b11 => ?_)
  refine ay 0 Z Z Z Z Z (leN Z) Z (Cn Z (Cq (aa (ae (ae (bm 13 bD Y U (Cm Z (Cl (dj Z) (Cm Z ?_)))))))))
  refine Cp (ab Z) (Cp (sF X (ej Z Z)) (Cl (bK Z Z) (Cm Z (Cp (ak 1 Z Z Z) ?_))))
  refine Cp (am (hAb) Z ⟨A,Cr⟩) ?_
  refine Cp (ak 0 Z Z Z) ?_
  refine Cp (am (hCm) Z ⟨A,A,Cr⟩) ?_
  refine Cp (sF (by assumption) (dl Z Z)) (Cl (bK Z Z) (Cq (Cq (aa (aD Z (ax (aa (ae (ae ?_)))))))))
  refine ai (Cl (aj Z) (Cl (ak 2 Z Z Z) (Cl (sT X (bE Z Z)) (Cq (aa (aO Z (ae (ai (Cm Z ?_)))))))))
  refine Cn Z (Cq (aa (aE (aI ?_))))
  refine aV Tryz.results9 (.tmp Z A)
theorem nS {p0:Prop} (r c:Nat) (l:List Int) (w0 w1 w2:Nat) (k0 k1:Int) (y0:p0) (y1:(w0:Int)≤IntKind.max .u8∧(w1:Int)≤IntKind.max .u8∧(w2:Int)≤IntKind.max .u8∧True) (y2:(IntKind.min .i8≤k0∧k0≤IntKind.max .i8)∧(IntKind.min .i8≤k1∧k1≤IntKind.max .i8)∧True):nO Tryz.prog 9 [fX r c l,w3D w0 w1 w2,k2D k0 k1] (one (.bool true)):=by
 obtain ⟨a1,a2,a3,_⟩:=y1
 obtain ⟨⟨b1,b2⟩,⟨b3,b4⟩,_⟩:=y2
 simp [IntKind.max,IntKind.min,IntKind.signed,IntKind.bits] at a1 a2 a3 b1 b2 b3 b4
 exact od r c l w0 w1 w2 k0 k1 X X X X X
end Tor
end
