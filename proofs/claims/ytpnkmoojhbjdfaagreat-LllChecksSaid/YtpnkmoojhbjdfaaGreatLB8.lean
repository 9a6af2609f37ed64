/-
  Theorems that the proofs of laws of this seat rest on.
  No condition.
-/
import Derived.Test.YtpnkmoojhbjdfaaGreatLB7
set_option maxHeartbeats 16000000
set_option linter.unusedVariables false
set_option linter.unusedSimpArgs false
section
namespace Tor
open Go Go.RowKit Go.Proofs
attribute [local irreducible] J PJ aP one slT cv bA bM exT cq eP aW aU slV VT.le Ret bO
attribute [local irreducible] aO
theorem kv (p q:Rat) (n m:Nat) (hp:qz n p) (hq:qz m q) (h:n+m+1≤1099511627700):Ok Tryz.prog 32 [bx p,bx q] (one (.int .i64 (fp (p.num*q.den) (q.num*p.den)))):=by
 have m1:=fx hp.1 hq.2
 have m2:=fx hq.1 hp.2
 rw [Nat.add_comm m n] at m2
 have c1:=dR p.num q.den (hp.1.small Y) (hq.2.small Y)
 have c2:=dR q.num p.den (hq.1.small Y) (hp.2.small Y)
 have c4:=sV (p.num*q.den) (q.num*p.den) (m1.small Y) (m2.small Y)
 unfold bx fO at *
 refine Ok.enter Tryz.func32 Z Tryz.ntmps32 Z (fun w O => ?_)
 refine ae (aj ?_)
 refine aM Z Z (ltN Z) (fun b2 => ?_)
 refine aM Z Z (ltN Z) (fun b3 => ?_)
 refine Ea Z (Ec (aa (ae (aT 11 aS X S (DY (ah Z) (DY (ak 1 Z Z Z) (DY (ah Z) (DY (ak 0 Z Z Z) ?_))))))))
 refine DY (am (c1) Z ⟨H,H,Ed⟩) ?_
 refine DY (ah Z) (DY (ak 0 Z Z Z) (DY (ah Z) (DY (ak 1 Z Z Z) ?_)))
 refine DY (am (c2) Z ⟨H,H,Ed⟩) ?_
 refine DY (am (c4) Z ⟨H,H,Ed⟩) ?_
 refine Ec (Ea Z (Ec (aa (aD ?_))))
 refine aK Tryz.results32 (.tmp Z H)
theorem tF (n:Nat) (f g:Nat→Int) (hn:n≤1048576) (hf : ∀ i,cX (f i)) (hg : ∀ i,cX (g i)):Ok Tryz.prog 23 [cu n f,cu n g] (bM [aO (cS n (fun k=>f k*g k)),one (.int .i64 0)]):=by
 unfold cu
 refine Ok.enter Tryz.func23 Z Tryz.ntmps23 Z (fun w O => ?_)
 refine ae (aj ?_)
 refine aX (T:=43) Z (ltN Z) (fun b4 => ?_)
 refine Ea Z (Ec (aa (ae (ae (aj (DZ Z (DY (aZ Z) (DZ Z (DY (aZ Z) ?_)))))))))
 refine DY (sF Y (cE Z Z)) (Ec (aa (az Z (av (aa (ae (aj ?_)))))))
 refine DY (am (fZ _ Y Y) Z ⟨H,Ed⟩) ?_
 refine aX (T:=43) Z (ltN Z) (fun b6 => ?_)
 refine aC 0 Z Z Z Z Z (leN Z) Z (Ec (aa (ae (ae (aj (Ea Z (Ec (aa (ar ?_)))))))))
 refine cm (Γ' := [(0,_),(1,_),(4,_),(5,_),(6,_),(7,_)]) DT (SubM.refl _) ?_
 refine bw (σ:=Nat) (Γk := [(0,_),(1,_),(4,_),(5,_),(6,_)]) DT (fun i => [(7,one (.int .i64 (i:Nat)))]) (fun i M0=>(M0.set 0 (aW b6 43 2 [(0, .agg 2,aO (cS i (fun k=>f k*g k)))]))) (fun i=>i≤n) (fun i=>n - i) (0) (Nat.zero_le _) DU (.keep DX (.keep DX (.nil))) (fun i hi => ?_)
 refine bN (Γ' := [(7,_),(0,_),(1,_),(4,_),(5,_),(6,_)]) (M' := [_,_]) Z Z ?_
 by_cases hin:i<n
 ·have c0:=wT (Nat.le_trans hi hn) (fun k=>ye (hf k) (hg k))
  have c1:=bE (hf i)
  have c2:=bE (hg i)
  have c3:=jk (hf i).L (hg i).L
  refine ae (ae (aj (DZ Z (DZ Z (DY (aZ Z) (DY (sT Y (a7 Z Z)) (Ec (aa (aG Z ?_)))))))))
  refine av (aa (ae (ar (aT 11 aS X S (DY (ak 0 Z Z Z) (DZ Z (DZ Z (DY (ax Z Z Y) (DY (aJ Z) ?_)))))))))
  refine DZ Z (DZ Z (DY (ax Z Z Y) (DY (aJ Z) ?_)))
  refine DY (am (dR _ _ (by assumption) (by assumption)) Z ⟨H,H,Ed⟩) ?_
  refine DY (am (iB _ _ (by assumption) (by assumption)) Z ⟨H,H,Ed⟩) ?_
  refine Ec (aC 0 Z Z Z Z Z (leN Z) Z (Ec (aB (aa (aj (DZ Z (DY (bn _ 1 Z Z Y) (Ea Z (Ec ?_)))))))))
  refine aN (i+1) (hin) Y DU (.keep DX (.keep DX (.nil)))
 ·have he:i=n:=by omega
  subst he
  refine ae (ae (aj (DZ Z (DZ Z (DY (aZ Z) (DY (sF Y (a7 Z Z)) (Ec (aa (az Z ?_)))))))))
  refine aY (aw (aw (aE (aa (ae (aj (DY (ak 0 Z Z Z) (aC 1 Z Z Z Z Z (leN Z) Z (Ea Z ?_)))))))))
  refine Ec (aa (aD ?_))
  refine fw Tryz.results23 (.cellB 1 Z Z Z H) (.tmp Z H)
end Tor
end
section
set_option linter.unusedSectionVars false
namespace Tor
open Go Go.RowKit
section
variable {P:Program} {E:Env} {ops:Array Oper} {σ:Type}
def MkO (P:Program) (E:Env) (Γ:Ctx) (M:Mem) (o:Oper) (ψ:σ→VT) (Ms:σ→Mem):Prop :=
 ∀ (a:Act) (w:World),Base E M w→(∀ x φ,x∈o.op.operands→aQ Γ x=some φ→φ.p (a.eval x) (hv E M w)) →
  ∀ (next:Act→World→Prop) (Q:Exit→Act→World→Prop),
   (∀ s v w',Ext w w'→(∀ q∈Ms s,q.p (raw w') (hid ((E.O ++ a5 M) ++ a5 (Ms s)) (ct w')))→(a5 (Ms s)).Nodup→(∀ b∈a5 (Ms s),w.heap.size≤b∧b<w'.heap.size) →
    (ψ s).p v (hid ((E.O ++ a5 M) ++ a5 (Ms s)) (ct w'))→next (a.put o.dst v) w')→o.wp P a w next Q
theorem AZ {Γ:Ctx} {M:Mem} {f:FuncId} [hF:Fn P f] {xs:Array Operand} {ats:Array TypeId} {φs φs':List VT} {ψ:σ→VT} {Ms:σ→Mem} {d:Option Tmp} {ty:TypeId} {pos:String} {af:Array Edge} {gd:Option (Nat × Bool)} (h:OkM P f φs' ψ Ms) (hx:iM Γ xs.toList=some φs) (hle:je φs φs') :
  MkO P E Γ M ⟨d, .call ⟨.value (.func f),xs,ats⟩,ty,pos,af,gd⟩ ψ Ms:=by
 intro a w hb hf next Q hn
 have hp:=iN (a:=a) (h:=hv E M w) hx (fun x φ hx' he=>hf x φ (by simp [Op.operands,Call.operands]; exact .inr (by simpa using hx')) he)
 have hcall:=h w _ _ hb.ex (gU hle hp)
 unfold Oper.wp
 have hr:(execOp a.eval ⟨d, .call ⟨.value (.func f),xs,ats⟩,ty,pos,af,gd⟩).run P w = .ok (.enter f (xs.toList.map a.eval).toArray) w:=by
  have h0:a.eval (.func f) = .func (.func f) #[] #[]:=rfl
  have h9:(xs.map a.eval)=(xs.toList.map a.eval).toArray:=by simp [← Array.toList_map]
  simp [execOp,resolve,Deferred.ofValue,invoke,h0,hF.run,h9]
 rw [hr]
 refine Calls.mono hcall ?_
 rintro e w' ⟨s,v,rfl,hv',hext,hmem,hnd,hbl⟩
 exact hn s v w' hext hmem hnd (fun b h=>⟨(hbl b h).1,(hbl b h).2.1⟩) hv'
theorem qK {Γ:Ctx} {M:Mem} {T:TypeId} {m:Nat} {z:Array Value} {pl:List (Nat × Lay)} [hB:BuildOf P T m z pl] {ψ:σ→VT} {Ms:σ→Mem} {d:Option Tmp} {ty:TypeId} {pos:String} {af:Array Edge} {gd:Option (Nat × Bool)} (g:Nat→σ)
  (h1 : ∀ b, ψ (g b)=one (.pointer (some ⟨b,0,none⟩))) (h2 : ∀ b,Ms (g b) = [aW b T m (dt z pl)]) (hz:(pl.all fun q=>(bT q.2 z q.1).isSome)=true) :
  MkO P E Γ M ⟨d, .alloc T,ty,pos,af,gd⟩ ψ Ms:=by
 intro a w hb hf next Q hn
 have hz0:=hB.zero w
 unfold Oper.wp
 have hr:(execOp a.eval ⟨d, .alloc T,ty,pos,af,gd⟩).run P w = .ok (.value (.pointer (some ⟨w.heap.size,0,none⟩))) (w.alloc (.cells z T)):=by
  simp [execOp,Instr.alloc,Sem.run_bind,hz0,newVar,newRow,newObj,Sem.run,Value.cells]
 rw [hr]
 refine hn (g w.heap.size) _ _ (Ext.alloc w _) ?_ ?_ ?_ ?_
 ·rw [h2]; intro q hq
  cases List.mem_singleton.1 hq
  exact ⟨z,cg w _ _ _,hB.zs,hB.zo,l3 hz⟩
 ·rw [h2]; simp [a5,aW]
 ·rw [h2]; intro b hb'
  simp [a5,aW] at hb'
  subst hb'
  exact ⟨Nat.le_refl _,eX (cg w _ _ _)⟩
 ·rw [h1]; rfl
inductive OpW (P:Program) (E:Env) (M:Mem) (ops:Array Oper) (mk:List Nat) (ψm:Nat→σ→VT) (Ms:Nat→σ→Mem) (i:Nat) (Γ:(Nat→σ)→Ctx) (o:Oper):((Nat→σ)→Ctx)→Prop
 | pure {d : Nat} {ψ : (Nat → σ) → VT} (ds : List Nat) : mk.elem i = false → (ds.all fun j => jg 6 ops j i) = true → (∀ s s', (∀ j ∈ ds, s j = s' j) → ψ s = ψ s') → (∀ s B, StepG P (E.hide B) (Γ s) M ops o ((d, ψ s) :: Γ s)) → OpW P E M ops mk ψm Ms i Γ o (fun s => (d, ψ s) :: Γ s)
 | make {d : Nat} : mk.elem i = true → o.dst = some d → d < E.N → o.guard = none → (∀ s B, MkO P (E.hide B) (Γ s) M o (ψm i) (Ms i)) → OpW P E M ops mk ψm Ms i Γ o (fun s => (d, ψm i (s i)) :: Γ s)
inductive RunW (P:Program) (E:Env) (M:Mem) (ops:Array Oper) (mk:List Nat) (ψm:Nat→σ→VT) (Ms:Nat→σ→Mem):Nat→((Nat→σ)→Ctx)→List Oper→(((Nat→σ)→Ctx)→Prop)→Prop
 | nil {i Γ K} : K Γ → RunW P E M ops mk ψm Ms i Γ [] K
 | step {i Γ o os K Γ'} : OpW P E M ops mk ψm Ms i Γ o Γ' → RunW P E M ops mk ψm Ms (i + 1) Γ' os K → RunW P E M ops mk ψm Ms i Γ (o :: os) K
theorem RunW.chain {M:Mem} {mk:List Nat} {ψm:Nat→σ→VT} {Ms:Nat→σ→Mem} {i:Nat} {Γ:(Nat→σ)→Ctx} {os:List Oper} {K:((Nat→σ)→Ctx)→Prop} (h:RunW P E M ops mk ψm Ms i Γ os K) :
  ∃ (G:Nat→(Nat→σ)→Ctx),G i=Γ∧K (G (i+os.length)) ∧ ∀ j o,os[j]? = some o→OpW P E M ops mk ψm Ms (i+j) (G (i+j)) o (G (i+j+1)):=by
 induction h with
 | @nil i Γ K hK => exact ⟨fun _ => Γ, rfl, hK, fun j o h => by simp at h⟩
 | @step i Γ o os K Γ' hs _ ih =>
  obtain ⟨G,h0,hK,hG⟩:=ih
  refine ⟨fun j=>if j=i then Γ else G j,by simp,?_,fun j o' hj => ?_⟩
  ·have e1:i+(o :: os).length=i+1+os.length:=by simp only [List.length_cons]; omega
   have e2 : ¬ (i+(o :: os).length=i):=by simp only [List.length_cons]; omega
   simp only [if_neg e2,e1]; rw [e1] at e2;simp only [if_neg e2]; exact hK
  ·cases j with
   | zero =>
    simp only [List.getElem?_cons_zero,Option.some.injEq] at hj;subst hj
    have e : ¬ (i+0+1=i):=by omega
    simp only [Nat.add_zero,if_true] at e ⊢; rw [if_neg e,h0]; exact hs
   | succ j =>
    simp only [List.getElem?_cons_succ] at hj
    have:=hG j o' hj
    have e1 : ¬ (i+(j+1)=i):=by omega
    have e2 : ¬ (i+(j+1)+1=i):=by omega
    simp only [if_neg e1,if_neg e2]
    rw [show i+(j+1)=i+1+j by omega]; exact this
theorem OpW.dst {M:Mem} {mk:List Nat} {ψm:Nat→σ→VT} {Ms:Nat→σ→Mem} {i:Nat} {Γ Γ':(Nat→σ)→Ctx} {o:Oper} (h:OpW P E M ops mk ψm Ms i Γ o Γ') (s0:Nat→σ) : ∃ (d:Nat) (ψ:(Nat→σ)→VT),o.dst=some d∧d<E.N ∧ ∀ s, Γ' s=(d, ψ s) :: Γ s:=by
 cases h with
 | @pure d ψ ds _ _ _ hs =>
  obtain ⟨d', ψ',h1,h2,h3⟩:=(hs s0 []).dst'
  simp only [List.cons.injEq,Prod.mk.injEq,and_true] at h3
  exact ⟨d, ψ,by rw [h1,h3.1],by rw [h3.1]; exact h2,fun s=>rfl⟩
 | @make d _ h1 h2 _ _ => exact ⟨d, fun s => ψm i (s i), h1, h2, fun s => rfl⟩
section
variable {M:Mem} {mk:List Nat} {ψm:Nat→σ→VT} {Ms:Nat→σ→Mem} {G:Nat→(Nat→σ)→Ctx} {n:Nat}
theorem uO (hG : ∀ j o,j<n→ops[j]? = some o→OpW P E M ops mk ψm Ms j (G j) o (G (j+1))) (s:Nat→σ) {t j:Nat} {o:Oper} (hj:j<n) (ho:ops[j]? = some o) (hno:dstOf ops j≠some t):bP (G (j+1) s) t=bP (G j s) t:=by
 obtain ⟨d, ψ,hd,_,hΓ⟩:=(hG j o hj ho).dst s
 rw [hΓ,bC,if_neg]
 intro e;subst e;exact hno (by simp [dstOf,ho,hd])
theorem jc (hG : ∀ j o,j<n→ops[j]? = some o→OpW P E M ops mk ψm Ms j (G j) o (G (j+1))) (hn:n≤ops.size) (s:Nat→σ) {t i k:Nat} (hik:i≤k) (hk:k≤n)
    (hno : ∀ j,i≤j→j<k→dstOf ops j≠some t):bP (G k s) t=bP (G i s) t:=by
  induction k with
  | zero => have : i = 0 := by omega
            subst this;rfl
  | succ k ih =>
    by_cases e:i=k+1
    · subst e;rfl
    · have ho:ops[k]? = some ops[k]:=by simp [show k<ops.size by omega]
      rw [uO hG s Y ho (hno k Y Y)]
      exact ih Y Y (fun j h1 h2=>hno j h1 Y)
theorem yU (hG : ∀ j o,j<n→ops[j]? = some o→OpW P E M ops mk ψm Ms j (G j) o (G (j+1))) (hn:n≤ops.size) {s s':Nat→σ} (h0:G 0 s=G 0 s') {l:Array Bool} (hl:Lst ops l) (hs : ∀ j,l.getD j false=true→s j=s' j) :
  ∀ k,k≤n → ∀ t,(∀ j,j<k→dstOf ops j=some t→l.getD j false=true)→bP (G k s) t=bP (G k s') t
 | 0, _, t, _ => by rw [h0]
 | k + 1, hk, t, hw => by
  have ho:ops[k]? = some ops[k]:=by simp [show k<ops.size by omega]
  have ih:=yU hG hn h0 hl hs k Y t (fun j hj=>hw j Y)
  have hop:=hG k _ Y ho
  obtain ⟨d, ψ,hd,_,hΓ⟩:=hop.dst s
  have hdk:dstOf ops k=some d:=by simp [dstOf,ho,hd]
  rw [hΓ s,hΓ s',bC,bC]
  by_cases e:d=t
  ·rw [if_pos e,if_pos e]
   have hlk:=hw k Y (by rw [hdk,e])
   generalize hX:G (k+1)=DP at hop hΓ
   generalize hY:G k=DO at hop hΓ
   cases hop with
   | @pure d' ψ' ds hb hp hψ hst =>
    have e1:=hΓ s
    have e2:=hΓ s'
    simp only [List.cons.injEq,Prod.mk.injEq,and_true] at e1 e2
    rw [← e1.2, ← e2.2,hψ s s' (fun j hj=>hs j (m9 hl 6 k hlk j (by have:=List.all_eq_true.1 hp j hj;exact this)))]
   | make hb h1 h2 h3 h4 =>
    have e1:=hΓ s
    have e2:=hΓ s'
    simp only [List.cons.injEq,Prod.mk.injEq,and_true] at e1 e2
    rw [← e1.2, ← e2.2,hs k hlk]
  ·rw [if_neg e,if_neg e]; exact ih
end
theorem tG {fq n:Nat} {E':Env} {G G':Nat→Ctx} {M:Mem} {l:Array Bool} {a:Act} {w w':World} {i d:Nat} {v:Value} (hok:fc fq n ops=true) (hl:Lst ops l) (hd:d<a.tmps.size) (hi1:i<ops.size) (hi2:l.getD i false=false) (hdi:dstOf ops i=some d)
  (hbt : ∀ k t,i+1≤k→k≤n→(∀ j,i+1≤j→j<k→dstOf ops j≠some t)→bP (G' k) t=bP (G' (i+1)) t) (hself : ∀ φ,bP (G' (i+1)) d=some φ→φ.p v (hv E' M w'))
  (hag : ∀ k,k≤n → ∀ t,(∀ j,j<k→dstOf ops j=some t→l.getD j false=true)→bP (G' k) t=bP (G k) t) (hle:Hp.le (hv E M w) (hv E' M w')) (hI:Inv E ops n G M l a w) :
  Inv E' ops n G' M (l.setIfInBounds i true) (a.put (some d) v) w':=by
 have hn:n≤ops.size:=by simp only [fc,Bool.and_eq_true] at hok;exact of_decide_eq_true hok.1
 have hls:=hl.size
 have hsame : ∀ j,j≠i→(l.setIfInBounds i true).getD j false=l.getD j false:=fun j hj=>by rw [bD Y,if_neg (fun e=>hj e.symm)]
 have hself':(l.setIfInBounds i true).getD i false=true:=by rw [bD Y,if_pos Z]
 intro k' hk' t φ hlk hlo hhi
 by_cases htd:d=t
 ·subst htd
  have hik:i<k':=by
   rcases Nat.lt_or_ge i k' with h' | h'
   ·exact h'
   ·have:=hhi i h' hi1 hdi;rw [hself'] at this;cases this
  have hno : ∀ j,i+1≤j→j<k'→dstOf ops j≠some d:=by
   intro j h1 h2 hdj
   have h3:=hlo j h2 hdj
   rw [hsame j Y] at h3
   rcases dP hok (i:=i) (j:=j) Y Y with hp | ⟨_,hp⟩
   ·have:=m9 hl _ j h3 i hp;rw [this] at hi2;cases hi2
   ·rw [fK hdi hdj] at hp;cases hp
  rw [hbt k' d Y hk' hno] at hlk
  rw [cy hd]; exact hself φ hlk
 ·rw [cw htd]
  have hlo' : ∀ j,j<k'→dstOf ops j=some t→l.getD j false=true:=fun j hj hdj=>by
   have hji:j≠i:=fun e=>by subst e;rw [hdi] at hdj;cases hdj;exact htd Z
   have:=hlo j hj hdj;rwa [hsame j hji] at this
  rw [hag k' hk' t hlo'] at hlk
  refine φ.mono hle (hI k' hk' t φ hlk hlo' (fun j hj hjs hdj => ?_))
  have hji:j≠i:=fun e=>by subst e;rw [hdi] at hdj;cases hdj;exact htd Z
  have:=hhi j hj hjs hdj;rwa [hsame j hji] at this
theorem uP {fq n:Nat} {G:Nat→Ctx} {M:Mem} {l:Array Bool} {a:Act} {w:World} (hI:Inv E ops n G M l a w) (hok:fc fq n ops=true) (hl:Lst ops l)
  {i:Nat} {o:Oper} (hin:i<n) (ho:ops[i]? = some o) (hi2:l.getD i false=false) (hi:i∈Region.ready .any ops l) :
  ∀ t φ,t∈jx ops o→bP (G i) t=some φ→φ.p (a.tmps.getD t undef) (hv E M w):=by
 have hi1:=dc hi
 intro t φ ht hlk
 refine hI i Y t φ hlk (fun j hj hdj => ?_) (fun j hj hjs hdj => ?_)
 ·rcases dP hok hj hi1 with hp | ⟨_,hp⟩
  ·exact ss hl hi hp
  ·rw [e8 hdj (by simpa [dL,ho] using ht)] at hp;cases hp
 ·rcases Nat.lt_or_ge i j with h' | h'
  ·rw [← Bool.not_eq_true]; intro hlj
   rcases dP hok h' hjs with hp | ⟨_,hp⟩
   ·have:=m9 hl _ j hlj i hp;rw [this] at hi2;cases hi2
   ·rw [ey hdj (by simpa [dL,ho] using ht)] at hp;cases hp
  ·have:j=i:=by omega
   subst this;exact hi2
theorem uQ {fq n:Nat} (hok:fc fq n ops=true) {Q:Exit→Act→World→Prop} (Iv:Array Bool→Act→World→Prop)
  (hstep : ∀ l a w i,Iv l a w→Lst ops l→i<n→l.getD i false=false→i∈Region.ready .any ops l→wpOp P ops Q i (fun a' w'=>Iv (l.setIfInBounds i true) a' w') a w)
  (htail : ∀ l a w,Iv l a w→Lst ops l→(∀ j,j<ops.size→(l.getD j false=true↔j<n))→wpOps P ops Q (List.range' n (ops.size - n)) a w) :
  ∀ (fuel:Nat) (l:Array Bool) (a:Act) (w:World),Lst ops l→left ops l≤fuel→Iv l a w→(∃ i,i<n∧l.getD i false=false)→wpAny P .any ops Q fuel l a w:=by
 have hn:n≤ops.size:=by simp only [fc,Bool.and_eq_true] at hok;exact of_decide_eq_true hok.1
 have tail : ∀ (m:Nat) (fuel:Nat) (l:Array Bool) (k:Nat) (a:Act) (w:World),k+m=ops.size→n≤k→Lst ops l→(∀ j,j<ops.size→(l.getD j false=true↔j<k))→m≤fuel →
   wpOps P ops Q (List.range' k m) a w→wpAny P .any ops Q fuel l a w:=by
  intro m
  induction m with
  | zero =>
   intro fuel l k a w hkm hnk hl hiff _ h
   have hr:Region.ready .any ops l = []:=by
    rw [List.eq_nil_iff_forall_not_mem]
    intro j hj
    have h1:=dc hj
    have h2:=(mem_ready.1 hj).1
    have h3:=(hiff j h1).2 Y
    rw [eg (by have:=hl.size;omega) true false,h3] at h2;cases h2
   have hq:Q .normal a w:=by simpa [wpOps] using h
   cases fuel with
   | zero => exact ⟨hr, hq⟩
   | succ f => exact ⟨fun _ => hq, fun i hi => by rw [hr] at hi; cases hi⟩
  | succ m ih =>
   intro fuel l k a w hkm hnk hl hiff hf h
   obtain ⟨f,rfl⟩ : ∃ f,fuel=f+1:=⟨fuel - 1,by omega⟩
   have hsz:=hl.size
   have hkl:l.getD k false=false:=by
    rw [← Bool.not_eq_true]; intro h';have:=(hiff k Y).1 h';omega
   refine ⟨fun hr => ?_,fun i hi => ?_⟩
   ·obtain ⟨i,hi⟩:=kH hok hsz (j:=k) Y hkl
    rw [hr] at hi;cases hi
   ·have hi1:=dc hi
    have hi2:=(mem_ready.1 hi).1
    rw [eg Y true false] at hi2
    have hik:k≤i:=by
     rcases Nat.lt_or_ge i k with h' | h'
     ·rw [(hiff i hi1).2 h'] at hi2;cases hi2
     ·exact h'
    have:i=k:=by
     rcases Nat.lt_or_ge k i with h' | h'
     ·rcases dP hok h' hi1 with hp | ⟨hp,_⟩
      ·have:=ss hl hi hp;rw [this] at hkl;cases hkl
      ·omega
     ·omega
    subst this
    rw [List.range'_succ,wpOps_cons] at h
    refine wpOp_mono (fun a' w' h' => ?_) h
    refine ih f _ (i+1) a' w' Y Y ⟨by simpa using hsz,?_⟩ ?_ Y h'
    ·intro j hj i' hp
     rw [bD Y] at hj ⊢
     split
     ·rfl
     ·split at hj
      ·rename_i h1;subst h1;exact cH hi hp
      ·exact hl.closed j hj i' hp
    ·intro j hj
     rw [bD Y]
     split
     ·rename_i h1;subst h1;simp
     ·rename_i h1;rw [hiff j hj]; omega
 intro fuel
 induction fuel with
 | zero =>
  intro l a w hl hleft _ ⟨i,hi,hil⟩
  have:=eI (ops:=ops) hl.size (i:=i) Y hil
  omega
 | succ fuel ih =>
  intro l a w hl hleft hI ⟨i0,hi0,hil0⟩
  have hls:=hl.size
  refine ⟨fun hr => ?_,fun i hi => ?_⟩
  ·obtain ⟨i,hi⟩:=kH hok hls (j:=i0) Y hil0
   rw [hr] at hi;cases hi
  ·have hi1:=dc hi
   have hi2:l.getD i false=false:=by
    have:=(mem_ready.1 hi).1
    rw [eg Y true false] at this;exact this
   have hin:i<n:=by
    rcases Nat.lt_or_ge i n with h' | h'
    ·exact h'
    ·rcases dP hok (i:=i0) (j:=i) Y hi1 with hp | ⟨hp,_⟩
     ·have:=ss hl hi hp;rw [this] at hil0;cases hil0
     ·omega
   refine wpOp_mono (fun a' w' h' => ?_) (hstep l a w i hI hl hin hi2 hi)
   have hl':Lst ops (l.setIfInBounds i true):=by
    refine ⟨by simpa using hls,fun j hj i' hp => ?_⟩
    rw [bD Y] at hj ⊢
    split
    ·rfl
    ·split at hj
     ·rename_i h1;subst h1;exact cH hi hp
     ·exact hl.closed j hj i' hp
   have hleft':=eI (ops:=ops) hls hi1 hi2
   by_cases hmore : ∃ i',i'<n∧(l.setIfInBounds i true).getD i' false=false
   ·exact ih _ _ _ hl' Y h' hmore
   ·have hall : ∀ j,j<n→(l.setIfInBounds i true).getD j false=true:=by
     intro j hj;rw [← Bool.not_eq_false]; intro h;exact hmore ⟨j,hj,h⟩
    have hlate : ∀ j,n≤j→j<ops.size→(l.setIfInBounds i true).getD j false=false:=by
     intro j hj hjs
     rw [bD Y,if_neg Y, ← Bool.not_eq_true]
     intro hlj
     rcases dP hok (i:=i) (j:=j) Y hjs with hp | ⟨hp,_⟩
     ·have:=m9 hl _ j hlj i hp;rw [this] at hi2;cases hi2
     ·omega
    have hiff : ∀ j,j<ops.size→((l.setIfInBounds i true).getD j false=true↔j<n):=fun j hj=>by
     constructor
     ·intro h;rcases Nat.lt_or_ge j n with h' | h'
      ·exact h'
      ·rw [hlate j h' hj] at h;cases h
     ·exact hall j
    refine tail (ops.size - n) fuel _ n _ w' Y (Nat.le_refl _) hl' hiff ?_ (htail _ _ _ h' hl' hiff)
    have:ops.size - n≤left ops (l.setIfInBounds i true):=by
     unfold left
     have h1:(List.range' n (ops.size - n)).Sublist ((List.range ops.size).filter fun i' => !(l.setIfInBounds i true).getD i' false):=by
      have h2:((List.range' n (ops.size - n)).filter fun i' => !(l.setIfInBounds i true).getD i' false)=List.range' n (ops.size - n):=by
       rw [List.filter_eq_self]
       intro j hj;rw [List.mem_range'_1] at hj
       rw [hlate j Y Y]; rfl
      rw [← h2]
      refine List.Sublist.filter _ ?_
      have h3:List.range ops.size=List.range' 0 n ++ List.range' n (ops.size - n):=by
       have := @List.range'_append 0 n (ops.size - n) 1
       rw [List.range_eq_range']
       simp only [Nat.one_mul,Nat.zero_add] at this
       rw [this]; congr 1;omega
      rw [h3]; exact List.sublist_append_right _ _
     have:=h1.length_le;simpa using this
    omega
def iK (Ms:Nat→σ→Mem) (s:Nat→σ) (ord:List Nat):Mem:=ord.flatMap fun j=>Ms j (s j)
theorem nz {Ms:Nat→σ→Mem} {s:Nat→σ} {j:Nat} {ord:List Nat} : iK Ms s (j :: ord)=Ms j (s j) ++ iK Ms s ord:=rfl
theorem pz {Ms:Nat→σ→Mem} {s s':Nat→σ} : ∀ {ord:List Nat},(∀ j∈ord,s j=s' j)→iK Ms s ord=iK Ms s' ord
 | [], _ => rfl
 | j :: ord, h => by rw [nz, nz, h j List.mem_cons_self, pz (fun k hk => h k (List.mem_cons_of_mem _ hk))]
structure IvW (E:Env) (D:List Deferred) (M:Mem) (ops:Array Oper) (n:Nat) (mk:List Nat) (Ms:Nat→σ→Mem) (G:Nat→(Nat→σ)→Ctx) (s:Nat→σ) (ord:List Nat) (l:Array Bool) (a:Act) (w:World):Prop where
 sz:a.tmps.size=E.N
 df:a.defers=D
 nd:ord.Nodup
 mem : ∀ j,j∈ord↔(j∈mk∧l.getD j false=true)
 base:Base E (iK Ms s ord ++ M) w
 inv:Inv (E.hide (a5 (iK Ms s ord))) ops n (fun k=>G k s) M l a w
theorem pA {D:List Deferred} {Γ:Ctx} {M:Mem} {id:Nat} {Q:Exit→Act→World→Prop} (fq n:Nat) (mk:List Nat) (s0:σ) (ψm:Nat→σ→VT) (Ms:Nat→σ→Mem) (hm:P.follows .mixedOrders=true) (hok:fc fq n ops=true) (hn0:0<n) (hmk:(mk.all fun j=>decide (j<n))=true) (hmd:mk.Nodup)
  (h:RunW P E M ops mk ψm Ms 0 (fun _=>Γ) (ops.toList.take n) (fun Γ' => ∀ s,Run P E ops false n D (Γ' s) (iK Ms s mk ++ M) (ops.toList.drop n) (fun D' Γ' M'=>PJ E D' Γ' M' .normal Q))):J P E D Γ M (.region id ops true) Q:=by
 intro a w hS
 have hn:n≤ops.size:=by simp only [fc,Bool.and_eq_true] at hok;exact of_decide_eq_true hok.1
 refine eC hm ?_
 have k0:Ext w { w with drawn:=w.drawn+1 } := ⟨rfl,rfl,rfl,Nat.le_refl _,fun _ _=>rfl⟩
 obtain ⟨G,hG0,hK,hG'⟩:=h.chain
 have hlen:(ops.toList.take n).length=n:=by simp [hn]
 rw [hlen,Nat.zero_add] at hK
 have hG : ∀ j o,j<n→ops[j]? = some o→OpW P E M ops mk ψm Ms j (G j) o (G (j+1)):=fun j o hj ho=>by
  have:=hG' j o (by rw [List.getElem?_take,if_pos hj]; simpa using ho)
  simpa using this
 have hl0 : ∀ j,(Array.replicate ops.size false).getD j false=false:=fun j=>by
  simp [Array.getD_eq_getD_getElem?,Array.getElem?_replicate]; split <;> rfl
 refine uQ hok (fun l a' w' => ∃ s ord,IvW E D M ops n mk Ms G s ord l a' w') ?_ ?_ ops.size _ a _ ⟨by simp,fun j hj => ?_⟩ ?_ ⟨fun _=>s0, [],hS.sz,hS.df,List.nodup_nil,fun j => ?_,?_,?_⟩ ⟨0,hn0,hl0 0⟩
 ·rintro l a' w' i ⟨s,ord,hI⟩ hl hin hi2 hi
  have hi1:=dc hi
  have hls:=hl.size
  have ho:ops[i]? = some ops[i]:=by simp [hi1]
  have hsame : ∀ j,j≠i→(l.setIfInBounds i true).getD j false=l.getD j false:=fun j hj=>by rw [bD Y,if_neg (fun e=>hj e.symm)]
  have hself:(l.setIfInBounds i true).getD i false=true:=by rw [bD Y,if_pos Z]
  have hnm:=uP hI.inv hok hl hin ho hi2 hi
  generalize hX:G (i+1)=DP
  generalize hY:G i=DO at hnm
  have hop:=hG i _ hin ho
  have hX2:=hX
  rw [hX,hY] at hop
  cases hop with
  | @pure d ψ ds hb hp hψ hst =>
   obtain ⟨d', ψ',hd,hN,hΓ,hrun⟩:=(hst s (a5 (iK Ms s ord))).run ho
   simp only [List.cons.injEq,Prod.mk.injEq,and_true] at hΓ
   obtain ⟨e1,e2⟩:=hΓ
   subst e1 e2
   have hdi:dstOf ops i=some d:=by simp [dstOf,ho,hd]
   refine hrun a' w' hI.base.swap hnm _ _ fun v w'' k hv'=>⟨s,ord,by simp [Act.put,hI.sz],hI.df,hI.nd,fun j => ?_,hI.base.ext k,?_⟩
   ·rw [hI.mem j]
    by_cases e:j=i
    ·subst e
     constructor
     ·rintro ⟨_,h2⟩;rw [h2] at hi2;cases hi2
     ·rintro ⟨h1,_⟩;rw [List.elem_eq_true_of_mem h1] at hb;cases hb
    ·rw [hsame j e]
   ·refine tG (G:=fun k=>G k s) hok hl (by rw [hI.sz]; exact hN) hi1 hi2 hdi (fun k t h1 h2 h3=>jc hG hn s h1 h2 h3) (fun φ hlk => ?_) (fun _ _ _ _=>rfl) (Base.hv_ext k) hI.inv
    have hlk:bP (G (i+1) s) d=some φ:=hlk
    rw [hX2,bC,if_pos Z] at hlk
    cases hlk;exact hv'
  | @make d hb hd hN hg hmkO =>
   have hdi:dstOf ops i=some d:=by simp [dstOf,ho,hd]
   have hB:=hI.base.swap
   have hpo : ∀ x φ,x∈(ops[i]).op.operands→aQ (DO s) x=some φ→φ.p (a'.eval x) (hv (E.hide (a5 (iK Ms s ord))) M w'):=fun x φ hx he=>by
    cases x with
    | tmp t => exact hnm t φ (List.mem_append.2 (.inl (List.mem_filterMap.2 ⟨.tmp t, by simpa using hx, rfl⟩))) he
    | const v => cases he; rfl
    | global g => cases he; rfl
    | func f => cases he; rfl
   simp only [wpOp,ho,dG (o:=ops[i]) hg,if_true]
   refine .inl (hmkO s (a5 (iK Ms s ord)) a' w' hB hpo _ _ fun x v w'' hext hmem hnd hbl hv' => ?_)
   have hni:i ∉ ord:=fun h=>by rw [((hI.mem i).1 h).2] at hi2;cases hi2
   have hs' : ∀ j∈ord,s j=(fun j=>if j=i then x else s j) j:=fun j hj=>by
    have:j≠i:=fun e=>hni (e▸hj)
    simp [this]
   have hcg:=pz (Ms:=Ms) hs'
   have hS0:St E D [] (iK Ms s ord ++ M) a' w':=⟨hI.base,hI.sz,hI.df,fun t φ h=>by cases h⟩
   have ehid : ∀ DR:World,hid (((E.hide (a5 (iK Ms s ord))).O ++ a5 M) ++ a5 (Ms i x)) (ct DR)=hid ((E.O ++ a5 (iK Ms s ord ++ M)) ++ a5 (Ms i x)) (ct DR):=fun DR=>by
    unfold Env.hide;rw [bg, ← List.append_assoc]
   have hS1:=hS0.take hext (fun q hq=>by rw [← ehid]; exact hmem q hq) hnd hbl hN (by rw [← ehid]; exact hv')
   rw [hd]
   have e5:iK Ms (fun j=>if j=i then x else s j) (i :: ord)=Ms i x ++ iK Ms s ord:=by
    rw [nz, ← hcg]; simp
   refine ⟨fun j=>if j=i then x else s j,i :: ord,by simp [Act.put,hI.sz],hI.df,List.nodup_cons.2 ⟨hni,hI.nd⟩,fun j => ?_,?_,?_⟩
   ·rw [List.mem_cons,hI.mem j]
    by_cases e:j=i
    ·subst e
     exact ⟨fun _=>⟨by simpa using hb,hself⟩,fun _ => .inl Z⟩
    ·rw [hsame j e]
     exact ⟨fun h=>h.resolve_left e, .inr⟩
   ·rw [e5,List.append_assoc]; exact hS1.base
   ·rw [e5]
    have hle2:Hp.le (hv (E.hide (a5 (iK Ms s ord))) M w') (hv (E.hide (a5 (Ms i x ++ iK Ms s ord))) M w''):=by
     rw [iS,iS]
     intro b y e
     obtain ⟨g1,g2⟩:=fS e
     refine jv ?_ (hext.view _ _ g2)
     intro h
     have hlt:=eX g2
     rw [List.append_assoc,bg] at h
     rcases List.mem_append.1 h with h | h
     ·exact g1 (List.mem_append.2 (.inl h))
     ·rcases List.mem_append.1 h with h | h
      ·have:=(hbl b h).1;omega
      ·exact g1 (List.mem_append.2 (.inr h))
    refine tG (G:=fun k=>G k s) hok hl (by rw [hI.sz]; exact hN) hi1 hi2 hdi (fun k t h1 h2 h3=>jc hG hn _ h1 h2 h3) (fun φ hlk => ?_) (fun k hk t hw=>yU hG hn (by rw [hG0]) hl (fun j hj => ?_) k hk t hw) hle2 hI.inv
    ·have hlk:bP (G (i+1) (fun j=>if j=i then x else s j)) d=some φ:=hlk
     rw [hX2,bC,if_pos Z] at hlk
     cases hlk
     have:=hS1.tm d (ψm i x) (by rw [bC,if_pos Z])
     rw [cy (by rw [hI.sz]; exact hN)] at this
     rw [iS,List.append_assoc]
     simpa using this
    ·have:j≠i:=fun e=>by rw [e,hi2] at hj;cases hj
     simp [this]
 ·rintro l a' w' ⟨s,ord,hI⟩ hl hiff
  have hpm:ord.Perm mk:=(List.perm_ext_iff_of_nodup hI.nd hmd).2 fun j=>by
   rw [hI.mem j]
   refine ⟨fun h=>h.1,fun h=>⟨h,?_⟩⟩
   have hj:j<n:=of_decide_eq_true (List.all_eq_true.1 hmk j h)
   exact (hiff j Y).2 hj
  have hpM:(iK Ms s ord ++ M).Perm (iK Ms s mk ++ M):=(hpm.flatMap_right _).append_right M
  have hSt:St E D (G n s) (iK Ms s ord ++ M) a' w':=⟨hI.base,hI.sz,hI.df,fun t φ hlk=>by
   have:=hI.inv n (Nat.le_refl _) t φ hlk (fun j hj _=>(hiff j Y).2 hj) (fun j hj hjs _=>by
    rw [← Bool.not_eq_true]; intro h;have:=(hiff j hjs).1 h;omega)
   rwa [iS] at this⟩
  have:=(hK s).seq (nrm Q) [] (fun j _=>by simp [List.getElem?_drop]) (fun D' Γ' M' a w hK hS=>by simpa [wpOps] using hK a w hS) a' w' (iQ hpM hSt)
  simpa using this
 ·rw [hl0] at hj;cases hj
 ·unfold left;refine Nat.le_trans (List.length_filter_le _ _) (by simp)
 ·simp [hl0]
 ·exact hS.base.ext k0
 ·have e0:E.hide (a5 (iK Ms (fun _=>s0) []))=E:=by cases E;simp [Env.hide,iK,a5]
  rw [e0]
  intro k' hk' t φ hlk hlo _
  have hno : ∀ j,0≤j→j<k'→dstOf ops j≠some t:=by
   intro j _ hj hd
   have:=hlo j hj hd
   rw [hl0] at this;cases this
  have hlk:bP (G k' (fun _=>s0)) t=some φ:=hlk
  rw [jc hG hn (fun _=>s0) (Nat.zero_le _) hk' hno,hG0] at hlk
  exact φ.mono (Base.hv_ext k0) (hS.tm t φ hlk)
section
variable {M:Mem} {mk:List Nat} {ψm:Nat→σ→VT} {Ms:Nat→σ→Mem} {i:Nat} {Γ:(Nat→σ)→Ctx} {os:List Oper} {K:((Nat→σ)→Ctx)→Prop} {op:Op} {ty:TypeId} {pos:String} {af:Array Edge}
theorem kx {d:Nat} {ψ:VT} (hi:mk.elem i=false) (h : ∀ s B,aP P (E.hide B) (Γ s) M ⟨some d,op,ty,pos,af,none⟩ ψ) (hd:Nat.ble (d+1) E.N=true) (hr:RunW P E M ops mk ψm Ms (i+1) (fun s=>(d, ψ) :: Γ s) os K) :
  RunW P E M ops mk ψm Ms i Γ (⟨some d,op,ty,pos,af,none⟩ :: os) K := .step (.pure (ψ:=fun _=>ψ) [] hi Z (fun _ _ _=>rfl) (fun s B => .plain (h s B) Z Z (Nat.le_of_ble_eq_true hd))) hr
theorem kd {d:Nat} {ψ:(Nat→σ)→VT} (ds:List Nat) (hi:mk.elem i=false) (hp:(ds.all fun j=>jg 6 ops j i)=true) (hψ : ∀ s s',(∀ j∈ds,s j=s' j)→ψ s=ψ s') (h : ∀ s B,aP P (E.hide B) (Γ s) M ⟨some d,op,ty,pos,af,none⟩ (ψ s)) (hd:Nat.ble (d+1) E.N=true) (hr:RunW P E M ops mk ψm Ms (i+1) (fun s=>(d, ψ s) :: Γ s) os K) :
  RunW P E M ops mk ψm Ms i Γ (⟨some d,op,ty,pos,af,none⟩ :: os) K := .step (.pure ds hi hp hψ (fun s B => .plain (h s B) Z Z (Nat.le_of_ble_eq_true hd))) hr
theorem kc {d:Nat} (hi:mk.elem i=true) (h : ∀ s B,MkO P (E.hide B) (Γ s) M ⟨some d,op,ty,pos,af,none⟩ (ψm i) (Ms i)) (hd:Nat.ble (d+1) E.N=true)
  (hr:RunW P E M ops mk ψm Ms (i+1) (fun s=>(d, ψm i (s i)) :: Γ s) os K):RunW P E M ops mk ψm Ms i Γ (⟨some d,op,ty,pos,af,none⟩ :: os) K := .step (.make hi Z (Nat.le_of_ble_eq_true hd) Z h) hr
end
end
end Tor
end
section
set_option linter.unusedSectionVars false
namespace Tor
open Go Go.RowKit
section
variable {P:Program} {E:Env} {Γ:Ctx} {M:Mem} {σ:Type} {ψ:σ→VT} {Ms:σ→Mem} {d:Option Tmp} {ty:TypeId} {pos:String} {af:Array Edge}
theorem rR {w:World} {c:Array Value} {T:TypeId} : Hp.le (hv E M w) (hid ((E.O ++ a5 M) ++ [w.heap.size]) (ct (w.alloc (.cells c T)))):=by
 intro b y e
 obtain ⟨g1,g2⟩:=fS e
 refine jv ?_ ((Ext.alloc w _).view _ _ g2)
 intro h
 rcases List.mem_append.1 h with h | h
 ·exact g1 h
 ·have h1:=List.mem_singleton.1 h
  have h2:=eX g2
  omega
theorem g9 {T e:TypeId} {z:Value} {by':Nat} {L:Lay} {x y:Operand} [hS:SliceOf P T e] [hL:LayOf P e L] [hZ:ZeroOf P e z by'] [hF:Flat (one z) L] (n:Nat) (g:Nat→σ) (hx:aQ Γ x=some (one (.int .i64 (n:Nat)))) (hy:aQ Γ y=some (one (.int .i64 (n:Nat))))
  (h1 : ∀ b, ψ (g b)=one (slV (some b) n n)) (h2 : ∀ b,Ms (g b) = [aU (some b) e L n n (fun _=>one z)]) (hb0:Nat.ble 1 by'=true) (hz0:Nat.ble 1 L.sz=true) (hn:by'*n≤2^48) :
  MkO P E Γ M ⟨d, .makeSlice T x y,ty,pos,af,none⟩ ψ Ms:=by
 intro a w hb hf next Q hne
 have hb0:=Nat.le_of_ble_eq_true hb0
 have hz0:=Nat.le_of_ble_eq_true hz0
 have hx':a.eval x = .int .i64 (n:Nat):=hf x _ (by simp [Op.operands]) hx
 have hy':a.eval y = .int .i64 (n:Nat):=hf y _ (by simp [Op.operands]) hy
 obtain ⟨f1,f2,f3⟩:=hF.ok z (fun _=>none) Z
 have hn48:n≤2^48:=by
  have:n≤by'*n:=Nat.le_mul_of_pos_left n hb0
  omega
 unfold Oper.wp
 have hr:(execOp a.eval ⟨d, .makeSlice T x y,ty,pos,af,none⟩).run P w = .ok (.value (slV (some w.heap.size) n n)) (w.alloc (.cells (ep z.cells (n*L.sz)) e)):=by
  simp only [execOp,hx',hy',Sem.run_bind,iZ hb0 (Nat.le_refl n) hn,Result.andThen_ok,Sem.run_pure]
 rw [hr]
 refine hne (g w.heap.size) _ _ (Ext.alloc w _) ?_ ?_ ?_ ?_
 ·rw [h2]; intro q hq
  cases List.mem_singleton.1 hq
  refine ⟨Nat.le_refl n,by omega,(fun h=>by cases h),fun b hb => ?_⟩
  cases hb
  exact ⟨_,cg w _ _ _,fa _ _,fun q hq=>⟨z,lB f1 f3 Y hz0,rfl⟩⟩
 ·rw [h2]; simp [a5,aU]
 ·rw [h2]; intro b hb'
  simp [a5,aU] at hb'
  subst hb'
  exact ⟨Nat.le_refl _,eX (cg w _ _ _)⟩
 ·rw [h1]; rfl
theorem kw {T e:TypeId} {L:Lay} {z:Value} {by':Nat} [hS:SliceOf P T e] [hL:LayOf P e L] [hZ:ZeroOf P e z by'] [hFz:Flat (one z) L] {x:Operand} {φ:VT} [hFl:Flat φ L] (g:Nat→σ) (hx:aQ Γ x=some φ)
  (h1 : ∀ b, ψ (g b)=one (slV (some b) 1 1)) (h2 : ∀ b,Ms (g b) = [aU (some b) e L 1 1 (fun _=>φ)]) (hsm:Nat.ble L.sz 16777216=true) (hsz:Nat.ble 1 L.sz=true) :
  MkO P E Γ M ⟨d, .buildSlice T 1 #[(0,x)],ty,pos,af,none⟩ ψ Ms:=by
 intro a w hb hf next Q hne
 have hsm:=Nat.le_of_ble_eq_true hsm
 have hsz:=Nat.le_of_ble_eq_true hsz
 obtain ⟨z1,_,_⟩:=hFz.ok z (fun _=>none) Z
 have hp:PartsOk Γ L 0 #[(0,x)].toList [φ] := .cons hx .nil
 obtain ⟨c',k1,k2,_,k4⟩:=lC (a:=a) (h:=hv E M w) (m:=1*L.sz) hp (ep z.cells (1*L.sz)) (fun y φ hy he=>hf y φ (by simpa [Op.operands] using hy) he) (fa _ _) (by simp)
 have hr':=io (P:=P) (T:=T) (e:=e) (L:=L) (z:=z) (by':=by') (n:=1) (c':=c') (w:=w) (parts := #[(0,x)].map fun (i,x)=>(i,a.eval x)) Y z1 (by rw [Array.toList_map]; exact k1)
 unfold Oper.wp
 have hr:(execOp a.eval ⟨d, .buildSlice T 1 #[(0,x)],ty,pos,af,none⟩).run P w = .ok (.value (slV (some w.heap.size) 1 1)) (w.alloc (.cells c' e)):=by
  simp only [execOp,Sem.run_bind,hr',Result.andThen_ok,Sem.run_pure]; rfl
 rw [hr]
 refine hne (g w.heap.size) _ _ (Ext.alloc w _) ?_ ?_ ?_ ?_
 ·rw [h2]; intro q hq
  cases List.mem_singleton.1 hq
  refine ⟨Nat.le_refl 1,by decide,(fun h=>by cases h),fun b hb => ?_⟩
  cases hb
  refine ⟨c',cg w _ _ _,k2,fun q hq => ?_⟩
  obtain ⟨v,hv1,hv2⟩:=k4 q φ (by rw [show q=0 by omega]; rfl)
  refine ⟨v,by simpa using hv1, φ.mono ?_ hv2⟩
  have hl:a5 [aU (some w.heap.size) e L 1 1 (fun _=>φ)] = [w.heap.size]:=rfl
  rw [hl]; exact rR
 ·rw [h2]; simp [a5,aU]
 ·rw [h2]; intro b hb'
  simp [a5,aU] at hb'
  subst hb'
  exact ⟨Nat.le_refl _,eX (cg w _ _ _)⟩
 ·rw [h1]; rfl
theorem BC {w0:World} {O:List Nat} {N:Nat} {fn:Func} {r r':ResultVar} {ψ ψ':σ→VT} (s:σ) (hr:fn.results = #[r,r']) (h:ResOk P Γ M r (ψ s)) (h':ResOk P Γ M r' (ψ' s)) (hm:SubM M (Ms s)) :
  PJ ⟨w0,O, [],N,none⟩ [] Γ M .ret (bodyPost P fn (xB O (fun s=>bM [ψ s, ψ' s]) Ms w0)):=by
 intro a w hS
 obtain ⟨v,h1,h2⟩:=h.run hS
 obtain ⟨v',h1',h2'⟩:=h'.run hS
 have hB:=hS.base.sub hm
 refine ⟨hS.df, .tuple #[v,v'],?_,s,_,rfl,(bM [ψ s, ψ' s]).mono (lA fun b hb=>hm.sub.subset hb) ⟨[v,v'],rfl,h2,h2',Ed⟩,hS.ret,hB.mem,hB.nd,fun b hb=>⟨?_,hB.ex b (List.mem_append.2 (.inr hb)),hB.dis b hb⟩⟩
 ·have hm:(fn.results.mapM (ox a.tmps)).run P w = .ok #[v,v'] w:=by rw [hr]; simp [h1,h1',Result.andThen_ok]
  rw [fG,Sem.run_bind,hm]; rfl
 ·rcases hB.lo b hb with h | h
  ·exact h
  ·cases h
theorem iH {T T':TypeId} {L:Lay} [LayOf P T L] {x:Operand} {b j n cap lim:Nat} {A:Nat→VT} {DN:VT} {gd:Option (Nat × Bool)} (k:Nat) (hx:aQ Γ x=some (eP b j L.sz)) (hM:M[k]? = some (aU (some b) T' L cap n (fun q=>if q<lim then A q else DN))) (hj:j<n) (hl:j<lim) :
  aP P E Γ M ⟨d, .load T x,ty,pos,af,gd⟩ (A j) :=
 (bk k hx hM hj).le (by show VT.le (if j<lim then A j else DN) (A j);rw [if_pos hl]; exact VT.le_refl _)
def uR (Ms:Mem):List VT→List VT→Prop
 | [], [] => True
 | φ :: l, φ' :: l' => Ent Ms φ φ' ∧ uR Ms l l'
 | _, _ => False
theorem tH {Ms:Mem} {g:RH} {h h':Hp} (ho:Opn Ms g h h') : ∀ {l l':List VT} {vs:List Value},uR Ms l l'→gS l vs h→gS l' vs h'
 | [], [], [], _, _ => trivial
 | _ :: _, _ :: _, _ :: _, ⟨h1, h2⟩, ⟨k1, k2⟩ => ⟨h1 g h h' _ ho k1, tH ho h2 k2⟩
theorem Ok.lend {f:FuncId} {φs φs':List VT} {χ:VT} {Mi:Mem} (h:Ok P f φs' χ) (he:uR Mi φs φs') (hc : ∀ v h h', χ.p v h→χ.p v h'):OkI P f φs Mi (fun _:Unit=>χ) (fun _=>Mi):=by
 intro w O vs hO hI hnd hmem hp
 have hB:Base ⟨w,O,a5 Mi,0,none⟩ Mi w:=⟨hmem,hnd,fun b hb=>(hI b hb).2,fun b hb => .inr hb,fun b hb=>(List.mem_append.1 hb).elim (hO b) (fun h=>(hI b h).1),Fr.refl _ _⟩
 have hp':gS φs' vs (hid O (ct w)):=tH (g:=raw w) ⟨lT fun b hb=>List.mem_append.2 (.inl hb),fun b hb'=>by
  simp only [hid,if_neg (hI b hb').2]; rfl,hmem⟩ he hp
 refine Calls.mono (h w O vs hO hp') ?_
 rintro e w' ⟨v,rfl,hv',hext⟩
 have hB':=hB.ext hext
 exact ⟨(),v,rfl,hc _ _ _ hv',(Fr.refl _ _).ext hext,hB'.mem,hnd,fun b hb=>⟨.inr hb,Nat.lt_of_lt_of_le (hI b hb).1 hext.size,(hI b hb).2⟩⟩
theorem wg {v:Value} : ∀ x h h',(one v).p x h→(one v).p x h':=fun _ _ _ h=>h
end
end Tor
end
section
namespace Tor
open Go Go.RowKit Go.Proofs
open Lin (dZ lZ uZ cO)
structure DesB (m n:Nat) (F:Nat→Nat→Int):Prop where
 f : ∀ i j,cX (F i j)
 u : ∀ i j t,t≤j→j≤i→i<n→cX (uZ m F i j t)
theorem DesB.d {m n k:Nat} {F:Nat→Nat→Int} (h:DesB m n F) (hk:k≤n):cX (dZ m F k):=by
 cases k with
 | zero => exact (by decide +kernel : (1 : Int).natAbs ≤ 2 ^ 400)
 | succ k => exact h.u k k k (Nat.le_refl _) (Nat.le_refl _) hk
abbrev Ct:Type:=Nat × Nat × Nat × (Nat→Nat)
abbrev dO (sv:Option Nat) (cd k:Nat) (D:Nat→Int):Own:=aU sv 43 (.agg 2) cd k (fun q=>aO (D q))
def lP (m:Nat) (F:Nat→Nat→Int) (i j:Nat):Nat→Nat→Int:=fun a b=>if a=i∧j≤b then 0 else lZ m F a b
theorem C8 {m n i j:Nat} {F:Nat→Nat→Int} {B:Nat→Nat} {DQ:Nat→Bool} : Own.le (rvO 43 (.agg 2) (fun q=>q) n B (fun q=>q) (dT (ff (lP m F i j)) i j (aO (uZ m F i j j))) DQ) (rvO 43 (.agg 2) (fun q=>q) n B (fun q=>q) (ff (lP m F i (j+1))) DQ):=du (fun _ _=>rfl) (fun _ _ _=>⟨rfl,rfl⟩) fun a b _ _ _=>by
 unfold dT
 by_cases h:a=i∧b=j
 ·rw [if_pos h,h.1,h.2]
  show VT.le _ (aO (lP m F i (j+1) i j))
  rw [show lP m F i (j+1) i j=lZ m F i j from if_neg Y]; exact VT.le_refl _
 ·rw [if_neg h]
  show VT.le (aO (lP m F i j a b)) (aO (lP m F i (j+1) a b))
  unfold lP
  by_cases h1:a=i∧j≤b
  ·rw [if_pos h1,if_pos Y]; exact VT.le_refl _
  ·rw [if_neg h1,if_neg Y]; exact VT.le_refl _
theorem C9 {m i:Nat} {F:Nat→Nat→Int} (j:Nat):VT.le (one (.agg #[.bool false, .slice none 0 0])) (ff (lP m F i 0) i j):=by
 show VT.le _ (aO (lP m F i 0 i j))
 rw [show lP m F i 0 i j=0 from if_pos ⟨rfl,Nat.zero_le _⟩]; exact jj
theorem BD {m i a b:Nat} {F:Nat→Nat→Int} (h:a<i):VT.le (ff (lZ m F) a b) (ff (lP m F i 0) a b):=by
 show VT.le _ (aO (lP m F i 0 a b))
 rw [show lP m F i 0 a b=lZ m F a b from if_neg Y]; exact VT.le_refl _
theorem Da {m n i:Nat} {F:Nat→Nat→Int} {B:Nat→Nat} {DQ:Nat→Bool} : Own.le (rvO 43 (.agg 2) (fun q=>q) n B (fun q=>q) (ff (lP m F i (i+1))) DQ) (rvO 43 (.agg 2) (fun q=>q) n B (fun q=>q) (ff (lZ m F)) DQ):=du (fun _ _=>rfl) (fun _ _ _=>⟨rfl,rfl⟩) fun a b _ _ hb=>by
 show VT.le (aO (lP m F i (i+1) a b)) (aO (lZ m F a b))
 rw [show lP m F i (i+1) a b=lZ m F a b from if_neg Y]; exact VT.le_refl _
theorem Db {m n t:Nat} {F:Nat→Nat→Int} {B:Nat→Nat} {DQ:Nat→Bool} : Own.le (rvO 43 (.agg 2) (fun q=>q) n B (fun q=>q) (ff (lP m F t t)) DQ) (rvO 43 (.agg 2) (fun q=>q) n B (fun q=>q) (ff (lP m F t (t+1))) DQ):=du (fun _ _=>rfl) (fun _ _ _=>⟨rfl,rfl⟩) fun a b _ _ hb=>by
 show VT.le (aO (lP m F t t a b)) (aO (lP m F t (t+1) a b))
 rw [show lP m F t t a b=lZ m F a b from if_neg Y,show lP m F t (t+1) a b=lZ m F a b from if_neg Y]; exact VT.le_refl _
theorem Dc {m t cap:Nat} {F:Nat→Nat→Int} {sv:Option Nat} {T:TypeId} : Own.le (aU sv T (.agg 2) cap (t+1+1) (fun q=>if q<t+1 then aO (dZ m F q) else aO (uZ m F t t t))) (aU sv T (.agg 2) cap (t+2) (fun q=>aO (dZ m F q))):=bQ fun q hq=>by
 by_cases h:q<t+1
 ·rw [if_pos h]
 ·rw [if_neg h,show q=t+1 by omega]; rfl
theorem yV (a b c d:Own) : [a,b,c,d].Perm [b,c,a,d]:=(List.Perm.swap b a _).trans ((List.Perm.swap c a _).cons b)
theorem yW {m n:Nat} {F:Nat→Nat→Int} {B:Nat→Nat} : Own.le (rvO 43 (.agg 2) (fun q=>q) n B (fun q=>q) (ff (lZ m F)) (fun q=>decide (n≤q))) (cT (fun q=>q) n B (fun q=>q) (lZ m F)):=du (fun q hq=>decide_eq_false Y) (fun q _ _=>⟨rfl,rfl⟩) (fun q j _ _ _=>VT.le_refl _)
theorem jr (f:Nat→Int) : ∀ n,Lin.smZ n f=cS n f
 | 0 => rfl
 | n + 1 => by show Lin.smZ n f + f n = cS n f + f n; rw [jr f n]
theorem wh (m:Nat) (f g:Nat→Int) (hm:m≤1048576) (hf : ∀ i,cX (f i)) (hg : ∀ i,cX (g i)):Ok Tryz.prog 79 [cu m f,cu m g] (bM [aO (cO m f g),one (.int .i64 0)]):=by
 have h:=Ai m m f g hm hm (fun i=>(hf i).L) (fun i=>(hg i).L)
 rw [if_pos Z,if_pos Z, ← jr] at h;exact h
def d8V (n:Nat):Nat→Nat→VT
 | 1, b => one (slV (some b) 1 1)
 | 4, b => one (slV (some b) n n)
 | _, b => one (.pointer (some ⟨b, 0, none⟩))
def d8M (n:Nat):Nat→Nat→Mem
 | 1, b => [aU (some b) 43 (.agg 2) 1 1 (fun _ => aO 1)]
 | 4, b => [aU (some b) 50 .one n n (fun _ => one (.slice none 0 0))]
 | _, b => [aW b 81 2 (dt #[Value.slice none 0 0, Value.slice none 0 0] [(0, .one), (1, .one)])]
attribute [local irreducible] J PJ aP one slT cv bA bM exT cq eP aW aU slV VT.le Ret bO xO
attribute [local irreducible] rvO aO cu
set_option maxRecDepth 100000 in
theorem nN (m n:Nat) (F:Nat→Nat→Int) (hn:n≤1048576) (hm:m≤1048576) (hb:DesB m n F) (hd:dZ m F n≠0):OkM (σ:=Ct) Tryz.prog 45 [slT .one n (fun i=>cu m (F i))]
  (fun s=>bM [bA 2 [(0, .one,one (slV (some s.1) (n+1) s.2.1)),(1, .one,one (slV (some s.2.2.1) n n))],one (.bool true)])
  (fun s => [dO (some s.1) s.2.1 (n+1) (dZ m F),gH s.2.2.1 n n (fun q=>q) s.2.2.2 (fun q=>q),cT (fun q=>q) n s.2.2.2 (fun q=>q) (lZ m F)]):=by
 refine OkM.enter Tryz.func45 Z Tryz.ntmps45 Z (fun w O => ?_)
 refine ae (aj ?_)
 refine aF (T:=81) Z Z Z (fun b2 => ?_)
 refine Ea Z (Ec (aa (ae ?_)))
 refine pA 2 7 [1,4,6] 0 (fun j s=>d8V n j s) (fun j s=>d8M n j s) aS X S Z S ?_
 refine kx Z (fun s B=>am (ql 1 S S) Z ⟨H,Ed⟩) Z ?_
 refine kc Z (fun s B=>kw (L := .agg 2) (φ:=aO 1) (fun b=>b) Z (fun b=>rfl) (fun b=>rfl) Z Z) Z ?_
 refine kx Z (fun s B=>ab Z) Z ?_
 refine kx Z (fun s B=>aZ Z) Z ?_
 refine kc Z (fun s B=>g9 n (fun b=>b) Z Z (fun b=>rfl) (fun b=>rfl) Z Z Y) Z ?_
 refine kd [1,4] (ψ:=fun s=>bA 2 [(0, .one,one (slV (some (s 1)) 1 1)),(1, .one,one (slV (some (s 4)) n n))]) Z W (fun s s' h=>by rw [h 1 S,h 4 S]) (fun s B=>l5 (.cons (φ:=one (slV (some (s 1)) 1 1)) Z Z Z (.cons (φ:=one (slV (some (s 4)) n n)) Z Z Z .nil)) Z Z) Z ?_
 refine kc Z (fun s B=>qK (fun b=>b) (fun b=>rfl) (fun b=>rfl) Z) Z ?_
 refine .nil fun s => ?_
 refine mi (Γ' := [(4,one (.pointer (some ⟨s 6,0,none⟩))),(17,bA 2 [(0, .one,one (slV (some (s 1)) 1 1)),(1, .one,one (slV (some (s 4)) n n))]),(2,one (.pointer (some ⟨b2,0,none⟩))),(0,slT .one n fun i=>cu m (F i))]) (M' := [_,_,_,_]) DW (SubM.refl _) ?_
 generalize s 1=bd
 generalize s 4=bl
 generalize s 6=bo
 refine aH 2 Z Z Z Z (Ec (aa (ae (ae (aj (DZ Z (DY (aZ Z) (DZ Z (Ec ?_)))))))))
 refine aa (ar ?_)
 refine et (kr (T:=43) (L := .agg 2) (c:=fun q=>q) (n:=n) (B:=fun _=>0) (C:=fun q=>q) (φ:=ff (lZ m F)) (DQ:=fun q=>decide (0≤q)) (fun i _=>decide_eq_true (Nat.zero_le i))) ?_
 refine cm (Γ' := [(0,_),(2,_),(4,_),(19,_),(20,_)]) DT (SubM.refl _) ?_
 refine bw (σ:=Nat × Option Nat × Nat × (Nat→Nat)) (Γk := [(0,_),(2,_),(4,_),(19,_)]) DT (fun s => [(20,one (.int .i64 (s.1:Nat)))]) (fun s M0=>((((M0.set 0 (rvO 43 (.agg 2) (fun q=>q) n s.2.2.2 (fun q=>q) (ff (lZ m F)) (fun q=>decide (s.1≤q)))).set 1 (dO s.2.1 s.2.2.1 (s.1+1) (dZ m F))).set 2 (aU (some bl) 50 .one n n (fun q=>if q<s.1 then one (slV (some (s.2.2.2 q)) q q) else one (.slice none 0 0)))).set 3 (aW bo 81 2 [(0, .one,one (slV s.2.1 (s.1+1) s.2.2.1)),(1, .one,one (slV (some bl) n n))]))) (fun s=>s.1≤n) (fun s=>n - s.1) ((0,some bd,1,fun _=>0)) (Nat.zero_le _) DU (.keep DX (.keep (bQ (fun q hq=>by rw [show q=0 by omega]; rfl)) (.keep DX (.keep DX (.keep DX (.nil)))))) (fun s hs => ?_)
 refine bN (Γ' := [(20,_),(0,_),(2,_),(4,_),(19,_)]) (M' := [_,_,_,_,_]) Z Z ?_
 obtain ⟨i,sv,cap,B⟩:=s
 dsimp only at hs ⊢
 by_cases hi:i<n
 ·refine ae (aj (DY (sT Y (a7 Z Z)) (Ec (aa (ae (aG Z (av (aa (ae ?_)))))))))
  refine ar (ae (aj (DZ Z (Ea Z (Ec (aa (ae ?_)))))))
  refine pA 2 5 [4] 0 (fun j s=>one (slV (some s) i i)) (fun j s => [aU (some s) 43 (.agg 2) i i (fun _=>one (.agg #[.bool false, .slice none 0 0]))]) aS X S Z S ?_
  refine kx Z (fun s B=>ah Z) Z ?_
  refine kx Z (fun s B=>ak 3 Z Z Z) Z ?_
  refine kx Z (fun s B=>ab Z) Z ?_
  refine kx Z (fun s B=>ab Z) Z ?_
  refine kc Z (fun s B=>g9 i (fun b=>b) Z Z (fun b=>rfl) (fun b=>rfl) Z Z Y) Z ?_
  refine .nil fun s => ?_
  refine mi (Γ' := [(27,one (slV (some (s 4)) i i)),(25,one (.int .i64 (i:Nat))),(24,one (slV (some bl) n n)),(5,one (.int .i64 (i:Nat))),(20,one (.int .i64 (i:Nat))),(0,slT .one n fun i=>cu m (F i)),(2,_),(4,_),(19,_)]) (M' := [_,_,_,_,_,_]) DW (SubM.refl _) ?_
  generalize s 4=b
  refine DY (an Z Z Y) ?_
  (refine aA 3 Z Z Z ?_ Z ?_;omega)
  refine Ec (aa (ae (aj (Ea Z (Ec (aa (ar ?_)))))))
  refine et (jP (c:=fun q=>q) (i:=i) hi (decide_eq_true (Nat.le_refl i))) ?_
  refine et (ConvM.le (mD (C:=fun q=>q) (χ:=ff (lP m F i 0)) (fun j _=>C9 j) (fun q j hq _=>BD hq))) ?_
  refine et (ConvM.cons (ConvM.cons (ConvM.le (b:=aU (some bl) 50 .one n n (fun q=>if q<i+1 then one (slV (some ((fun q=>if q=i then b else B q) q)) q q) else one (.slice none 0 0))) (oa (c:=fun q=>q) (C:=fun q=>q))))) ?_
  generalize (fun q=>if q=i then b else B q)=B' at *
  refine cm (Γ' := [(0,_),(2,_),(4,_),(5,_),(6,_),(19,_),(20,_)]) DT (SubM.refl _) ?_
  refine bw (σ:=Nat × Nat × Option Nat × Nat) (Γk := [(0,_),(2,_),(4,_),(5,_),(19,_),(20,_)]) DT (fun s => [(6,one (.int .i64 (s.1:Nat)))]) (fun s M0=>(((M0.set 0 (rvO 43 (.agg 2) (fun q=>q) n B' (fun q=>q) (ff (lP m F i s.1)) (fun q=>decide (i+1≤q)))).set 1 (dO s.2.2.1 s.2.2.2 s.2.1 (dZ m F))).set 3 (aW bo 81 2 [(0, .one,one (slV s.2.2.1 s.2.1 s.2.2.2)),(1, .one,one (slV (some bl) n n))]))) (fun s=>s.1≤i+1∧s.2.1=(if s.1≤i then i+1 else i+2)) (fun s=>i+1 - s.1) ((0,i+1,sv,cap)) (⟨Nat.zero_le _,rfl⟩) DU (.keep DX (.keep DX (.keep DX (.keep DX (.keep DX (.nil)))))) (fun s hs => ?_)
  refine bN (Γ' := [(6,_),(0,_),(2,_),(4,_),(5,_),(19,_),(20,_)]) (M' := [_,_,_,_,_]) Z Z ?_
  obtain ⟨j,ln,sv,cap⟩:=s
  dsimp only at hs ⊢
  obtain ⟨hj,hln⟩:=hs
  by_cases hji:j≤i
  ·rw [if_pos hji] at hln
   subst hln
   have hdt:=wh m (F i) (F j) hm (hb.f i) (hb.f j)
   rw [← Lin.rO (F:=F) i j] at hdt
   refine ae (ae (aj (DZ Z (DZ Z (DY (sT Y (j8 Z Z)) (Ec (aa (aG Z (av ?_)))))))))
   refine aa (ae (ar (ae ?_)))
   refine dU aS X X ?_
   refine ux (fun B=>ab Z) Z Z ?_
   refine ux (fun B=>ab Z) Z Z ?_
   refine ux (fun B=>ax Z Z Y) Z Z ?_
   refine ux (fun B=>aJ Z) Z Z ?_
   refine ux (fun B=>ab Z) Z Z ?_
   refine ux (fun B=>ab Z) Z Z ?_
   refine ux (fun B=>ax Z Z Y) Z Z ?_
   refine ux (fun B=>aJ Z) Z Z ?_
   refine uxk (hdt) Z ⟨H,H,Ed⟩ Z ?_
   refine ux (fun B=>ab Z) Z Z ?_
   refine ux (fun B=>aq Z Z) Z Z ?_
   refine ux (fun B=>aq Z Z) Z Z ?_
   refine ua Z (us Z ?_)
   refine ux (fun B=>ai Z) Z Z ?_
   refine RunU.nil (fun γ => ?_)
   refine cF (M' := [_,_,_,_,_,_]) Z (aa (ae (ae (aj (DZ Z (DZ Z (Ec (aa (ar ?_)))))))))
   refine kG (i:=2) (F:=sv=none→i+1=0) Z (fun g h hp he=>fN hp he) (fun hsv => ?_)
   obtain ⟨bd,rfl⟩:=eG hsv Y
   refine cm (Γ' := [(0,_),(2,_),(4,_),(5,_),(6,_),(7,_),(19,_),(20,_),(46,_),(47,_)]) DT (SubM.refl _) ?_
   refine bw (σ:=Nat) (Γk := [(0,_),(2,_),(4,_),(5,_),(6,_),(7,_),(19,_),(20,_),(46,_)]) DT (fun t => [(47,one (.int .i64 (t:Nat)))]) (fun t M0=>(M0.set 0 (aW (γ 7) 43 2 [(0, .agg 2,aO (uZ m F i j t))]))) (fun t=>t≤j) (fun t=>j - t) (0) (Nat.zero_le _) DU (.keep DX (.keep DX (.keep DX (.keep DX (.keep DX (.keep DX (.nil))))))) (fun t ht => ?_)
   refine bN (Γ' := [(47,_),(0,_),(2,_),(4,_),(5,_),(6,_),(7,_),(19,_),(20,_),(46,_)]) (M' := [_,_,_,_,_,_]) Z Z ?_
   by_cases htj:t<j
   ·have hlp : ∀ a,lP m F i j a t=lZ m F a t:=fun a=>if_neg Y
    have h0:dZ m F t≠0:=Lin.cx hd Y
    have m1:cX (dZ m F (t+1)):=hb.d Y
    have m0:cX (dZ m F t):=hb.d Y
    have m2:cX (uZ m F i j t):=hb.u i j t Y hji hi
    have m3:cX (lP m F i j i t):=by rw [hlp]; exact hb.u i t t (Nat.le_refl _) Y hi
    have m4:cX (lP m F i j j t):=by rw [hlp]; exact hb.u j t t (Nat.le_refl _) Y Y
    have s1:=bE m1
    have s2:=bE m2
    have s3:=bE m3
    have s4:=bE m4
    have p1:=fg (t:=400) (u:=400) (v:=800) m1 m2 S
    have p2:=fg (t:=400) (u:=400) (v:=800) m3 m4 S
    have s5:=eM (t:=800) p1 S
    have s6:=eM (t:=800) p2 S
    have hq:Ok Tryz.prog 81 [aO (dZ m F (t+1)*uZ m F i j t - lP m F i j i t*lP m F i j j t),aO (dZ m F t)] (aO (uZ m F i j (t+1))):=by
     have h:=gI (dZ m F (t+1)*uZ m F i j t - lP m F i j i t*lP m F i j j t) (dZ m F t) h0 (eM (t:=801) (uN (t:=800) (v:=801) p1 p2 S) S) (bE m0)
     have e:(dZ m F (t+1)*uZ m F i j t - lP m F i j i t*lP m F i j j t) / dZ m F t=uZ m F i j (t+1):=by rw [hlp,hlp]; exact Lin.yM h0
     rw [e] at h;exact h
    refine ae (aj (DY (sT Y (a7 Z Z)) (Ec (aa (ae (aG Z (av (aa (ae ?_)))))))))
    refine ar (ae (aj (DZ Z (Ea Z (Ec (aa (ae ?_)))))))
    refine dU aS X X ?_
    refine ux (fun B=>ah Z) Z Z ?_
    refine ux (fun B=>ak 4 Z Z Z) Z Z ?_
    refine ux (fun B=>ab Z) Z Z ?_
    refine ux (fun B=>bn _ 1 Z Z Y) Z Z ?_
    refine ux (fun B=>an Z Z Y) Z Z ?_
    refine ux (fun B=>bk 2 Z Z Y) Z Z ?_
    refine ux (fun B=>ak 0 Z Z Z) Z Z ?_
    refine uxk (dM _ _ (by assumption) (by assumption)) Z ⟨H,H,Ed⟩ Z ?_
    refine ua Z (us Z ?_)
    refine RunU.nil (fun γ => ?_)
    refine cF (M' := [_,_,_,_,_,_,_]) Z (aa (ae ?_))
    refine dU aS X X ?_
    refine ux (fun B=>ah Z) Z Z ?_
    refine ux (fun B=>ak 5 Z Z Z) Z Z ?_
    refine ux (fun B=>ab Z) Z Z ?_
    refine ux (fun B=>an Z Z Y) Z Z ?_
    refine ux (fun B=>iH 4 Z Z Y Y) Z Z ?_
    refine ux (fun B=>ab Z) Z Z ?_
    refine ux (fun B=>an Z Z Y) Z Z ?_
    refine ux (fun B=>d9 2 Z Z Y (decide_eq_false Y) Y) Z Z ?_
    refine ux (fun B=>ah Z) Z Z ?_
    refine ux (fun B=>ak 5 Z Z Z) Z Z ?_
    refine ux (fun B=>ab Z) Z Z ?_
    refine ux (fun B=>an Z Z Y) Z Z ?_
    refine ux (fun B=>iH 4 Z Z Y Y) Z Z ?_
    refine ux (fun B=>ab Z) Z Z ?_
    refine ux (fun B=>an Z Z Y) Z Z ?_
    refine ux (fun B=>d9 2 Z Z Y (decide_eq_false Y) Y) Z Z ?_
    refine uxk (dM _ _ (by assumption) (by assumption)) Z ⟨H,H,Ed⟩ Z ?_
    refine ua Z (us Z ?_)
    refine RunU.nil (fun γ => ?_)
    refine cF (M' := [_,_,_,_,_,_,_,_]) Z (aa (aT 9 aS X S (DY (ak 1 Z Z Z) (DY (ak 0 Z Z Z) ?_))))
    refine DY (am (mq _ _ (by assumption) (by assumption)) Z ⟨H,H,Ed⟩) ?_
    refine DY (ah Z) (DY (ak 6 Z Z Z) (DZ Z (DY (an Z Z Y) (DY (bk 4 Z Z Y) ?_))))
    refine DY (am (hq) Z ⟨H,H,Ed⟩) ?_
    refine Ec (aC 2 Z Z Z Z Z (leN Z) Z (Ec (aB (aa (aj (DY (bn _ 1 Z Z Y) (DZ Z (Ec ?_))))))))
    refine aN (t+1) Y Y DU (.drop (.drop (.keep DX (.keep DX (.keep DX (.keep DX (.keep DX (.keep DX (.nil)))))))))
   ·have he:t=j:=by omega
    subst he
    by_cases hti:t<i
    ·refine ae (aj (DY (sF Y (a7 Z Z)) (Ec (aa (ae (az Z (aY (aw (aw ?_)))))))))
     refine aE (aa (ae (ae (aj (DZ Z (DZ Z (DY (sT Y (a7 Z Z)) (Ec (aa ?_)))))))))
     refine aG Z (ae (aT 7 aS X S (DY (ah Z) (DY (ak 4 Z Z Z) (DZ Z (DY (an Z Z Y) (DY (iH 3 Z Z Y Y) (DZ Z (DY (ak 0 Z Z Z) ?_)))))))))
     refine Ec (DY (an Z Z Y) ?_)
     (refine dq 1 Z Z Z ?_ (decide_eq_false Y) ?_ Z ?_;omega;omega)
     refine Ec (aa (aY (aw (aE (aa (aj (DZ Z (DY (bn _ 1 Z Z Y) (Ea Z ?_)))))))))
     refine Ec ?_
     refine aN ((t+1,i+1,some bd,cap)) (⟨by omega,(if_pos Y).symm⟩) Y DU (.drop (.keep (C8) (.keep DX (.keep DX (.keep DX (.keep DX (.nil)))))))
    ·have he:t=i:=by omega
     subst he
     have hnz:uZ m F t t t≠0:=Lin.cx hd (k:=t+1) Y
     have hsz : ¬ dQ (uZ m F t t t)=0:=fun h=>hnz ((fM _).1 h)
     refine ae (aj (DY (sF Y (a7 Z Z)) (Ec (aa (ae (az Z (aY (aw (aw ?_)))))))))
     refine aE (aa (ae (ae (aj (DZ Z (DZ Z (DY (sF Y (a7 Z Z)) (Ec (aa ?_)))))))))
     refine az Z (av (aa (ae (ae (aj (DY (ak 0 Z Z Z) ?_))))))
     refine DY (am (iA _) Z ⟨H,Ed⟩) ?_
     refine DY (sF (by assumption) (cn Z Z)) (Ec (aa (az Z (av (aa (aj (DY (ah Z) (DY (ak 4 Z Z Z) (DY (ak 0 Z Z Z) ?_)))))))))
     refine jf Z Z Z Z ?_
     (refine de 2 Z Z Z (leN Z) ?_ ?_ Z (ltN Z) (fun sv104 cap104 => ?_);omega;omega)
     refine DY (ah Z) (aC 4 Z Z Z Z Z (leN Z) Z (Ec (aB (aa (aj (DZ Z (DY (bn _ 1 Z Z Y) (Ea Z (Ec ?_)))))))))
     refine aN ((t+1,t+2,sv104,cap104)) (⟨Nat.le_refl _,(if_neg Y).symm⟩) Y DU (.drop (.keep (Db) (.keep (Dc) (.keep DX (.keep DX (.keep DX (.nil)))))))
  ·have he:j=i+1:=by omega
   rw [if_neg hji] at hln
   subst he hln
   refine ae (ae (aj (DZ Z (DZ Z (DY (sF Y (j8 Z Z)) (Ec (aa (az Z (aY ?_)))))))))
   refine aw (aw (aE (aB (aa (aj (DY (bn _ 1 Z Z Y) (DZ Z (Ec ?_))))))))
   refine aN ((i+1,sv,cap,B')) Y Y DU (.keep (Da) (.keep DX (.keep DX (.keep DX (.keep DX (.nil))))))
 ·have he:i=n:=by omega
  subst he
  refine ae (aj (DY (sF Y (a7 Z Z)) (Ec (aa (ae (az Z (aY (aw (aw ?_)))))))))
  refine aE (aa (ae (aj (DY (ay 3 Z Z) (aH 4 Z Z Z Z (Ea Z (Ec (aa (aD ?_)))))))))
  refine tt (i:=1) (F:=sv=none→i+1=0) Z (fun g h hp he=>fN hp he) (fun hsv => ?_)
  obtain ⟨bd,rfl⟩:=eG hsv Y
  refine t4 (Γ' := [(3,one (.bool true)),(2,one (.pointer (some ⟨b2,0,none⟩)))]) (M' := [_,_,_,_]) DW (.keep DX (.keep DX (.keep DX (.drop (.keep DX .nil))))) ?_
  refine vi (M' := [_,_,_,_]) (yV _ _ _ _) ?_
  exact BC (ψ:=fun s:Ct=>bA 2 [(0, .one,one (slV (some s.1) (i+1) s.2.1)),(1, .one,one (slV (some s.2.2.1) i i))]) (ψ':=fun _=>one (.bool true)) ((bd,cap,bl,B):Ct) Tryz.results45 (.cellW 3 Z Z H) (.tmp Z H) (.keep DX (.keep (bQ fun q hq=>if_pos hq) (.keep yW (.drop .nil))))
end Tor
end
section
namespace Tor
open Go Go.RowKit Go.Proofs
open Lin (dZ lZ uZ cO)
theorem Ent.tup2 {Ms:Mem} {φ φ' ψ ψ':VT} (h:Ent Ms φ ψ) (h':Ent Ms φ' ψ'):Ent Ms (bM [φ, φ']) (bM [ψ, ψ']):=by
 rintro g k k' v ho ⟨vs,e,hv⟩
 match vs,hv with
 | [x, y], ⟨h1, h2, _⟩ => exact ⟨[x, y], e, h g k k' x ho h1, h' g k k' y ho h2, trivial⟩
theorem yX {m n:Nat} {F:Nat→Nat→Int} {bd cd bl:Nat} {B:Nat→Nat} : Ent [dO (some bd) cd (n+1) (dZ m F),gH bl n n (fun q=>q) B (fun q=>q),cT (fun q=>q) n B (fun q=>q) (lZ m F)] (bA 2 [(0, .one,one (slV (some bd) (n+1) cd)),(1, .one,one (slV (some bl) n n))]) (uM n (dZ m F) (lZ m F)):=by
 refine Ent.agg (.cons List.mem_cons_self ?_ (.cons (List.mem_cons_of_mem _ List.mem_cons_self) ?_ .nil))
 ·unfold cu;exact Ent.sl List.mem_cons_self
 ·refine Ent.slE (List.mem_cons_of_mem _ List.mem_cons_self) fun q hq => ?_
  unfold cu
  exact Ent.rvo (List.mem_cons_of_mem _ (List.mem_cons_of_mem _ List.mem_cons_self)) hq Z
theorem lm (m n:Nat) (F:Nat→Nat→Int) (hn:n≤1048576) (hm:m≤1048576) (hb:DesB m n F) (hd:dZ m F n≠0):Ok Tryz.prog 45 [slT .one n (fun i=>cu m (F i))] (bM [uM n (dZ m F) (lZ m F),one (.bool true)]) :=
 (nN m n F hn hm hb hd).ok fun s=>Ent.tup2 yX (Ent.refl _)
attribute [local irreducible] J PJ aP one slT cv bA bM exT cq eP aW aU slV VT.le Ret bO xO
attribute [local irreducible] rvO aO cu
set_option maxRecDepth 100000 in
theorem ky (m n k:Nat) (F:Nat→Nat→Int) (hn:n≤1048576) (hm:m≤1048576) (hb:DesB m n F) (hk:k<n) (hd:dZ m F k≠0) (hz:dZ m F (k+1)=0):Ok Tryz.prog 45 [slT .one n (fun i=>cu m (F i))]
  (bM [bA 2 [(0, .one,one (.slice none 0 0)),(1, .one,one (.slice none 0 0))],one (.bool false)]):=by
 refine Ok.enter Tryz.func45 Z Tryz.ntmps45 Z (fun w O => ?_)
 refine ae (aj ?_)
 refine aF (T:=81) Z Z Z (fun b2 => ?_)
 refine Ea Z (Ec (aa (ae ?_)))
 refine pA 2 7 [1,4,6] 0 (fun j s=>d8V n j s) (fun j s=>d8M n j s) aS X S Z S ?_
 refine kx Z (fun s B=>am (ql 1 S S) Z ⟨H,Ed⟩) Z ?_
 refine kc Z (fun s B=>kw (L := .agg 2) (φ:=aO 1) (fun b=>b) Z (fun b=>rfl) (fun b=>rfl) Z Z) Z ?_
 refine kx Z (fun s B=>ab Z) Z ?_
 refine kx Z (fun s B=>aZ Z) Z ?_
 refine kc Z (fun s B=>g9 n (fun b=>b) Z Z (fun b=>rfl) (fun b=>rfl) Z Z Y) Z ?_
 refine kd [1,4] (ψ:=fun s=>bA 2 [(0, .one,one (slV (some (s 1)) 1 1)),(1, .one,one (slV (some (s 4)) n n))]) Z W (fun s s' h=>by rw [h 1 S,h 4 S]) (fun s B=>l5 (.cons (φ:=one (slV (some (s 1)) 1 1)) Z Z Z (.cons (φ:=one (slV (some (s 4)) n n)) Z Z Z .nil)) Z Z) Z ?_
 refine kc Z (fun s B=>qK (fun b=>b) (fun b=>rfl) (fun b=>rfl) Z) Z ?_
 refine .nil fun s => ?_
 refine mi (Γ' := [(4,one (.pointer (some ⟨s 6,0,none⟩))),(17,bA 2 [(0, .one,one (slV (some (s 1)) 1 1)),(1, .one,one (slV (some (s 4)) n n))]),(2,one (.pointer (some ⟨b2,0,none⟩))),(0,slT .one n fun i=>cu m (F i))]) (M' := [_,_,_,_]) DW (SubM.refl _) ?_
 generalize s 1=bd
 generalize s 4=bl
 generalize s 6=bo
 refine aH 2 Z Z Z Z (Ec (aa (ae (ae (aj (DZ Z (DY (aZ Z) (DZ Z (Ec ?_)))))))))
 refine aa (ar ?_)
 refine et (kr (T:=43) (L := .agg 2) (c:=fun q=>q) (n:=n) (B:=fun _=>0) (C:=fun q=>q) (φ:=ff (lZ m F)) (DQ:=fun q=>decide (0≤q)) (fun i _=>decide_eq_true (Nat.zero_le i))) ?_
 refine cm (Γ' := [(0,_),(2,_),(4,_),(19,_),(20,_)]) DT (SubM.refl _) ?_
 refine bw (σ:=Nat × Option Nat × Nat × (Nat→Nat)) (Γk := [(0,_),(2,_),(4,_),(19,_)]) DT (fun s => [(20,one (.int .i64 (s.1:Nat)))]) (fun s M0=>((((M0.set 0 (rvO 43 (.agg 2) (fun q=>q) n s.2.2.2 (fun q=>q) (ff (lZ m F)) (fun q=>decide (s.1≤q)))).set 1 (dO s.2.1 s.2.2.1 (s.1+1) (dZ m F))).set 2 (aU (some bl) 50 .one n n (fun q=>if q<s.1 then one (slV (some (s.2.2.2 q)) q q) else one (.slice none 0 0)))).set 3 (aW bo 81 2 [(0, .one,one (slV s.2.1 (s.1+1) s.2.2.1)),(1, .one,one (slV (some bl) n n))]))) (fun s=>s.1≤k) (fun s=>n - s.1) ((0,some bd,1,fun _=>0)) (Nat.zero_le _) DU (.keep DX (.keep (bQ (fun q hq=>by rw [show q=0 by omega]; rfl)) (.keep DX (.keep DX (.keep DX (.nil)))))) (fun s hs => ?_)
 refine bN (Γ' := [(20,_),(0,_),(2,_),(4,_),(19,_)]) (M' := [_,_,_,_,_]) Z Z ?_
 obtain ⟨i,sv,cap,B⟩:=s
 dsimp only at hs ⊢
 have hi:i<n:=by omega
 ·refine ae (aj (DY (sT Y (a7 Z Z)) (Ec (aa (ae (aG Z (av (aa (ae ?_)))))))))
  refine ar (ae (aj (DZ Z (Ea Z (Ec (aa (ae ?_)))))))
  refine pA 2 5 [4] 0 (fun j s=>one (slV (some s) i i)) (fun j s => [aU (some s) 43 (.agg 2) i i (fun _=>one (.agg #[.bool false, .slice none 0 0]))]) aS X S Z S ?_
  refine kx Z (fun s B=>ah Z) Z ?_
  refine kx Z (fun s B=>ak 3 Z Z Z) Z ?_
  refine kx Z (fun s B=>ab Z) Z ?_
  refine kx Z (fun s B=>ab Z) Z ?_
  refine kc Z (fun s B=>g9 i (fun b=>b) Z Z (fun b=>rfl) (fun b=>rfl) Z Z Y) Z ?_
  refine .nil fun s => ?_
  refine mi (Γ' := [(27,one (slV (some (s 4)) i i)),(25,one (.int .i64 (i:Nat))),(24,one (slV (some bl) n n)),(5,one (.int .i64 (i:Nat))),(20,one (.int .i64 (i:Nat))),(0,slT .one n fun i=>cu m (F i)),(2,_),(4,_),(19,_)]) (M' := [_,_,_,_,_,_]) DW (SubM.refl _) ?_
  generalize s 4=b
  refine DY (an Z Z Y) ?_
  (refine aA 3 Z Z Z ?_ Z ?_;omega)
  refine Ec (aa (ae (aj (Ea Z (Ec (aa (ar ?_)))))))
  refine et (jP (c:=fun q=>q) (i:=i) hi (decide_eq_true (Nat.le_refl i))) ?_
  refine et (ConvM.le (mD (C:=fun q=>q) (χ:=ff (lP m F i 0)) (fun j _=>C9 j) (fun q j hq _=>BD hq))) ?_
  refine et (ConvM.cons (ConvM.cons (ConvM.le (b:=aU (some bl) 50 .one n n (fun q=>if q<i+1 then one (slV (some ((fun q=>if q=i then b else B q) q)) q q) else one (.slice none 0 0))) (oa (c:=fun q=>q) (C:=fun q=>q))))) ?_
  generalize (fun q=>if q=i then b else B q)=B' at *
  refine cm (Γ' := [(0,_),(2,_),(4,_),(5,_),(6,_),(19,_),(20,_)]) DT (SubM.refl _) ?_
  refine bw (σ:=Nat × Nat × Option Nat × Nat) (Γk := [(0,_),(2,_),(4,_),(5,_),(19,_),(20,_)]) DT (fun s => [(6,one (.int .i64 (s.1:Nat)))]) (fun s M0=>(((M0.set 0 (rvO 43 (.agg 2) (fun q=>q) n B' (fun q=>q) (ff (lP m F i s.1)) (fun q=>decide (i+1≤q)))).set 1 (dO s.2.2.1 s.2.2.2 s.2.1 (dZ m F))).set 3 (aW bo 81 2 [(0, .one,one (slV s.2.2.1 s.2.1 s.2.2.2)),(1, .one,one (slV (some bl) n n))]))) (fun s=>(s.1≤i+1∧(s.1=i+1→i<k))∧s.2.1=(if s.1≤i then i+1 else i+2)) (fun s=>i+1 - s.1) ((0,i+1,sv,cap)) (⟨⟨Nat.zero_le _,fun h=>by omega⟩,rfl⟩) DU (.keep DX (.keep DX (.keep DX (.keep DX (.keep DX (.nil)))))) (fun s hs => ?_)
  refine bN (Γ' := [(6,_),(0,_),(2,_),(4,_),(5,_),(19,_),(20,_)]) (M' := [_,_,_,_,_]) Z Z ?_
  obtain ⟨j,ln,sv,cap⟩:=s
  dsimp only at hs ⊢
  obtain ⟨⟨hj,hjk⟩,hln⟩:=hs
  by_cases hji:j≤i
  ·rw [if_pos hji] at hln
   subst hln
   have hdt:=wh m (F i) (F j) hm (hb.f i) (hb.f j)
   rw [← Lin.rO (F:=F) i j] at hdt
   refine ae (ae (aj (DZ Z (DZ Z (DY (sT Y (j8 Z Z)) (Ec (aa (aG Z (av ?_)))))))))
   refine aa (ae (ar (ae ?_)))
   refine dU aS X X ?_
   refine ux (fun B=>ab Z) Z Z ?_
   refine ux (fun B=>ab Z) Z Z ?_
   refine ux (fun B=>ax Z Z Y) Z Z ?_
   refine ux (fun B=>aJ Z) Z Z ?_
   refine ux (fun B=>ab Z) Z Z ?_
   refine ux (fun B=>ab Z) Z Z ?_
   refine ux (fun B=>ax Z Z Y) Z Z ?_
   refine ux (fun B=>aJ Z) Z Z ?_
   refine uxk (hdt) Z ⟨H,H,Ed⟩ Z ?_
   refine ux (fun B=>ab Z) Z Z ?_
   refine ux (fun B=>aq Z Z) Z Z ?_
   refine ux (fun B=>aq Z Z) Z Z ?_
   refine ua Z (us Z ?_)
   refine ux (fun B=>ai Z) Z Z ?_
   refine RunU.nil (fun γ => ?_)
   refine cF (M' := [_,_,_,_,_,_]) Z (aa (ae (ae (aj (DZ Z (DZ Z (Ec (aa (ar ?_)))))))))
   refine kG (i:=2) (F:=sv=none→i+1=0) Z (fun g h hp he=>fN hp he) (fun hsv => ?_)
   obtain ⟨bd,rfl⟩:=eG hsv Y
   refine cm (Γ' := [(0,_),(2,_),(4,_),(5,_),(6,_),(7,_),(19,_),(20,_),(46,_),(47,_)]) DT (SubM.refl _) ?_
   refine bw (σ:=Nat) (Γk := [(0,_),(2,_),(4,_),(5,_),(6,_),(7,_),(19,_),(20,_),(46,_)]) DT (fun t => [(47,one (.int .i64 (t:Nat)))]) (fun t M0=>(M0.set 0 (aW (γ 7) 43 2 [(0, .agg 2,aO (uZ m F i j t))]))) (fun t=>t≤j) (fun t=>j - t) (0) (Nat.zero_le _) DU (.keep DX (.keep DX (.keep DX (.keep DX (.keep DX (.keep DX (.nil))))))) (fun t ht => ?_)
   refine bN (Γ' := [(47,_),(0,_),(2,_),(4,_),(5,_),(6,_),(7,_),(19,_),(20,_),(46,_)]) (M' := [_,_,_,_,_,_]) Z Z ?_
   by_cases htj:t<j
   ·have hlp : ∀ a,lP m F i j a t=lZ m F a t:=fun a=>if_neg Y
    have h0:dZ m F t≠0:=Lin.cx hd Y
    have m1:cX (dZ m F (t+1)):=hb.d Y
    have m0:cX (dZ m F t):=hb.d Y
    have m2:cX (uZ m F i j t):=hb.u i j t Y hji hi
    have m3:cX (lP m F i j i t):=by rw [hlp]; exact hb.u i t t (Nat.le_refl _) Y hi
    have m4:cX (lP m F i j j t):=by rw [hlp]; exact hb.u j t t (Nat.le_refl _) Y Y
    have s1:=bE m1
    have s2:=bE m2
    have s3:=bE m3
    have s4:=bE m4
    have p1:=fg (t:=400) (u:=400) (v:=800) m1 m2 S
    have p2:=fg (t:=400) (u:=400) (v:=800) m3 m4 S
    have s5:=eM (t:=800) p1 S
    have s6:=eM (t:=800) p2 S
    have hq:Ok Tryz.prog 81 [aO (dZ m F (t+1)*uZ m F i j t - lP m F i j i t*lP m F i j j t),aO (dZ m F t)] (aO (uZ m F i j (t+1))):=by
     have h:=gI (dZ m F (t+1)*uZ m F i j t - lP m F i j i t*lP m F i j j t) (dZ m F t) h0 (eM (t:=801) (uN (t:=800) (v:=801) p1 p2 S) S) (bE m0)
     have e:(dZ m F (t+1)*uZ m F i j t - lP m F i j i t*lP m F i j j t) / dZ m F t=uZ m F i j (t+1):=by rw [hlp,hlp]; exact Lin.yM h0
     rw [e] at h;exact h
    refine ae (aj (DY (sT Y (a7 Z Z)) (Ec (aa (ae (aG Z (av (aa (ae ?_)))))))))
    refine ar (ae (aj (DZ Z (Ea Z (Ec (aa (ae ?_)))))))
    refine dU aS X X ?_
    refine ux (fun B=>ah Z) Z Z ?_
    refine ux (fun B=>ak 4 Z Z Z) Z Z ?_
    refine ux (fun B=>ab Z) Z Z ?_
    refine ux (fun B=>bn _ 1 Z Z Y) Z Z ?_
    refine ux (fun B=>an Z Z Y) Z Z ?_
    refine ux (fun B=>bk 2 Z Z Y) Z Z ?_
    refine ux (fun B=>ak 0 Z Z Z) Z Z ?_
    refine uxk (dM _ _ (by assumption) (by assumption)) Z ⟨H,H,Ed⟩ Z ?_
    refine ua Z (us Z ?_)
    refine RunU.nil (fun γ => ?_)
    refine cF (M' := [_,_,_,_,_,_,_]) Z (aa (ae ?_))
    refine dU aS X X ?_
    refine ux (fun B=>ah Z) Z Z ?_
    refine ux (fun B=>ak 5 Z Z Z) Z Z ?_
    refine ux (fun B=>ab Z) Z Z ?_
    refine ux (fun B=>an Z Z Y) Z Z ?_
    refine ux (fun B=>iH 4 Z Z Y Y) Z Z ?_
    refine ux (fun B=>ab Z) Z Z ?_
    refine ux (fun B=>an Z Z Y) Z Z ?_
    refine ux (fun B=>d9 2 Z Z Y (decide_eq_false Y) Y) Z Z ?_
    refine ux (fun B=>ah Z) Z Z ?_
    refine ux (fun B=>ak 5 Z Z Z) Z Z ?_
    refine ux (fun B=>ab Z) Z Z ?_
    refine ux (fun B=>an Z Z Y) Z Z ?_
    refine ux (fun B=>iH 4 Z Z Y Y) Z Z ?_
    refine ux (fun B=>ab Z) Z Z ?_
    refine ux (fun B=>an Z Z Y) Z Z ?_
    refine ux (fun B=>d9 2 Z Z Y (decide_eq_false Y) Y) Z Z ?_
    refine uxk (dM _ _ (by assumption) (by assumption)) Z ⟨H,H,Ed⟩ Z ?_
    refine ua Z (us Z ?_)
    refine RunU.nil (fun γ => ?_)
    refine cF (M' := [_,_,_,_,_,_,_,_]) Z (aa (aT 9 aS X S (DY (ak 1 Z Z Z) (DY (ak 0 Z Z Z) ?_))))
    refine DY (am (mq _ _ (by assumption) (by assumption)) Z ⟨H,H,Ed⟩) ?_
    refine DY (ah Z) (DY (ak 6 Z Z Z) (DZ Z (DY (an Z Z Y) (DY (bk 4 Z Z Y) ?_))))
    refine DY (am (hq) Z ⟨H,H,Ed⟩) ?_
    refine Ec (aC 2 Z Z Z Z Z (leN Z) Z (Ec (aB (aa (aj (DY (bn _ 1 Z Z Y) (DZ Z (Ec ?_))))))))
    refine aN (t+1) Y Y DU (.drop (.drop (.keep DX (.keep DX (.keep DX (.keep DX (.keep DX (.keep DX (.nil)))))))))
   ·have he:t=j:=by omega
    subst he
    by_cases hti:t<i
    ·refine ae (aj (DY (sF Y (a7 Z Z)) (Ec (aa (ae (az Z (aY (aw (aw ?_)))))))))
     refine aE (aa (ae (ae (aj (DZ Z (DZ Z (DY (sT Y (a7 Z Z)) (Ec (aa ?_)))))))))
     refine aG Z (ae (aT 7 aS X S (DY (ah Z) (DY (ak 4 Z Z Z) (DZ Z (DY (an Z Z Y) (DY (iH 3 Z Z Y Y) (DZ Z (DY (ak 0 Z Z Z) ?_)))))))))
     refine Ec (DY (an Z Z Y) ?_)
     (refine dq 1 Z Z Z ?_ (decide_eq_false Y) ?_ Z ?_;omega;omega)
     refine Ec (aa (aY (aw (aE (aa (aj (DZ Z (DY (bn _ 1 Z Z Y) (Ea Z ?_)))))))))
     refine Ec ?_
     refine aN ((t+1,i+1,some bd,cap)) (⟨⟨by omega,fun h=>by omega⟩,(if_pos Y).symm⟩) Y DU (.drop (.keep (C8) (.keep DX (.keep DX (.keep DX (.keep DX (.nil)))))))
    ·have he:t=i:=by omega
     subst he
     by_cases htk:t<k
     ·have hnz:uZ m F t t t≠0:=Lin.cx hd (k:=t+1) Y
      have hsz : ¬ dQ (uZ m F t t t)=0:=fun h=>hnz ((fM _).1 h)
      refine ae (aj (DY (sF Y (a7 Z Z)) (Ec (aa (ae (az Z (aY (aw (aw ?_)))))))))
      refine aE (aa (ae (ae (aj (DZ Z (DZ Z (DY (sF Y (a7 Z Z)) (Ec (aa ?_)))))))))
      refine az Z (av (aa (ae (ae (aj (DY (ak 0 Z Z Z) ?_))))))
      refine DY (am (iA _) Z ⟨H,Ed⟩) ?_
      refine DY (sF (by assumption) (cn Z Z)) (Ec (aa (az Z (av (aa (aj (DY (ah Z) (DY (ak 4 Z Z Z) (DY (ak 0 Z Z Z) ?_)))))))))
      refine jf Z Z Z Z ?_
      (refine de 2 Z Z Z (leN Z) ?_ ?_ Z (ltN Z) (fun sv104 cap104 => ?_);omega;omega)
      refine DY (ah Z) (aC 4 Z Z Z Z Z (leN Z) Z (Ec (aB (aa (aj (DZ Z (DY (bn _ 1 Z Z Y) (Ea Z (Ec ?_)))))))))
      refine aN ((t+1,t+2,sv104,cap104)) (⟨⟨Nat.le_refl _,fun _=>htk⟩,(if_neg Y).symm⟩) Y DU (.drop (.keep (Db) (.keep (Dc) (.keep DX (.keep DX (.keep DX (.nil)))))))
     ·have he:t=k:=by omega
      subst he
      have hsz:dQ (uZ m F t t t)=0:=(fM _).2 hz
      refine ae (aj (DY (sF Y (a7 Z Z)) (Ec (aa (ae (az Z (aY (aw (aw ?_)))))))))
      refine aE (aa (ae (ae (aj (DZ Z (DZ Z (DY (sF Y (a7 Z Z)) (Ec (aa ?_)))))))))
      refine az Z (av (aa (ae (ae (aj (DY (ak 0 Z Z Z) ?_))))))
      refine DY (am (iA _) Z ⟨H,Ed⟩) ?_
      refine DY (sT (by assumption) (cn Z Z)) (Ec (aa (aG Z (ae (aj (stB Z Z Z (BuildK.nil (aH 5 Z Z Z Z (Ea Z ?_)))))))))
      refine Ec (aa (aD (aI (a9 (aI (aI (a9 (a9 (aI ?_)))))))))
      refine aI (a9 (aI ?_))
      exact fw Tryz.results45 (.cellW 5 Z Z H) (.tmp Z H)
  ·have he:j=i+1:=by omega
   rw [if_neg hji] at hln
   have hik:=hjk he
   subst he hln
   refine ae (ae (aj (DZ Z (DZ Z (DY (sF Y (j8 Z Z)) (Ec (aa (az Z (aY ?_)))))))))
   refine aw (aw (aE (aB (aa (aj (DY (bn _ 1 Z Z Y) (DZ Z (Ec ?_))))))))
   refine aN ((i+1,sv,cap,B')) Y Y DU (.keep (Da) (.keep DX (.keep DX (.keep DX (.keep DX (.nil))))))
theorem mL {m:Nat} {F:Nat→Nat→Int} : ∀ {n:Nat},dZ m F n=0 → ∃ k,k<n∧dZ m F k≠0∧dZ m F (k+1)=0
 | 0, h => absurd h Int.one_ne_zero
 | n + 1, h => by
  by_cases h0:dZ m F n=0
  ·obtain ⟨k,h1,h2,h3⟩:=mL h0
   exact ⟨k,by omega,h2,h3⟩
  ·exact ⟨n,Nat.lt_succ_self n,h0,h⟩
end Tor
end
section
namespace Tor
open Go Go.RowKit Go.Proofs
open Lin (dZ lZ uZ cO)
def lc (k:Nat) (D:Nat→Int) (L:Nat→Nat→Int):Prop:=(∀ i j,i<k→j<i→ny D L i j) ∧ ∀ p,p+1<k→py D L p
theorem lc.next {k:Nat} {D:Nat→Int} {L:Nat→Nat→Int} (h:lc k D L) (h1 : ∀ j,j<k→ny D L k j) (h2:0<k→py D L (k - 1)):lc (k+1) D L :=
 ⟨fun i j hi hj=>by
  by_cases e:i=k
  ·subst e;exact h1 j hj
  ·exact h.1 i j Y hj,fun p hp=>by
  by_cases e:p+1=k
  ·have:=h2 Y;rw [← e] at this;exact this
  ·exact h.2 p Y⟩
theorem DesB.l {m n i j:Nat} {F:Nat→Nat→Int} (h:DesB m n F) (hi:i<n) (hj:j≤i):cX (lZ m F i j):=h.u i j j (Nat.le_refl _) hj hi
attribute [local irreducible] J PJ aP one slT cv bA bM exT cq eP aW aU slV VT.le Ret bO
attribute [local irreducible] aO
theorem fh (m n:Nat) (F:Nat→Nat→Int) (hn:n≤1048576) (hm:m≤1048576) (hb:DesB m n F) (v:Bool) (hv:v=true↔(dZ m F n≠0∧lc n (dZ m F) (lZ m F))):Ok Tryz.prog 15 [bG n m F] (one (.bool v)):=by
 have hva:=cJ n m F
 refine Ok.enter Tryz.func15 Z Tryz.ntmps15 Z (fun w O => ?_)
 by_cases hd:dZ m F n=0
 ·have hvf:v=false:=by
   cases v with
   | false => rfl
   | true => exact absurd hd (hv.1 Z).1
  subst hvf
  obtain ⟨k,h1,h2,h3⟩:=mL hd
  have hde:=ky m n k F hn hm hb h1 h2 h3
  refine ae (aj ?_)
  refine aM Z Z (ltN Z) (fun b1 => ?_)
  refine Ea Z (Ec (aa (ae (ae (aj (DY (ay 0 Z Z) ?_))))))
  refine DY (am (hva) Z ⟨H,Ed⟩) ?_
  refine DY (bF Z) (Ec (aa (az Z (av (aa (ae (aj (DY (ah Z) (DY (ak 0 Z Z Z) ?_)))))))))
  refine DY (am (hde) Z ⟨H,Ed⟩) ?_
  refine DZ Z (DY (aq Z Z) (DY (aq Z Z) ?_))
  refine aF (T:=81) Z Z Z (fun b3 => ?_)
  refine aH 0 Z Z Z Z (Ea Z (Ec (aa (ae (ae (aj (DZ Z (DY (bF Z) (Ec ?_)))))))))
  refine aa (aG Z (ae (aj (Ea Z (Ec (aa (aD (aI ?_))))))))
  refine aK Tryz.results15 (.tmp Z H)
 ·have hde:=lm m n F hn hm hb hd
  refine ae (aj ?_)
  refine aM Z Z (ltN Z) (fun b1 => ?_)
  refine Ea Z (Ec (aa (ae (ae (aj (DY (ay 0 Z Z) ?_))))))
  refine DY (am (hva) Z ⟨H,Ed⟩) ?_
  refine DY (bF Z) (Ec (aa (az Z (av (aa (ae (aj (DY (ah Z) (DY (ak 0 Z Z Z) ?_)))))))))
  refine DY (am (hde) Z ⟨H,Ed⟩) ?_
  refine DZ Z (DY (aq Z Z) (DY (aq Z Z) ?_))
  refine aF (T:=81) Z Z Z (fun b3 => ?_)
  refine aH 0 Z Z Z Z (Ea Z (Ec (aa (ae (ae (aj (DZ Z (DY (bF Z) (Ec ?_)))))))))
  refine aa (az Z (av (aa (ae (ae (aj (DY (ah Z) (DY (ak 0 Z Z Z) (DY (aZ Z) ?_)))))))))
  refine DZ Z (Ec (aa (ar (cm (Γ' := [(2,_),(3,_),(20,_),(21,_)]) DT (SubM.refl _) ?_))))
  refine bw (σ:=Nat) (Γk := [(3,_),(20,_)]) DT (fun i => [(21,one (.int .i64 (i:Nat)))]) (fun i M0=>M0) (fun i=>i≤n∧lc i (dZ m F) (lZ m F)) (fun i=>n - i) (0) (⟨Nat.zero_le _,fun i j h=>by omega,fun p h=>by omega⟩) DU (.keep DX (.keep DX (.nil))) (fun i hi => ?_)
  refine bN (Γ' := [(21,_),(3,_),(20,_)]) (M' := [_,_]) Z Z ?_
  obtain ⟨hi,hR⟩:=hi
  by_cases hin:i<n
  ·refine ae (aj (DY (sT Y (a7 Z Z)) (Ec (aa (ae (aG Z (av (aa (ae ?_)))))))))
   refine ar (ae (aj (DZ Z (Ea Z (Ec (aa (ae (ae (aj ?_)))))))))
   refine DY (ah Z) (DY (ak 0 Z Z Z) (DZ Z (DY (ax Z Z Y) (DY (aJ Z) (DY (aZ Z) (DZ Z (Ec (aa (ar ?_)))))))))
   refine cm (Γ' := [(3,_),(5,_),(20,_),(21,_),(29,_),(30,_)]) DT (SubM.refl _) ?_
   refine bw (σ:=Nat) (Γk := [(3,_),(5,_),(20,_),(21,_),(29,_)]) DT (fun j => [(30,one (.int .i64 (j:Nat)))]) (fun j M0=>M0) (fun j=>j≤i ∧ ∀ b,b<j→ny (dZ m F) (lZ m F) i b) (fun j=>i - j) (0) (⟨Nat.zero_le _,fun b h=>by omega⟩) DU (.keep DX (.keep DX (.nil))) (fun j hj => ?_)
   refine bN (Γ' := [(30,_),(3,_),(5,_),(20,_),(21,_),(29,_)]) (M' := [_,_]) Z Z ?_
   obtain ⟨hj,hS⟩:=hj
   by_cases hji:j<i
   ·have hsh:=qJ n (dZ m F) (lZ m F) i j hn hin hji (hb.l hin Y)
    by_cases hs:ny (dZ m F) (lZ m F) i j
    ·rw [decide_eq_true hs] at hsh
     refine ae (aj (DY (sT Y (a7 Z Z)) (Ec (aa (ae (aG Z (av (aa (ae ?_)))))))))
     refine ar (ae (aj (DZ Z (Ea Z (Ec (aa (ae (aj (DY (ay 0 Z Z) ?_)))))))))
     refine DZ Z (DZ Z ?_)
     refine DY (am (hsh) Z ⟨H,H,H,Ed⟩) ?_
     refine DY (bF Z) (Ec (aa (az Z (av (aB (aa (aj (DY (bn _ 1 Z Z Y) (DZ Z ?_)))))))))
     refine Ec ?_
     refine aN (j+1) (⟨hji,fun b hb=>(Nat.lt_or_eq_of_le (Nat.lt_succ_iff.1 hb)).elim (hS b) (fun e=>e▸hs)⟩) Y DU (.keep DX (.keep DX (.nil)))
    ·rw [decide_eq_false hs] at hsh
     have hvf:v=false:=by
      cases v with
      | false => rfl
      | true => exact absurd ((hv.1 Z).2.1 i j hin hji) hs
     subst hvf
     refine ae (aj (DY (sT Y (a7 Z Z)) (Ec (aa (ae (aG Z (av (aa (ae ?_)))))))))
     refine ar (ae (aj (DZ Z (Ea Z (Ec (aa (ae (aj (DY (ay 0 Z Z) ?_)))))))))
     refine DZ Z (DZ Z ?_)
     refine DY (am (hsh) Z ⟨H,H,H,Ed⟩) ?_
     refine DY (bF Z) (Ec (aa (aG Z (ae (aj (Ea Z (Ec (aa (aD ?_)))))))))
     refine a9 (aI (aI (a9 (aI (a9 (aI (aI (a9 (aI ?_)))))))))
     refine aK Tryz.results15 (.tmp Z H)
   ·have he:j=i:=by omega
    subst he
    by_cases hi0:j=0
    ·subst hi0
     have hR1:=hR.next hS (fun h=>by omega)
     refine ae (aj (DY (sF Y (a7 Z Z)) (Ec (aa (ae (az Z (aY (aw (aw ?_)))))))))
     refine aE (aa (ae (aj (DZ Z (DY (sF Y (ej Z Z)) (DZ Z (sn0 Z Z Z Z Z (sn0 Z Z Z Z Z (sn0 Z Z Z Z Z ?_)))))))))
     refine sn0 Z Z Z Z Z (DY (a6 Z Z) (Ec (aa (az Z (av (aB (aa (aj (DY (bn _ 1 Z Z Y) ?_)))))))))
     refine DZ Z (Ec ?_)
     refine aN (0+1) (⟨hin,hR1⟩) Y DU (.keep DX (.keep DX (.nil)))
    ·have hor:=we n (dZ m F) (lZ m F) j (j - 1) hn Y hin (by rw [show j - 1+1=j by omega]; exact hb.l hin Y) (hb.d Y) (hb.d Y) (hb.d Y)
     by_cases ho:py (dZ m F) (lZ m F) (j - 1)
     ·rw [decide_eq_true ho] at hor
      have hR1:=hR.next hS (fun _=>ho)
      refine ae (aj (DY (sF Y (a7 Z Z)) (Ec (aa (ae (az Z (aY (aw (aw ?_)))))))))
      refine aE (aa (ae (aj (DZ Z (DY (sT Y (ej Z Z)) (DZ Z (Eb (ay 0 Z Z) (Eb (ab Z) ?_))))))))
      refine Eb (am (hor) Z ⟨H,H,Ed⟩) ?_
      refine Eb (bF Z) (DY (aV Z Z) (Ec (aa (az Z (av (aB (aa (aj (DY (bn _ 1 Z Z Y) ?_)))))))))
      refine DZ Z (Ec ?_)
      refine aN (j+1) (⟨hin,hR1⟩) Y DU (.keep DX (.keep DX (.nil)))
     ·rw [decide_eq_false ho] at hor
      have hvf:v=false:=by
       cases v with
       | false => rfl
       | true => exact absurd ((hv.1 Z).2.2 (j - 1) Y) ho
      subst hvf
      refine ae (aj (DY (sF Y (a7 Z Z)) (Ec (aa (ae (az Z (aY (aw (aw ?_)))))))))
      refine aE (aa (ae (aj (DZ Z (DY (sT Y (ej Z Z)) (DZ Z (Eb (ay 0 Z Z) (Eb (ab Z) ?_))))))))
      refine Eb (am (hor) Z ⟨H,H,Ed⟩) ?_
      refine Eb (bF Z) (DY (aV Z Z) (Ec (aa (aG Z (ae (aj (Ea Z (Ec (aa ?_)))))))))
      refine aD (a9 (aI (aI (a9 (aI ?_)))))
      refine aK Tryz.results15 (.tmp Z H)
  ·have he:i=n:=by omega
   subst he
   have hvt:=hv.2 ⟨hd,hR⟩
   subst hvt
   refine ae (aj (DY (sF Y (a7 Z Z)) (Ec (aa (ae (az Z (aY (aw (aw ?_)))))))))
   refine aE (aa (ae (aj (Ea Z (Ec (aa (aD ?_)))))))
   refine aK Tryz.results15 (.tmp Z H)
end Tor
end
section
namespace Tor
open Go Go.RowKit Go.Proofs
open Lin (dZ lZ uZ cO)
abbrev zrT:VT:=one (.agg #[.bool false, .slice none 0 0, .bool false, .slice none 0 0])
def grP (i j:Nat) (M:Nat→Nat→Rat):Nat→Nat→VT:=fun a b=>if a=i∧j≤b then zrT else bx (M a b)
theorem Dd {n i j:Nat} {M:Nat→Nat→Rat} {B:Nat→Nat} {DQ:Nat→Bool} : Own.le (rvO 45 (.agg 4) (fun q=>q) n B (fun q=>q) (dT (grP i j M) i j (bx (M i j))) DQ) (rvO 45 (.agg 4) (fun q=>q) n B (fun q=>q) (grP i (j+1) M) DQ):=du (fun _ _=>rfl) (fun _ _ _=>⟨rfl,rfl⟩) fun a b _ _ _=>by
 unfold dT
 by_cases h:a=i∧b=j
 ·rw [if_pos h,h.1,h.2,show grP i (j+1) M i j=bx (M i j) from if_neg Y]; exact VT.le_refl _
 ·rw [if_neg h]
  unfold grP
  by_cases h1:a=i∧j≤b
  ·rw [if_pos h1,if_pos Y]; exact VT.le_refl _
  ·rw [if_neg h1,if_neg Y]; exact VT.le_refl _
theorem De {i:Nat} {M:Nat→Nat→Rat} (j:Nat):VT.le zrT (grP i 0 M i j):=by
 rw [show grP i 0 M i j=zrT from if_pos ⟨rfl,Nat.zero_le _⟩]; exact VT.le_refl _
theorem Cu {i a b:Nat} {M:Nat→Nat→Rat} (h:a<i):VT.le (bx (M a b)) (grP i 0 M a b):=by
 rw [show grP i 0 M a b=bx (M a b) from if_neg Y]; exact VT.le_refl _
theorem Df {n i:Nat} {M:Nat→Nat→Rat} {B:Nat→Nat} {DQ:Nat→Bool} : Own.le (rvO 45 (.agg 4) (fun q=>q) n B (fun q=>q) (grP i i M) DQ) (rvO 45 (.agg 4) (fun q=>q) n B (fun q=>q) (fun a b=>bx (M a b)) DQ):=du (fun _ _=>rfl) (fun _ _ _=>⟨rfl,rfl⟩) fun a b _ _ hb=>by
 rw [show grP i i M a b=bx (M a b) from if_neg Y]; exact VT.le_refl _
def grM (m:Nat) (F:Nat→Nat→Int) (a b:Nat):Rat:=Rat.divInt (lZ m F a b) (dZ m F (b+1))
def grQ (m:Nat) (F:Nat→Nat→Int) (a:Nat):Rat:=Rat.divInt (dZ m F (a+1)) (dZ m F a)
theorem Dg {T:TypeId} {b n j:Nat} {Q:Nat→Rat} : Own.le (aU (some b) T (.agg 4) n n (upd (fun q=>if q<j then bx (Q q) else zrT) j (bx (Q j)))) (aU (some b) T (.agg 4) n n (fun q=>if q<j+1 then bx (Q q) else zrT)):=bQ fun q _=>by
 unfold upd
 by_cases h:q=j
 ·subst h;rw [if_pos Z,if_pos (Nat.lt_succ_self q)]
 ·rw [if_neg h]
  dsimp only
  by_cases h2:q<j
  ·rw [if_pos h2,if_pos Y]
  ·rw [if_neg h2,if_neg Y]
abbrev grT (n:Nat) (M:Nat→Nat→Rat):VT:=slT .one n (fun i=>slT (.agg 4) i (fun j=>bx (M i j)))
attribute [local irreducible] J PJ aP one slT cv bA bM exT cq eP aW aU slV VT.le Ret bO
attribute [local irreducible] rvO aO bx
theorem rS (m n:Nat) (F:Nat→Nat→Int) (hn:n≤1048576) (hm:m≤1048576) (hb:DesB m n F) (hd:dZ m F n=0):Ok Tryz.prog 11 [bG n m F] (bM [one (.slice none 0 0),one (.slice none 0 0),one (.int .i64 170)]):=by
 have hva:=cJ n m F
 obtain ⟨k,h1,h2,h3⟩:=mL hd
 have hde:=ky m n k F hn hm hb h1 h2 h3
 refine Ok.enter Tryz.func11 Z Tryz.ntmps11 Z (fun w O => ?_)
 refine ae (aj ?_)
 refine aM Z Z (ltN Z) (fun b1 => ?_)
 refine Ea Z (Ea Z (Ea Z (Ec (aa (ae (ae (aj (DY (ay 0 Z Z) ?_))))))))
 refine DY (am (hva) Z ⟨H,Ed⟩) ?_
 refine DY (bF Z) (Ec (aa (az Z (av (aa (ae (aj (DY (ah Z) (DY (ak 0 Z Z Z) ?_)))))))))
 refine DY (am (hde) Z ⟨H,Ed⟩) ?_
 refine DZ Z (DY (aq Z Z) (DY (aq Z Z) ?_))
 refine aF (T:=81) Z Z Z (fun b5 => ?_)
 refine aH 0 Z Z Z Z (Ea Z (Ec (aa (ae (ae (aj (DZ Z (DY (bF Z) (Ec ?_)))))))))
 refine aa (aG Z (ae (aj (Ea Z (Ea Z (Ea Z (Ec (aa (aD ?_)))))))))
 refine aI ?_
 refine jd Tryz.results11 (.tmp Z H) (.tmp Z H) (.tmp Z H)
set_option maxRecDepth 100000 in
theorem mM (m n:Nat) (F:Nat→Nat→Int) (hn:n≤1048576) (hm:m≤1048576) (hb:DesB m n F) (hd:dZ m F n≠0):Ok Tryz.prog 11 [bG n m F] (bM [grT n (grM m F),slT (.agg 4) n (fun i=>bx (grQ m F i)),one (.int .i64 0)]):=by
 have hva:=cJ n m F
 have hde:=lm m n F hn hm hb hd
 refine Ok.enter Tryz.func11 Z Tryz.ntmps11 Z (fun w O => ?_)
 refine ae (aj ?_)
 refine aM Z Z (ltN Z) (fun b1 => ?_)
 refine Ea Z (Ea Z (Ea Z (Ec (aa (ae (ae (aj (DY (ay 0 Z Z) ?_))))))))
 refine DY (am (hva) Z ⟨H,Ed⟩) ?_
 refine DY (bF Z) (Ec (aa (az Z (av (aa (ae (aj (DY (ah Z) (DY (ak 0 Z Z Z) ?_)))))))))
 refine DY (am (hde) Z ⟨H,Ed⟩) ?_
 refine DZ Z (DY (aq Z Z) (DY (aq Z Z) ?_))
 refine aF (T:=81) Z Z Z (fun b5 => ?_)
 refine aH 0 Z Z Z Z (Ea Z (Ec (aa (ae (ae (aj (DZ Z (DY (bF Z) (Ec ?_)))))))))
 refine aa (az Z (av (aa (ae (aj (DY (ah Z) (DY (ak 1 Z Z Z) ?_)))))))
 refine ci n n Z Z Z Z (Nat.le_refl _) Z Z Y Z Z (fun bm => ?_)
 refine Ea Z (Ec (aa (ae (aj (DY (ah Z) (DY (ak 2 Z Z Z) ?_))))))
 refine ci n n Z Z Z Z (Nat.le_refl _) Z Z Y Z Z (fun bq => ?_)
 refine Ea Z (Ec (aa (ae (ae (aj (DZ Z (DY (gL Z) (DZ Z (Ec ?_)))))))))
 refine aa (ar ?_)
 refine et (kr (T:=45) (L := .agg 4) (c:=fun q=>q) (n:=n) (B:=fun _=>0) (C:=fun q=>q) (φ:=fun a b=>bx (grM m F a b)) (DQ:=fun q=>decide (0≤q)) (fun i _=>decide_eq_true (Nat.zero_le i))) ?_
 refine cm (Γ' := [(2,_),(3,_),(4,_),(5,_),(7,_),(8,_),(29,_),(30,_)]) DT (SubM.refl _) ?_
 refine bw (σ:=Nat × (Nat→Nat)) (Γk := [(2,_),(3,_),(4,_),(5,_),(7,_),(8,_),(29,_)]) DT (fun s => [(30,one (.int .i64 (s.1:Nat)))]) (fun s M0=>(((M0.set 0 (rvO 45 (.agg 4) (fun q=>q) n s.2 (fun q=>q) (fun a b=>bx (grM m F a b)) (fun q=>decide (s.1≤q)))).set 1 (aU (some bq) 45 (.agg 4) n n (fun q=>if q<s.1 then bx (grQ m F q) else zrT))).set 2 (aU (some bm) 31 .one n n (fun q=>if q<s.1 then one (slV (some (s.2 q)) q q) else one (.slice none 0 0))))) (fun s=>s.1≤n) (fun s=>n - s.1) ((0,fun _=>0)) (Nat.zero_le _) DU (.keep DX (.keep DX (.keep DX (.keep DX (.keep DX (.nil)))))) (fun s hs => ?_)
 refine bN (Γ' := [(30,_),(2,_),(3,_),(4,_),(5,_),(7,_),(8,_),(29,_)]) (M' := [_,_,_,_,_]) Z Z ?_
 obtain ⟨i,B⟩:=s
 dsimp only at hs ⊢
 by_cases hi:i<n
 ·refine ae (aj (DY (sT Y (a7 Z Z)) (Ec (aa (ae (aG Z (av (aa (ae ?_)))))))))
  refine ar (ae (aj (DZ Z (Ea Z (Ec (aa (ae (aj (DZ Z ?_)))))))))
  refine DZ Z (DZ Z ?_)
  refine ci i i Z Z Z Z (Nat.le_refl _) Z Z Y Z Z (fun b => ?_)
  refine DY (an Z Z Y) ?_
  (refine aA 3 Z Z Z ?_ Z ?_;omega)
  refine Ec (aa (ae (ae (aj (DZ Z (DZ Z (DY (an Z Z Y) (DY (bk 3 Z Z Y) (lM (t:=41) (ψ:=one (slV (some b) i i)) Z (by unfold upd;rw [if_pos Z]; exact VT.le_refl _) ?_)))))))))
  refine fX (jP (c:=fun q=>q) (i:=i) hi (decide_eq_true (Nat.le_refl i))) ?_
  refine fX (ConvM.le (mD (C:=fun q=>q) (χ:=grP i 0 (grM m F)) (fun j _=>De j) (fun q j hq _=>Cu hq))) ?_
  refine fX (ConvM.cons (ConvM.cons (ConvM.le (b:=aU (some bm) 31 .one n n (fun q=>if q<i+1 then one (slV (some ((fun q=>if q=i then b else B q) q)) q q) else one (.slice none 0 0))) (oa (c:=fun q=>q) (C:=fun q=>q))))) ?_
  generalize (fun q=>if q=i then b else B q)=B' at *
  refine DY (gL Z) (DZ Z (Ec (aa (ar (cm (Γ' := [(2,_),(3,_),(4,_),(5,_),(7,_),(8,_),(9,_),(29,_),(30,_),(42,_),(43,_)]) DT (SubM.refl _) ?_)))))
  refine bw (σ:=Nat) (Γk := [(2,_),(3,_),(4,_),(5,_),(7,_),(8,_),(9,_),(29,_),(30,_),(42,_)]) DT (fun j => [(43,one (.int .i64 (j:Nat)))]) (fun j M0=>(M0.set 0 (rvO 45 (.agg 4) (fun q=>q) n B' (fun q=>q) (grP i j (grM m F)) (fun q=>decide (i+1≤q))))) (fun j=>j≤i) (fun j=>i - j) (0) (Nat.zero_le _) DU (.keep DX (.keep DX (.keep DX (.keep DX (.keep DX (.nil)))))) (fun j hj => ?_)
  refine bN (Γ' := [(43,_),(2,_),(3,_),(4,_),(5,_),(7,_),(8,_),(9,_),(29,_),(30,_),(42,_)]) (M' := [_,_,_,_,_]) Z Z ?_
  by_cases hji:j<i
  ·have h1:dZ m F (j+1)≠0:=Lin.cx hd Y
   have hof:=yy (lZ m F i j) (dZ m F (j+1)) h1 (bE (hb.l hi Y)) (bE (hb.d Y))
   refine ae (aj (DY (sT Y (a7 Z Z)) (Ec (aa (ae (aG Z (av (aa (ae ?_)))))))))
   refine ar (ae (aj (DZ Z (Ea Z (Ec (aa ?_))))))
   apply nm (Γ1 := [(43,_),(2,_),(3,_),(4,_),(5,_),(7,_),(8,_),(9,_),(29,_),(30,_),(42,_)]) (M1 := [_,_,_,_,_]) 23 3 [] [22] aS X S
   ·refine DZ Z (DZ Z (DY (an Z Z Y) (DY (iH 2 Z Z Y Y) (DZ Z (DY (ah Z) (DY (ak 3 Z Z Z) (DZ Z (DY (ax Z Z Y) (DY (aJ Z) ?_)))))))))
    refine DZ Z (DY (ax Z Z Y) (DY (aJ Z) (DY (ah Z) (DY (ak 3 Z Z Z) (DZ Z (DY (bn _ 1 Z Z Y) (DY (ax Z Z Y) (DY (aJ Z) ?_))))))))
    refine DY (am (hof) Z ⟨H,H,Ed⟩) ?_
    refine DZ Z (DY (aq Z Z) (DY (aq Z Z) (Ec ?_)))
    refine x3 (Γe := [(43,_),(2,_),(3,_),(4,_),(5,_),(7,_),(8,_),(9,_),(29,_),(30,_),(42,_),(50,_),(51,_),(67,_),(46,_)]) (rem := [23,24]) Z DW Z ?_
    refine au (rem' := [24]) (i:=23) X Z Z ?_ (i7.cons Z (StepG.plain (aq Z Z) Z Z (ltN Z)) Z i7.nil)
    refine DY (an Z Z Y) (Ec ?_)
    refine ⟨rfl,?_⟩
    refine au (rem' := []) (i:=24) X Z Z ?_ (i7.cons Z (StepG.plain (aq Z Z) Z Z (ltN Z)) Z i7.nil)
    (refine dq 0 Z Z Z ?_ (decide_eq_false Y) ?_ Z ?_;omega;omega)
    refine Ec ?_
    refine ⟨rfl,?_⟩
    refine a8 DW (SubM.refl _) (i7.cons Z (StepG.plain (aq Z Z) Z Z (ltN Z)) Z i7.nil)
   ·refine aB (aa (aj (DY (bn _ 1 Z Z Y) (DZ Z (Ec ?_)))))
    refine aN (j+1) (hji) Y DU (.keep (Dd) (.keep DX (.keep DX (.keep DX (.keep DX (.nil))))))
  ·have he:j=i:=by omega
   subst he
   have h1:dZ m F j≠0:=Lin.cx hd Y
   have hof:=yy (dZ m F (j+1)) (dZ m F j) h1 (bE (hb.d Y)) (bE (hb.d Y))
   refine ae (aj (DY (sF Y (a7 Z Z)) (Ec (aa (ae (az Z (aY (aw (aw ?_)))))))))
   refine aE (aa ?_)
   apply nm (Γ1 := [(30,_),(2,_),(3,_),(4,_),(5,_),(7,_),(8,_),(29,_)]) (M1 := [_,_,_,_,_]) 17 3 [] [16] aS X S
   ·refine DZ Z (DZ Z (DY (ah Z) (DY (ak 3 Z Z Z) (DZ Z (DY (bn _ 1 Z Z Y) (DY (ax Z Z Y) (DY (aJ Z) (DY (ah Z) (DY (ak 3 Z Z Z) ?_)))))))))
    refine DZ Z (DY (ax Z Z Y) (DY (aJ Z) ?_))
    refine DY (am (hof) Z ⟨H,H,Ed⟩) ?_
    refine DZ Z (DY (aq Z Z) (DY (aq Z Z) (Ec ?_)))
    refine x3 (Γe := [(30,_),(2,_),(3,_),(4,_),(5,_),(7,_),(8,_),(29,_),(72,_),(73,_),(86,_),(71,_)]) (rem := [17,18]) Z DW Z ?_
    refine au (rem' := [18]) (i:=17) X Z Z ?_ (i7.cons Z (StepG.plain (aq Z Z) Z Z (ltN Z)) Z i7.nil)
    refine DY (an Z Z Y) (Ec ?_)
    refine ⟨rfl,?_⟩
    refine au (rem' := []) (i:=18) X Z Z ?_ (i7.cons Z (StepG.plain (aq Z Z) Z Z (ltN Z)) Z i7.nil)
    (refine aA 1 Z Z Z ?_ Z ?_;omega)
    refine Ec ?_
    refine ⟨rfl,?_⟩
    refine a8 DW (SubM.refl _) (i7.cons Z (StepG.plain (aq Z Z) Z Z (ltN Z)) Z i7.nil)
   ·refine aB (aa (aj (DY (bn _ 1 Z Z Y) (DZ Z (Ec (gq (ConvM.le Df) ?_))))))
    refine aN ((j+1,B')) (hi) Y DU (.keep DX (.keep (Dg) (.keep DX (.keep DX (.keep DX (.nil))))))
 ·have he:i=n:=by omega
  subst he
  refine ae (aj (DY (sF Y (a7 Z Z)) (Ec (aa (ae (az Z (aY (aw (aw ?_)))))))))
  refine aE (aa (ae (aj (DZ Z (DZ Z (Ea Z (Ea Z (Ea Z (Ec ?_)))))))))
  refine aa (aD ?_)
  refine fD [aU (some bq) 45 (.agg 4) i i (fun q=>if q<i then bx (grQ m F q) else zrT)] (Kp := [_,_,_,_]) (Kp' := [_,_,_,_]) (List.Perm.swap _ _ _) (EntM.refl _) (xD.set (t:=3) (ψ:=slT (.agg 4) i (fun q=>bx (grQ m F q))) Z (Ent.slE List.mem_cons_self (fun q hq=>by rw [if_pos hq]; exact Ent.refl _))) ?_
  refine fD [aU (some bm) 31 .one i i (fun q=>if q<i then one (slV (some (B q)) q q) else one (.slice none 0 0)),rvO 45 (.agg 4) (fun q=>q) i B (fun q=>q) (fun a b=>bx (grM m F a b)) (fun q=>decide (i≤q))] (Kp := [_,_]) (Kp' := [_,_]) (List.Perm.swap _ _ _) (EntM.refl _) (xD.set (t:=2) (ψ:=grT i (grM m F)) Z (Ent.slE List.mem_cons_self (fun q hq=>by rw [if_pos hq]; exact Ent.rvo (List.mem_cons_of_mem _ List.mem_cons_self) hq (decide_eq_false Y)))) ?_
  refine jd Tryz.results11 (.tmp Z H) (.tmp Z H) (.tmp Z H)
end Tor
end
section
namespace Tor
open Go Go.RowKit Go.Proofs
attribute [local irreducible] J PJ aP one slT cv bA bM exT cq eP aW aU slV VT.le Ret bO
attribute [local irreducible] aO bx
theorem pB (n:Nat) (M M':Nat→Nat→Rat) (hn:n≤1048576) (h : ∀ i j,i<n→j<i→M i j=M' i j):Ok Tryz.prog 13 [grT n M,grT n M'] (one (.bool true)):=by
 refine Ok.enter Tryz.func13 Z Tryz.ntmps13 Z (fun w O => ?_)
 refine ae (aj (Ea Z (Ec (aa (ae (ae (aj (DZ Z (DY (aZ Z) ?_)))))))))
 refine DZ Z (DY (aZ Z) (DY (sF Y (cE Z Z)) (Ec (aa (az Z (av (aa (ae (ae ?_)))))))))
 refine aj (Ea Z (Ec (aa (ar (cm (Γ' := [(0,_),(1,_),(4,_),(5,_)]) DT (SubM.refl _) ?_)))))
 refine bw (σ:=Nat) (Γk := [(0,_),(1,_)]) DT (fun i => [(5,one (.int .i64 (i:Nat)))]) (fun i M0=>M0) (fun i=>i≤n) (fun i=>n - i) (0) (Nat.zero_le _) DU (.nil) (fun i hi => ?_)
 refine bN (Γ' := [(5,_),(0,_),(1,_)]) (M' := []) Z Z ?_
 by_cases hin:i<n
 ·have hl:=kR i i (M i) (M' i) Y
  rw [decide_eq_true ⟨rfl,fun j hj=>h i j hin hj⟩] at hl
  refine ae (ae (aj (DZ Z (DZ Z (DY (aZ Z) (DY (sT Y (a7 Z Z)) (Ec (aa (aG Z ?_)))))))))
  refine av (aa (ae (ar (ae (aT 10 aS X S (DZ Z (DZ Z (DY (ax Z Z Y) (DY (aJ Z) ?_)))))))))
  refine DZ Z (DZ Z (DY (ax Z Z Y) (DY (aJ Z) ?_)))
  refine DY (am (hl) Z ⟨H,H,Ed⟩) ?_
  refine DY (bF Z) (Ec (Ec (aa (az Z (av (aB (aa (aj (DZ Z ?_)))))))))
  refine DY (bn _ 1 Z Z Y) (Ea Z (Ec ?_))
  refine aN (i+1) (hin) Y DU (.nil)
 ·have he:i=n:=by omega
  subst he
  refine ae (ae (aj (DZ Z (DZ Z (DY (aZ Z) (DY (sF Y (a7 Z Z)) (Ec (aa (az Z ?_)))))))))
  refine aY (aw (aw (aE (aa (ae (aj (Ea Z (Ec (aa ?_)))))))))
  refine aD ?_
  refine aK Tryz.results13 (.tmp Z H)
end Tor
end
section
namespace Tor
open Go Go.RowKit Go.Proofs
def prQ (f:Nat→Rat):Nat→Rat
 | 0 => 1
 | n + 1 => prQ f n * f n
attribute [local irreducible] J PJ aP one slT cv bA bM exT cq eP aW aU slV VT.le Ret bO
attribute [local irreducible] aO bx
theorem wk (n:Nat) (f:Nat→Rat) (y z:Nat) (hn:n≤1048576) (hz:y+z≤1099511627700) (hf : ∀ i,i<n→qz z (f i)) (hp : ∀ i,i≤n→qz y (prQ f i)):Ok Tryz.prog 30 [slT (.agg 4) n (fun i=>bx (f i))] (bx (prQ f n)):=by
 have h1:=eA 1 S S
 rw [show (((1:Int)):Rat)=prQ f 0 from rfl] at h1
 refine Ok.enter Tryz.func30 Z Tryz.ntmps30 Z (fun w O => ?_)
 refine ae (aj ?_)
 refine aF (T:=45) Z Z Z (fun b2 => ?_)
 refine Ec (aa (ae (aj ?_)))
 refine DY (am (h1) Z ⟨H,Ed⟩) ?_
 refine aF (T:=45) Z Z Z (fun b3 => ?_)
 refine cK 0 Z Z Z Z (Ec (aa (ae (ae (aj (Ea Z (Ec (aa (ar ?_)))))))))
 refine cm (Γ' := [(0,_),(2,_),(3,_),(4,_)]) DT (SubM.refl _) ?_
 refine bw (σ:=Nat) (Γk := [(0,_),(2,_),(3,_)]) DT (fun i => [(4,one (.int .i64 (i:Nat)))]) (fun i M0=>(M0.set 0 (aW b3 45 4 [(0, .agg 4,bx (prQ f i))]))) (fun i=>i≤n) (fun i=>n - i) (0) (Nat.zero_le _) DU (.keep DX (.keep DX (.nil))) (fun i hi => ?_)
 refine bN (Γ' := [(4,_),(0,_),(2,_),(3,_)]) (M' := [_,_]) Z Z ?_
 by_cases hin:i<n
 ·have hm:Ok Tryz.prog 21 [bx (prQ f i),bx (f i)] (bx (prQ f (i+1))):=eJ (prQ f i) (f i) y z (hp i hi) (hf i hin) hz
  refine ae (ae (aj (DZ Z (DZ Z (DY (aZ Z) (DY (sT Y (a7 Z Z)) (Ec (aa (aG Z ?_)))))))))
  refine av (aa (ae (ar (aT 6 aS X S (DY (ak 0 Z Z Z) (DZ Z (DZ Z (DY (ax Z Z Y) (DY (aJ Z) ?_)))))))))
  refine DY (am (hm) Z ⟨H,H,Ed⟩) ?_
  refine Ec (aC 0 Z Z Z Z Z (leN Z) Z (Ec (aB (aa (aj (DZ Z (DY (bn _ 1 Z Z Y) (Ea Z (Ec ?_)))))))))
  refine aN (i+1) (hin) Y DU (.keep DX (.keep DX (.nil)))
 ·have he:i=n:=by omega
  subst he
  refine ae (ae (aj (DZ Z (DZ Z (DY (aZ Z) (DY (sF Y (a7 Z Z)) (Ec (aa (az Z ?_)))))))))
  refine aY (aw (aw (aE (aa (ae (aj (DY (ak 0 Z Z Z) (cK 1 Z Z Z Z (Ec ?_)))))))))
  refine aa (aD ?_)
  refine aK Tryz.results30 (.cellB 1 Z Z Z H)
theorem yY (n:Nat) (f g:Nat→Rat) (x y z:Nat) (hn:n≤1048576) (hx:x+x≤1099511627700) (hz:y+z+1≤1099511627700) (hf : ∀ i,i<n→qz x (f i)) (hg : ∀ i,i<n→qz x (g i)) (hm : ∀ i,i<n→qz z (f i*g i)) (hp : ∀ i,i≤n→qz y (Lin.sm i (fun k=>f k*g k))):Ok Tryz.prog 49 [slT (.agg 4) n (fun i=>bx (f i)),slT (.agg 4) n (fun i=>bx (g i))] (bx (Lin.sm n (fun k=>f k*g k))):=by
 have h1:=eA 0 S S
 rw [show (((0:Int)):Rat)=Lin.sm 0 (fun k=>f k*g k) from rfl] at h1
 refine Ok.enter Tryz.func49 Z Tryz.ntmps49 Z (fun w O => ?_)
 refine ae (aj ?_)
 refine aF (T:=45) Z Z Z (fun b4 => ?_)
 refine Ec (aa (ae (aj ?_)))
 refine DY (am (h1) Z ⟨H,Ed⟩) ?_
 refine aF (T:=45) Z Z Z (fun b5 => ?_)
 refine cK 0 Z Z Z Z (Ec (aa (ae (ae (aj (Ea Z (Ec (aa (ar ?_)))))))))
 refine cm (Γ' := [(0,_),(1,_),(4,_),(5,_),(6,_)]) DT (SubM.refl _) ?_
 refine bw (σ:=Nat) (Γk := [(0,_),(1,_),(4,_),(5,_)]) DT (fun i => [(6,one (.int .i64 (i:Nat)))]) (fun i M0=>(M0.set 0 (aW b5 45 4 [(0, .agg 4,bx (Lin.sm i (fun k=>f k*g k)))]))) (fun i=>i≤n) (fun i=>n - i) (0) (Nat.zero_le _) DU (.keep DX (.keep DX (.nil))) (fun i hi => ?_)
 refine bN (Γ' := [(6,_),(0,_),(1,_),(4,_),(5,_)]) (M' := [_,_]) Z Z ?_
 by_cases hin:i<n
 ·have c1:=eJ (f i) (g i) x x (hf i hin) (hg i hin) hx
  have c2:Ok Tryz.prog 22 [bx (Lin.sm i (fun k=>f k*g k)),bx (f i*g i)] (bx (Lin.sm (i+1) (fun k=>f k*g k))):=pj (Lin.sm i (fun k=>f k*g k)) (f i*g i) y z (hp i hi) (hm i hin) hz
  refine ae (ae (aj (DZ Z (DZ Z (DY (aZ Z) (DY (sT Y (a7 Z Z)) (Ec (aa (aG Z ?_)))))))))
  refine av (aa (ae (ar (aT 11 aS X S (DY (ak 0 Z Z Z) (DZ Z (DZ Z (DY (ax Z Z Y) (DY (aJ Z) ?_)))))))))
  refine DZ Z (DZ Z (DY (ax Z Z Y) (DY (aJ Z) ?_)))
  refine DY (am (c1) Z ⟨H,H,Ed⟩) ?_
  refine DY (am (c2) Z ⟨H,H,Ed⟩) ?_
  refine Ec (aC 0 Z Z Z Z Z (leN Z) Z (Ec (aB (aa (aj (DZ Z (DY (bn _ 1 Z Z Y) (Ea Z (Ec ?_)))))))))
  refine aN (i+1) (hin) Y DU (.keep DX (.keep DX (.nil)))
 ·have he:i=n:=by omega
  subst he
  refine ae (ae (aj (DZ Z (DZ Z (DY (aZ Z) (DY (sF Y (a7 Z Z)) (Ec (aa (az Z ?_)))))))))
  refine aY (aw (aw (aE (aa (ae (aj (DY (ak 0 Z Z Z) (cK 1 Z Z Z Z (Ec ?_)))))))))
  refine aa (aD ?_)
  refine aK Tryz.results49 (.cellB 1 Z Z Z H)
end Tor
end
section
namespace Tor
open Lin (dZ lZ uZ cO shZ exZ dK ec qq cf qF dot j5 cx jS exI rr)
def kz (n m:Nat) (F:Nat→Nat→Int):Nat→Nat→Int:=fun i j=>if i<n∧j<m then F i j else 0
theorem tI {n m i j:Nat} {F:Nat→Nat→Int} (hi:i<n) (hj:j<m):F i j=kz n m F i j:=(if_pos ⟨hi,hj⟩).symm
theorem pC {m:Nat} {u u' v v':Nat→Int} (h : ∀ k,k<m→u k=u' k) (h2 : ∀ k,k<m→v k=v' k):cO m u v=cO m u' v':=Lin.qu fun k hk=>by rw [h k hk,h2 k hk]
theorem tJ {m n i j t:Nat} {F G:Nat→Nat→Int} (h : ∀ a b,a<n→b<m→F a b=G a b) (hi:i<n) (hj:j<n) (ht:t<n):uZ m F i j t=uZ m G i j t :=
 Lin.o9 fun a b ha hb=>pC (fun k hk=>h _ k (by unfold rr;split <;> omega) hk) (fun k hk=>h _ k (by unfold rr;split <;> omega) hk)
theorem yZ {m n k:Nat} {F G:Nat→Nat→Int} (h : ∀ a b,a<n→b<m→F a b=G a b) (hk:k≤n):dZ m F k=dZ m G k:=by
 cases k with
 | zero => rfl
 | succ k => exact tJ h hk hk hk
theorem y5 {m n i j:Nat} {F G:Nat→Nat→Int} (h : ∀ a b,a<n→b<m→F a b=G a b) (hi:i<n) (hj:j<n):lZ m F i j=lZ m G i j:=tJ h hi hj hj
theorem A0 {m:Nat} {u:Nat→Int} {N:Nat} (h:cO m u u≤(N:Int)) : ∀ k,k<m→u k*u k≤(N:Int):=by
  induction m with
  | zero => exact fun k hk => absurd hk (Nat.not_lt_zero _)
  | succ m ih =>
    intro k hk
    have h0 : ∀ q:Nat,0≤cO q u u:=fun q=>by
      induction q with
      | zero => exact Int.le_refl _
      | succ q iq => have := Int.mul_self_le_mul_self (a := 0) (b := 0) Y Y; show 0 ≤ cO q u u + u q * u q; have h3 : 0 ≤ u q * u q := by rcases Int.le_total 0 (u q) with h | h; exact Int.mul_nonneg h h; exact Int.mul_nonneg_of_nonpos_of_nonpos h h
                     omega
    have h1:cO m u u+u m*u m≤(N:Int):=h
    have h2:0≤u m*u m:=by rcases Int.le_total 0 (u m) with h | h;exact Int.mul_nonneg h h;exact Int.mul_nonneg_of_nonpos_of_nonpos h h
    rcases Nat.lt_or_eq_of_le (Nat.lt_succ_iff.1 hk) with h3 | h3
    · exact ih Y k h3
    · subst h3;have:=h0 k;omega
theorem y6 {n m N:Nat} {F:Nat→Nat→Int} (h : ∀ a,a<n→cO m (F a) (F a)≤(N:Int)) {B:Nat} (hB:N<(B+1)*(B+1)) : ∀ i j,(kz n m F i j).natAbs≤B:=fun i j=>by
 unfold kz;split
 ·rename_i hh
  have h1:=A0 (h i hh.1) j hh.2
  rcases Nat.lt_or_ge B (F i j).natAbs with h2 | h2
  ·exfalso
   have h3:(B+1)*(B+1)≤(F i j).natAbs*(F i j).natAbs:=Nat.mul_le_mul h2 h2
   have h4:((F i j).natAbs*(F i j).natAbs:Int)=F i j*F i j:=by
    have:=Int.natAbs_mul_self (a:=F i j);exact_mod_cast this
   have h5:(((B+1)*(B+1):Nat):Int)≤((F i j).natAbs*(F i j).natAbs:Nat):=by exact_mod_cast h3
   rw [Int.natCast_mul (F i j).natAbs,h4] at h5
   have h6:((N:Nat):Int)<(((B+1)*(B+1):Nat):Int):=by exact_mod_cast hB
   omega
  ·exact h2
 ·exact Nat.zero_le _
structure LB (m n N0:Nat) (F:Nat→Nat→Int):Prop where
 m4:m≤4
 n4:n≤4
 n0:1≤N0
 nn:N0≤2^11
 nrm : ∀ a,a<n→cO m (F a) (F a)≤(N0:Int)
 f : ∀ i j,(F i j).natAbs≤64
structure LAll (m n N0:Nat) (F:Nat→Nat→Int) (s:LS) (e t k:Nat):Prop where
 inv:LInv m n (2*N0) 64 (N0^20) F s e t k
 vol:dZ m s.R n=dZ m F n
 vu:jZ n s.V s.U
theorem y7 {m n k:Nat} {s:LS} (hk:k<n) (h2:jZ n s.V s.U) : ∀ i,i≤k→jZ n (stA m k s i).V (stA m k s i).U
 | 0, _ => h2
 | i + 1, hi => by
  have g2:=y7 (m:=m) (k:=k) hk h2 i Y
  have e:stA m k s (i+1)=stJ m k (k - 1 - i) (stA m k s i):=rfl
  rw [e]
  obtain ⟨j,hj⟩ : ∃ j,k - 1 - i=j:=⟨_,rfl⟩
  rw [hj]
  unfold stJ
  split
  ·exact g2
  ·exact g2.sub' hk Y Y
theorem jZ.one {n:Nat} : jZ n idF idF:=fun i j hi hj=>by
 unfold idF
 rw [kS (k:=i) hi (fun t _ hne=>by rw [if_neg (fun e=>hne e.symm),Int.zero_mul]),if_pos Z,Int.one_mul]
theorem EqP.one {n m:Nat} {F:Nat→Nat→Int} : EqP n m F idF F:=fun i j hi hj=>by
 unfold idF
 rw [kS (k:=i) hi (fun t _ hne=>by rw [if_neg (fun e=>hne e.symm),Int.zero_mul]),if_pos Z,Int.one_mul]
section
variable {m n N0 e t k:Nat} {F:Nat→Nat→Int} {s:LS}
theorem LB.norm (h:LB m n N0 F) {a:Nat} (ha:a<n):dot m (qF F a) (qF F a)≤(N0:Rat):=by
 rw [← Lin.fu]; exact_mod_cast h.nrm a ha
theorem LAll.start (h:LB m n N0 F) (hd:dZ m F n≠0):LAll m n N0 F ⟨F,idF,idF⟩ 0 0 1:=by
 have hq : ∀ a,a<n→qq m (qF F) a≤(N0:Rat):=fun a ha=>by
  have h1:=Lin.AR (m:=m) (A:=qF F) a
  have h2:=h.norm ha
  grind
 have c2:(((2*N0:Nat)):Rat)=2*(N0:Rat):=by exact_mod_cast Z
 have hN:(0:Rat)≤(N0:Rat):=by exact_mod_cast Nat.zero_le _
 refine ⟨⟨EqP.one,jZ.one,hd,fun a ha => ?_,fun a ha => ?_,?_,?_,fun a b ha hb=>absurd hb Y,fun p hp=>absurd hp Y⟩,rfl,jZ.one⟩
 ·rw [c2]; have:=h.norm ha;show dot m (qF F a) (qF F a)≤_;grind
 ·rw [c2]; have:=hq a ha;show 2*qq m (qF F) a≤_;grind
 ·have h1:=Lin.wc hq (Nat.le_refl n)
  show 4^0*j5 m n F≤3^0*_
  rw [Nat.one_mul,Nat.one_mul]
  refine Nat.le_trans h1 (Nat.pow_le_pow_right h.n0 ?_)
  exact Nat.le_trans (Nat.mul_le_mul h.n4 (Nat.succ_le_succ h.n4)) S
 ·rw [Nat.pow_zero,Nat.one_mul]
  have hi : ∀ i j,(idF i j).natAbs≤64:=fun i j=>by unfold idF;split <;> decide
  exact ⟨h.f,hi,hi⟩
theorem LAll.e_le (h:LAll m n N0 F s e t k) (hb:LB m n N0 F):e≤662:=by
 have h1:=h.inv.pot
 have h2:1≤j5 m n s.R:=Lin.yT h.inv.dn
 have h3:N0^20≤2^220:=Nat.le_trans (Nat.pow_le_pow_left hb.nn 20) (by rw [← Nat.pow_mul]; exact Nat.le_refl _)
 have h4:4^e*1≤4^e*j5 m n s.R:=Nat.mul_le_mul_left _ h2
 have h5:3^e*N0^20≤3^e*2^220:=Nat.mul_le_mul_left _ h3
 rw [Nat.mul_one] at h4
 exact AW (q:=220) (Nat.le_trans h4 (Nat.le_trans h1 h5))
theorem LB.p4 (h:LB m n N0 F):(2*N0)^4≤2^48:=Nat.le_trans (Nat.pow_le_pow_left (show 2*N0≤2^12 by have:=h.nn;omega) 4) S
theorem LB.p5 (h:LB m n N0 F):(2*N0)^4+2≤2^49:=by have:=h.p4;omega
theorem tK {x a:Nat} (b:Nat) {c:Nat} (h:x≤2^a) (hc:a*b=c):x^b≤2^c:=by
 subst hc;rw [Nat.pow_mul]; exact Nat.pow_le_pow_left h b
theorem LB.grow (h:LB m n N0 F) {t i:Nat} (ht:t≤1330) (hi:i≤3):(((2*N0)^4+2)^4)^i*(((((2*N0)^4+2)^4)^3)^t*64)≤2^785000:=by
 generalize he:(785000:Nat)=E
 have h1:=tK (a:=49) (c:=196) 4 h.p5 Z
 obtain ⟨a,ha⟩ : ∃ a,a=196:=⟨_,rfl⟩
 rw [← ha] at h1
 generalize ((2*N0)^4+2)^4=DO at *
 have h2:=tK (c:=a*3) 3 h1 Z
 have h3:=tK (c:=a*3*t) t h2 Z
 have h4:=tK (c:=a*i) i h1 Z
 have h5:(DO^3)^t*64≤2^(a*3*t+6):=by rw [Nat.pow_add]; exact Nat.mul_le_mul h3 S
 refine Nat.le_trans (Nat.mul_le_mul h4 h5) ?_
 rw [← Nat.pow_add]
 exact Nat.pow_le_pow_right S (by subst ha;omega)
theorem LAll.bndA (h:LAll m n N0 F s e t k) (hb:LB m n N0 F) (ht:t≤1330):BndL (2^785000) s :=
 h.inv.bnd.mono (by have:=hb.grow ht (Nat.zero_le 3);rwa [Nat.pow_zero,Nat.one_mul] at this)
structure Ph (m n N0:Nat) (F:Nat→Nat→Int) (step k e t:Nat) (s:LS):Prop where
 all:LAll m n N0 F s e t k
 k1:1≤k
 te:t≤2*e+k
 kx:k≤n∨k=1
 p0:step=0→t+1≤2*e+k
 kn:step=1∨step=2∨step=3→k<n
 sh:step=1∨step=3 → ∀ b,b<k→dK m s.R k b
 no:step=2 → ¬ ec m s.R (k - 1)
 yes:step=3→ec m s.R (k - 1)
 p4:step=4→n≤k
 st:step≤4
theorem Ph.start (h:LB m n N0 F) (hd:dZ m F n≠0):Ph m n N0 F 0 1 0 0 ⟨F,idF,idF⟩ :=
 ⟨LAll.start h hd,Nat.le_refl _,by omega, .inr Z,fun _=>by omega,fun h=>by omega,fun h=>by omega,fun h=>by omega,fun h=>by omega,fun h=>by omega,by omega⟩
theorem Ph.fin (h:Ph m n N0 F 0 k e t s) (hk:n≤k):Ph m n N0 F 4 k e t s :=
 ⟨h.all,h.k1,h.te,h.kx,fun h=>by omega,fun h=>by omega,fun h=>by omega,fun h=>by omega,fun h=>by omega,fun _=>hk,by omega⟩
theorem Ph.short (hb:LB m n N0 F) (h:Ph m n N0 F 0 k e t s) (hk:k<n):Ph m n N0 F 1 k e (t+1) (stA m k s k):=by
 obtain ⟨h1,h2⟩:=h.all.inv.short hk hb.n4
 have h3:=h.all.inv.sh hk hb.n4 k (Nat.le_refl k)
 exact ⟨⟨h1,by rw [h3.dz]; exact h.all.vol,y7 hk h.all.vu k (Nat.le_refl k)⟩,h.k1,h.p0 Z,h.kx,fun h=>by omega,fun _=>hk,fun _=>h2,fun h=>by omega,fun h=>by omega,fun h=>by omega,by omega⟩
theorem Ph.bad (h:Ph m n N0 F 1 k e t s) (ho : ¬ ec m s.R (k - 1)):Ph m n N0 F 2 k e t s :=
 ⟨h.all,h.k1,h.te,h.kx,fun h=>by omega,fun _=>h.kn (.inl Z),fun h=>by omega,fun _=>ho,fun h=>by omega,fun h=>by omega,by omega⟩
theorem Ph.good (h:Ph m n N0 F 1 k e t s) (ho:ec m s.R (k - 1)):Ph m n N0 F 3 k e t s :=
 ⟨h.all,h.k1,h.te,h.kx,fun h=>by omega,fun _=>h.kn (.inl Z),fun _=>h.sh (.inl Z),fun h=>by omega,fun _=>ho,fun h=>by omega,by omega⟩
theorem Ph.exch (h:Ph m n N0 F 2 k e t s):Ph m n N0 F 0 (max (k - 1) 1) (e+1) t (exL (k - 1) s):=by
 have hk:=h.kn (.inr (.inl Z))
 have hk1:=h.k1
 have h1:=h.all.inv.ex hk hk1 (h.no Z)
 have hm:k - 1≤max (k - 1) 1:=Nat.le_max_left _ _
 have hm1:1≤max (k - 1) 1:=Nat.le_max_right _ _
 have hm2:max (k - 1) 1≤k:=Nat.max_le.2 ⟨by omega,hk1⟩
 have:=h.te
 refine ⟨⟨h1,?_,h.all.vu.swap' Y Y⟩,hm1,by omega, .inl Y,fun _=>by omega,fun h=>by omega,fun h=>by omega,fun h=>by omega,fun h=>by omega,fun h=>by omega,by omega⟩
 have DS:dZ m s.R (k - 1+2)≠0:=cx h.all.inv.dn Y
 show dZ m (exZ (k - 1) s.R) n=_
 rw [Lin.od DS Y]; exact h.all.vol
theorem Ph.adv (h:Ph m n N0 F 3 k e t s):Ph m n N0 F 0 (k+1) e t s:=by
 have hk:=h.kn (.inr (.inr Z))
 have:=h.te
 exact ⟨⟨h.all.inv.adv (h.sh (.inr Z)) (h.yes Z),h.all.vol,h.all.vu⟩,by omega,by omega, .inl Y,fun _=>by omega,fun h=>by omega,fun h=>by omega,fun h=>by omega,fun h=>by omega,fun h=>by omega,by omega⟩
def phN (step:Nat):Nat:=if step=0 then 3 else if step=1 then 2 else if step=4 then 0 else 1
def phM (n step k e:Nat):Nat:=(663 - e)*8+4*(n+1 - k)+phN step
theorem Ph.t_le {step:Nat} (h:Ph m n N0 F step k e t s) (hb:LB m n N0 F):t≤1328:=by
 have h1:=h.all.e_le hb
 have h2:=h.te
 have h3:=hb.n4
 have h4:=h.kx
 omega
theorem Ph.mex (h:Ph m n N0 F 2 k e t s) (hb:LB m n N0 F):phM n 0 (max (k - 1) 1) (e+1)<phM n 2 k e:=by
 have h1:=h.exch.all.e_le hb
 have h2:=h.kn (.inr (.inl Z))
 have hm:k - 1≤max (k - 1) 1:=Nat.le_max_left _ _
 unfold phM phN
 simp only [if_true,if_pos,Nat.reduceEqDiff,if_false]
 omega
theorem Ph.mad (h:Ph m n N0 F 3 k e t s):phM n 0 (k+1) e<phM n 3 k e:=by
 have h2:=h.kn (.inr (.inr Z))
 unfold phM phN
 simp only [if_true,if_pos,Nat.reduceEqDiff,if_false]
 omega
structure RedOut (m n N:Nat) (F:Nat→Nat→Int) (s:LS):Prop where
 ua:EqP n m s.R s.U F
 uv:jZ n s.U s.V
 vu:jZ n s.V s.U
 dn:dZ m s.R n≠0
 vol:dZ m s.R n=dZ m F n
 nrm : ∀ a,a<n→cO m (s.R a) (s.R a)≤(N:Int)
 red : ∀ a b,a<n→b<a→dK m s.R a b
 ord : ∀ p,p+1<n→ec m s.R p
 f : ∀ i j,(s.R i j).natAbs≤64
 U : ∀ i j,(aL (s.U i j).natAbs).length≤25000
 V : ∀ i j,(aL (s.V i j).natAbs).length≤25000
theorem Ph.out (hb:LB m n N0 F) (h:Ph m n N0 F 4 k e t s):RedOut m n (2*N0) F ⟨kz n m s.R,s.U,s.V⟩:=by
 have hk:=h.p4 Z
 have hc : ∀ a b,a<n→b<m→s.R a b=kz n m s.R a b:=fun a b ha hb=>tI ha hb
 have hd : ∀ {q},q≤n→dZ m (kz n m s.R) q=dZ m s.R q:=fun hq=>(yZ hc hq).symm
 have hl : ∀ {a b},a<n→b<n→lZ m (kz n m s.R) a b=lZ m s.R a b:=fun ha hb=>(y5 hc ha hb).symm
 have hn : ∀ a,a<n→cO m (s.R a) (s.R a)≤((2*N0:Nat):Int):=fun a ha=>by
  have:=h.all.inv.nrm a ha
  rw [← Lin.fu] at this
  exact_mod_cast this
 have ht:t≤1330:=by have:=h.t_le hb;omega
 have hB:=h.all.bndA hb ht
 refine ⟨fun i j hi hj=>(hc i j hi hj).symm.trans (h.all.inv.ua i j hi hj),h.all.inv.uv,h.all.vu,fun e=>h.all.inv.dn ((hd (Nat.le_refl _)).symm.trans e),(hd (Nat.le_refl _)).trans h.all.vol,fun a ha => ?_,fun a b ha hb => ?_,fun p hp => ?_,y6 hn (by have:=hb.nn;omega),fun i j=>gG (hB.u i j) S,fun i j=>gG (hB.v i j) S⟩
 ·show cO m (kz n m s.R a) (kz n m s.R a)≤_
  rw [← pC (fun q hq=>hc a q ha hq) (fun q hq=>hc a q ha hq)]; exact hn a ha
 ·have:=h.all.inv.red a b Y hb
  show dK m (kz n m s.R) a b
  unfold Lin.dK at this ⊢
  rw [hl ha Y,hd Y]; exact this
 ·have:=h.all.inv.ord p Y
  show ec m (kz n m s.R) p
  unfold Lin.ec at this ⊢
  rw [hl Y Y,hd Y,hd Y,hd Y]; exact this
end
end Tor
end
section
namespace Tor
open Go Go.RowKit Go.Proofs
def gJ (n:Nat) (f:Nat→Rat):VT:=slT (.agg 4) n (fun i=>bx (f i))
instance {n:Nat} {f:Nat→Rat} : Flat (gJ n f) .one:=by unfold gJ;infer_instance
def cB (a:Nat→Rat) (n:Nat):Nat:=((List.range' 0 n).find? fun i=>decide (a i≠0)).getD n
theorem qL {a:Nat→Rat} {n i:Nat} (hi:i<n) (h : ∀ q,q<i→a q=0) (h0:a i≠0):cB a n=i:=by
 have:(List.range' 0 n).find? (fun i=>decide (a i≠0))=some i:=by
  rw [List.find?_range'_eq_some]
  refine ⟨by simpa using h0,by rw [List.mem_range'_1]; omega,fun q _ h2=>by simpa using h q h2⟩
 unfold cB;rw [this]; rfl
theorem nO {a:Nat→Rat} {n:Nat} (h : ∀ q,q<n→a q=0):cB a n=n:=by
 have:(List.range' 0 n).find? (fun i=>decide (a i≠0))=none:=by
  rw [List.find?_eq_none]
  intro q hq
  rw [List.mem_range'_1] at hq
  simpa using h q Y
 unfold cB;rw [this]; rfl
theorem mN (a:Nat→Rat) (n:Nat):(cB a n=n ∧ ∀ q,q<n→a q=0)∨(cB a n<n∧a (cB a n)≠0 ∧ ∀ q,q<cB a n→a q=0):=by
 have key : ∀ m,m≤n→(∀ q,q<m→a q=0) ∨ ∃ i,i<m∧a i≠0 ∧ ∀ q,q<i→a q=0:=by
  intro m
  induction m with
  | zero => intro _; exact .inl fun q h => absurd h (Nat.not_lt_zero _)
  | succ m ih =>
   intro hm
   rcases ih Y with h | ⟨i,h1,h2,h3⟩
   ·by_cases h0:a m=0
    ·exact .inl fun q hq=>by
      by_cases e:q=m
      ·rw [e]; exact h0
      ·exact h q Y
    ·exact .inr ⟨m,by omega,h0,h⟩
   ·exact .inr ⟨i,by omega,h2,h3⟩
 rcases key n (Nat.le_refl _) with h | ⟨i,h1,h2,h3⟩
 ·exact .inl ⟨nO h,h⟩
 ·rw [qL h1 h3 h2]; exact .inr ⟨h1,h2,h3⟩
theorem js {a:Nat→Rat} {n:Nat} (h:cB a n<n):a (cB a n)≠0 ∧ ∀ q,q<cB a n→a q=0:=by
 rcases mN a n with ⟨h1,_⟩ | ⟨_,h1⟩
 ·omega
 ·exact h1
def hJ (B:Nat→Nat→Rat) (n:Nat) (a:Nat→Rat):Nat→Nat→Rat
 | 0 => a
 | i + 1 => fun j => hJ B n a i j - hJ B n a i (cB (B i) n) / B i (cB (B i) n) * B i j
def jT (α β:Nat):Nat→Nat
 | 0 => α
 | i + 1 => 2 * jT α β i + 2 * β + 1
theorem xg {α β:Nat} {i k:Nat} (h:i≤k):jT α β i≤jT α β k:=by
  induction k with
  | zero => have : i = 0 := by omega
            subst this;exact Nat.le_refl _
  | succ k ih =>
    by_cases e:i=k+1
    · rw [e]; exact Nat.le_refl _
    · have:=ih Y
      show jT α β i≤2*jT α β k+2*β+1
      omega
theorem uS {α β n:Nat} {B:Nat→Nat→Rat} {a:Nat→Rat} (k:Nat) (ha : ∀ j,qz α (a j)) (hB : ∀ i,i<k→(cB (B i) n<n) ∧ ∀ j,qz β (B i j)) : ∀ i,i≤k → ∀ j,qz (jT α β i) (hJ B n a i j)
 | 0, _, j => ha j
 | i + 1, hi, j => by
  have ih:=uS k ha hB i Y
  obtain ⟨h1,h2⟩:=hB i Y
  have h3:=uJ (ih j) (fe (mA (ih (cB (B i) n)) (h2 (cB (B i) n)) (js h1).1) (h2 j))
  exact h3.mono (by show jT α β i+(jT α β i+β+β)+1≤2*jT α β i+2*β+1;omega)
theorem kA {sv:Option Nat} {T:TypeId} {cap i:Nat} {h:Nat→Rat} {x:Rat} (hx:x=h i):Own.le (aU sv T (.agg 4) cap (i+1) (fun q=>if q<i then bx (h q) else bx x)) (aU sv T (.agg 4) cap (i+1) (fun q=>bx (h q))):=bQ fun q hq=>by
 subst hx
 by_cases c:q<i
 ·rw [if_pos c]
 ·rw [if_neg c,show q=i by omega]
theorem A1 {g0:RH} {sv:Option Nat} {T:TypeId} {L:Lay} {cap n:Nat} {φ:Nat→VT} {g:RH} {h:Hp} (hp:(xO g0 (aU sv T L cap n φ)).p g h) (he:sv=none):n=0:=fN hp.1 he
attribute [local irreducible] J PJ aP one slT cv bA bM exT cq eP aW aU slV VT.le Ret bO xO
attribute [local irreducible] aO bx
theorem kB (n:Nat) (f:Nat→Int) (hn:n≤1048576):Ok Tryz.prog 47 [cu n f] (gJ n (fun i=>(f i:Rat))):=by
 unfold gJ cu
 refine Ok.enter Tryz.func47 Z Tryz.ntmps47 Z (fun w O => ?_)
 refine ae (aj (Ea Z (Ec (aa (ae (aj (kZ (n:=0) Z Z Z Z Z ?_)))))))
 refine PartsK.nil (fun bl => ?_)
 refine Ea Z (Ec (aa (ae (ae (aj (Ea Z (Ec (aa (ar ?_)))))))))
 refine cm (Γ' := [(0,_),(2,_),(3,_),(4,_)]) DT (SubM.refl _) ?_
 refine bw (σ:=Nat × Option Nat × Nat) (Γk := [(0,_),(2,_)]) DT (fun s => [(4,one (.int .i64 (s.1:Nat))),(3,one (slV s.2.1 s.1 s.2.2))]) (fun s M0=>(M0.set 0 (aU s.2.1 45 (.agg 4) s.2.2 s.1 (fun q=>bx (f q:Rat))))) (fun s=>s.1≤n) (fun s=>n - s.1) ((0,some bl,0)) (Nat.zero_le _) DU (.keep (bQ (fun q hq=>absurd hq (Nat.not_lt_zero _))) (.nil)) (fun s hs => ?_)
 refine bN (Γ' := [(4,_),(3,_),(0,_),(2,_)]) (M' := [_]) Z Z ?_
 obtain ⟨i,sv,cap⟩:=s
 dsimp only at hs ⊢
 by_cases hi:i<n
 ·refine ae (ae (aj (DZ Z (DZ Z (DY (aZ Z) (DY (sT Y (a7 Z Z)) (Ec (aa (aG Z ?_)))))))))
  refine av (aa (ae (ar (aj (DZ Z (DZ Z (DZ Z (DY (ax Z Z Y) (DY (aJ Z) ?_)))))))))
  refine DY (am (jO _) Z ⟨H,Ed⟩) ?_
  refine jf Z Z Z Z ?_
  (refine de 0 Z Z Z (leN Z) ?_ ?_ Z (ltN Z) (fun sv19 cap19 => ?_);omega;omega)
  refine Ea Z (Ec (aB (aa (aj (DZ Z (DY (bn _ 1 Z Z Y) (Ea Z (Ec ?_))))))))
  refine aN ((i+1,sv19,cap19)) (hi) Y DU (.keep (kA (h:=fun q=>(f q:Rat)) Z) (.nil))
 ·have he:i=n:=by omega
  subst he
  refine ae (ae (aj (DZ Z (DZ Z (DY (aZ Z) (DY (sF Y (a7 Z Z)) (Ec (aa (az Z ?_)))))))))
  refine aY (aw (aw (aE (aa (ae (aj (DZ Z (Ea Z (Ec ?_)))))))))
  refine aa (aD (cR (t:=2) (i:=0) Z Z ?_))
  refine aK Tryz.results47 (.tmp Z H)
theorem xh (n m:Nat) (a b:Nat→Rat) (c:Rat) (A B C:Nat) (hn:n≤1048576) (hm:n≤m) (ha : ∀ i,i<n→qz A (a i)) (hb : ∀ i,i<n→qz B (b i)) (hc:qz C c) (hz:A+(C+B)+1≤1099511627700) :
  Ok Tryz.prog 126 [gJ n a,gJ m b,bx c] (gJ n (fun i=>a i - c*b i)):=by
 unfold gJ
 refine Ok.enter Tryz.func126 Z Tryz.ntmps126 Z (fun w O => ?_)
 refine ae (aj ?_)
 refine lW Z Z (ltN Z) (fun b5 => ?_)
 refine Ea Z (Ec (aa (ae (aj (kZ (n:=0) Z Z Z Z Z ?_)))))
 refine PartsK.nil (fun bl => ?_)
 refine Ea Z (Ec (aa (ae (ae (aj (Ea Z (Ec (aa (ar ?_)))))))))
 refine cm (Γ' := [(0,_),(1,_),(5,_),(6,_),(7,_),(8,_)]) DT (SubM.refl _) ?_
 refine bw (σ:=Nat × Option Nat × Nat) (Γk := [(0,_),(1,_),(5,_),(6,_)]) DT (fun s => [(8,one (.int .i64 (s.1:Nat))),(7,one (slV s.2.1 s.1 s.2.2))]) (fun s M0=>(M0.set 0 (aU s.2.1 45 (.agg 4) s.2.2 s.1 (fun q=>bx (a q - c*b q))))) (fun s=>s.1≤n) (fun s=>n - s.1) ((0,some bl,0)) (Nat.zero_le _) DU (.keep (bQ (fun q hq=>absurd hq (Nat.not_lt_zero _))) (.keep DX (.nil))) (fun s hs => ?_)
 refine bN (Γ' := [(8,_),(7,_),(0,_),(1,_),(5,_),(6,_)]) (M' := [_,_]) Z Z ?_
 obtain ⟨i,sv,cap⟩:=s
 dsimp only at hs ⊢
 by_cases hi:i<n
 ·have h1:=eJ c (b i) C B hc (hb i hi) Y
  have h2:=pk (a i) (c*b i) A (C+B) (ha i hi) (fe hc (hb i hi)) hz
  refine ae (ae (aj (DZ Z (DZ Z (DY (aZ Z) (DY (sT Y (a7 Z Z)) (Ec (aa (aG Z ?_)))))))))
  refine av (aa (ae (ar (gY 13 aS X S (DZ Z (DZ Z (DZ Z (DY (ax Z Z Y) (DY (aJ Z) ?_)))))))))
  refine DY (ak 1 Z Z Z) (DZ Z (DZ Z (DY (ax Z Z Y) (DY (aJ Z) ?_))))
  refine DY (am (h1) Z ⟨H,H,Ed⟩) ?_
  refine DY (am (h2) Z ⟨H,H,Ed⟩) ?_
  refine jf Z Z Z Z (Ec ?_)
  (refine de 0 Z Z Z (leN Z) ?_ ?_ Z (ltN Z) (fun sv29 cap29 => ?_);omega;omega)
  refine Ea Z (Ec (aB (aa (aj (DZ Z (DY (bn _ 1 Z Z Y) (Ea Z (Ec ?_))))))))
  refine aN ((i+1,sv29,cap29)) (hi) Y DU (.keep (kA (h:=fun q=>a q - c*b q) Z) (.keep DX (.nil)))
 ·have he:i=n:=by omega
  subst he
  refine ae (ae (aj (DZ Z (DZ Z (DY (aZ Z) (DY (sF Y (a7 Z Z)) (Ec (aa (az Z ?_)))))))))
  refine aY (aw (aw (aE (aa (ae (aj (DZ Z (Ea Z (Ec ?_)))))))))
  refine aa (aD (cR (t:=6) (i:=0) Z Z ?_))
  refine aK Tryz.results126 (.tmp Z H)
theorem pD (n m:Nat) (a:Nat→Rat) (hm:m≤1048576) (hn:n≤m):Ok Tryz.prog 91 [gJ m a,one (.int .i64 (n:Nat))] (one (.int .i64 ((cB a n:Nat):Int))):=by
 unfold gJ
 refine Ok.enter Tryz.func91 Z Tryz.ntmps91 Z (fun w O => ?_)
 refine ae (aj (Ea Z (Ec (aa (ae (aj (Ea Z (Ec (aa ?_)))))))))
 refine ae (ar (cm (Γ' := [(0,_),(1,_),(4,_),(5,_)]) DT (SubM.refl _) ?_))
 refine bw (σ:=Nat) (Γk := [(0,_),(1,_),(4,_)]) DT (fun i => [(5,one (.int .i64 (i:Nat)))]) (fun i M0=>M0) (fun i=>i≤n ∧ ∀ q,q<i→a q=0) (fun i=>n - i) (0) (⟨Nat.zero_le _,fun q h=>absurd h (Nat.not_lt_zero _)⟩) DU (.nil) (fun i hi => ?_)
 refine bN (Γ' := [(5,_),(0,_),(1,_),(4,_)]) (M' := []) Z Z ?_
 obtain ⟨hi1,hi2⟩:=hi
 by_cases hi:i<n
 ·have hs:=fM (a i).num
  by_cases h0:a i=0
  ·have hs0:=hs.2 (Rat.num_eq_zero.2 h0)
   refine ae (ae (aj (DZ Z (DZ Z (DY (sT Y (a7 Z Z)) (DZ Z (Eb (ab Z) (Eb (ab Z) (Eb (ax Z Z Y) ?_)))))))))
   refine Eb (aJ Z) ?_
   refine Eb (am (kQ _) Z ⟨H,Ed⟩) ?_
   refine Eb (sT (by assumption) (cn Z Z)) (DY (aV Z Z) (Ec (aa (aG Z (av (aa (ar (aj (DZ Z ?_)))))))))
   refine DY (bn _ 1 Z Z Y) (Ea Z (Ec (aB ?_)))
   refine aN (i+1) (⟨hi,fun q h=>by by_cases h3:q=i;exact h3▸h0;exact hi2 q Y⟩) Y DU (.nil)
  ·have hs0:dQ (a i).num≠0:=fun h=>h0 (Rat.num_eq_zero.1 (hs.1 h))
   rw [qL hi hi2 h0]
   refine ae (ae (aj (DZ Z (DZ Z (DY (sT Y (a7 Z Z)) (DZ Z (Eb (ab Z) (Eb (ab Z) (Eb (ax Z Z Y) ?_)))))))))
   refine Eb (aJ Z) ?_
   refine Eb (am (kQ _) Z ⟨H,Ed⟩) ?_
   refine Eb (sF (by assumption) (cn Z Z)) (DY (aV Z Z) (Ec (aa (az Z (aY (aw (aw (aE (aa ?_)))))))))
   refine ae (aj (DZ Z (Ea Z (Ec (aa (aD ?_))))))
   refine aK Tryz.results91 (.tmp Z H)
 ·rw [nO (fun q h=>hi2 q Y),show n=i by omega]
  refine ae (ae (aj (DZ Z (DZ Z (DY (sF Y (a7 Z Z)) (DZ Z (sn0 Z Z Z Z Z (sn0 Z Z Z Z Z (sn0 Z Z Z Z Z ?_)))))))))
  refine sn0 Z Z Z Z Z (sn0 Z Z Z Z Z (sn0 Z Z Z Z Z (DY (a6 Z Z) (Ec (aa (az Z (aY (aw (aw ?_)))))))))
  refine aE (aa (ae (aj (DZ Z (Ea Z (Ec (aa (aD ?_))))))))
  refine aK Tryz.results91 (.tmp Z H)
theorem rT (n m k:Nat) (a:Nat→Rat) (B:Nat→Nat→Rat) (sv:Option Nat) (cap:Nat) (α β:Nat) (hm:m≤1048576) (hn:n≤m) (hk:k≤1048576) (ha : ∀ j,qz α (a j)) (hB : ∀ i,i<k→(cB (B i) n<n) ∧ ∀ j,qz β (B i j)) (hz:jT α β k≤1099511627700) :
  OkR Tryz.prog 90 [gJ m a,one (slV sv k cap),one (.int .i64 (n:Nat))] [aU sv 31 .one cap k (fun i=>gJ m (B i))] (gJ m (hJ B n a k)):=by
 intro g0
 show OkI _ _ _ [xO g0 (aU sv 31 .one cap k (fun i=>gJ m (B i)))] _ (fun _ => [xO g0 (aU sv 31 .one cap k (fun i=>gJ m (B i)))])
 refine OkI.enter Tryz.func90 Z Tryz.ntmps90 Z (fun w O => ?_)
 refine kG (i:=0) (F:=sv=none→k=0) Z (fun g h hp he=>A1 hp he) (fun hsv => ?_)
 refine ae (aj (Ea Z (Ec (aa (ae (ae (aj (Ea Z (Ec ?_)))))))))
 refine aa (ar (cm (Γ' := [(0,_),(1,_),(2,_),(6,_),(7,_)]) DT (SubM.refl _) ?_))
 refine bw (σ:=Nat) (Γk := [(1,_),(2,_),(6,_)]) DT (fun i => [(7,one (.int .i64 (i:Nat))),(0,gJ m (hJ B n a i))]) (fun i M0=>M0) (fun i=>i≤k) (fun i=>k - i) (0) (Nat.zero_le _) DU (.keep DX (.nil)) (fun i hi => ?_)
 refine bN (Γ' := [(7,_),(0,_),(1,_),(2,_),(6,_)]) (M' := [_]) Z Z ?_
 by_cases hi:i<k
 ·obtain ⟨bs,rfl⟩:=eG hsv Y
  obtain ⟨hf,hq⟩:=hB i hi
  have hf0:=(js hf).1
  have hfi:=pD n m (B i) hm hn
  have hr:=uS k ha hB i Y
  have hm1:jT α β (i+1)≤1099511627700:=Nat.le_trans (xg Y) hz
  have hm2:jT α β (i+1)=2*jT α β i+2*β+1:=rfl
  have ho:=qB (hJ B n a i (cB (B i) n)) (B i (cB (B i) n)) (jT α β i) β (hr _) (hq _) Y hf0
  have hl:=xh m m (hJ B n a i) (B i) (hJ B n a i (cB (B i) n) / B i (cB (B i) n)) (jT α β i) β (jT α β i+β) hm (Nat.le_refl _) (fun j _=>hr j) (fun j _=>hq j) (mA (hr _) (hq _) hf0) Y
  unfold gJ at *
  refine ae (ae (aj (DZ Z (DZ Z (DY (gL Z) (DY (sT Y (a7 Z Z)) (Ec (aa (aG Z ?_)))))))))
  refine av (aa (ae (ar (ae (aj (DZ Z (DZ Z (DY (an Z Z Y) (DY (oN 0 Z Z Y) ?_)))))))))
  refine DZ Z ?_
  refine DY (am (hfi) Z ⟨H,H,Ed⟩) ?_
  refine Ea Z (Ec (aa (aT 18 aS X S (DZ Z (DZ Z (DZ Z (DY (an Z Z Y) (DY (oN 0 Z Z Y) (DZ Z ?_)))))))))
  refine DZ Z (DY (ax Z Z Y) (DY (aJ Z) (DZ Z (DZ Z (DY (an Z Z Y) (DY (oN 0 Z Z Y) (DZ Z (DY (ax Z Z Y) (DY (aJ Z) ?_)))))))))
  refine DY (am (ho) Z ⟨H,H,Ed⟩) ?_
  refine DY (am (hl) Z ⟨H,H,H,Ed⟩) ?_
  refine Ec (Ea Z (Ec (aB (aa (aj (DZ Z (DY (bn _ 1 Z Z Y) (Ea Z (Ec ?_)))))))))
  refine aN (i+1) (hi) Y DU (.keep DX (.nil))
 ·have he:i=k:=by omega
  subst he
  refine ae (ae (aj (DZ Z (DZ Z (DY (gL Z) (DY (sF Y (a7 Z Z)) (Ec (aa (az Z ?_)))))))))
  refine aY (aw (aw (aE (aa (ae (aj (DZ Z (Ea Z (Ec ?_)))))))))
  refine aa (aD ?_)
  exact xU (σ:=Unit) () Tryz.results90 (.tmp Z H) (SubM.refl _)
end Tor
end
section
namespace Tor
open Go Go.RowKit Go.Proofs
abbrev ee (l:List (Nat→Rat)):Nat→Nat→Rat:=fun k=>l.getD k (fun _=>0)
def fR (c:Nat) (F:Nat→Nat→Int):Nat→List Nat × List (Nat→Rat)
 | 0 => ([], [])
 | i + 1 => if cB (hJ (ee (fR c F i).2) c (fun j => (F i j : Rat)) (fR c F i).2.length) c < c then ((fR c F i).1 ++ [i], (fR c F i).2 ++ [hJ (ee (fR c F i).2) c (fun j => (F i j : Rat)) (fR c F i).2.length]) else fR c F i
def ld (α:Nat):Nat→Nat
 | 0 => α
 | k + 1 => jT α (ld α k) k
theorem qM (α k:Nat):ld α k≤ld α (k+1):=by
 show ld α k≤jT α (ld α k) k
 cases k with
 | zero => exact Nat.le_refl _
 | succ k =>
  show ld α (k+1)≤2*jT α (ld α (k+1)) k+2*ld α (k+1)+1
  omega
theorem xi {α i k:Nat} (h:i≤k):ld α i≤ld α k:=by
  induction k with
  | zero => have : i = 0 := by omega
            subst this;exact Nat.le_refl _
  | succ k ih =>
    by_cases e:i=k+1
    · rw [e]; exact Nat.le_refl _
    · exact Nat.le_trans (ih Y) (qM α k)
structure NewI (α c i:Nat) (s:List Nat × List (Nat→Rat)):Prop where
 l1:s.1.length=s.2.length
 l2:s.2.length≤i
 b : ∀ k,k<s.2.length→cB (ee s.2 k) c<c ∧ ∀ j,qz (ld α s.2.length) (ee s.2 k j)
theorem jU {l:List (Nat→Rat)} {r:Nat→Rat} {k:Nat} (h:k<l.length):ee (l ++ [r]) k=ee l k:=by
 unfold ee;simp [List.getD,List.getElem?_append_left h]
theorem jt (l:List (Nat→Rat)) (r:Nat→Rat):ee (l ++ [r]) l.length=r:=by
 unfold ee;simp [List.getD]
theorem y8 {α c:Nat} {F:Nat→Nat→Int} (hF : ∀ i j,lz α (F i j)) (hα:1≤α) : ∀ i,NewI α c i (fR c F i)
 | 0 => ⟨rfl, Nat.zero_le _, fun k h => absurd h (Nat.not_lt_zero _)⟩
 | i + 1 => by
  have ih:=y8 (c:=c) hF hα i
  have hr:=uS (n:=c) (fR c F i).2.length (fun j=>gO (a:=F i j) hα (hF i j)) ih.b (fR c F i).2.length (Nat.le_refl _)
  show NewI α c (i+1) (if _ then _ else fR c F i)
  split
  ·rename_i h
   generalize hJ (ee (fR c F i).2) c (fun j=>(F i j:Rat)) (fR c F i).2.length=r at *
   generalize fR c F i=DQ at *
   refine ⟨by simp [ih.l1],by have:=ih.l2;simp;omega,fun k hk => ?_⟩
   have hl:(DQ.2 ++ [r]).length=DQ.2.length+1:=by simp
   have hk:k<(DQ.2 ++ [r]).length:=hk
   rw [hl] at hk
   show cB (ee (DQ.2 ++ [r]) k) c<c ∧ ∀ j,qz (ld α (DQ.2 ++ [r]).length) (ee (DQ.2 ++ [r]) k j)
   rw [hl]
   by_cases h1:k<DQ.2.length
   ·rw [jU h1]
    exact ⟨(ih.b k h1).1,fun j=>((ih.b k h1).2 j).mono (qM _ _)⟩
   ·rw [show k=DQ.2.length by omega,jt]
    exact ⟨h,hr⟩
  ·exact ⟨ih.l1,by have:=ih.l2;omega,ih.b⟩
theorem y9 {sv:Option Nat} {T:TypeId} {cap:Nat} {l m:List Nat} (h:m=l):Own.le (aU sv T .one cap l.length (tk l)) (aU sv T .one cap m.length (tk m)):=h▸Own.le_refl _
theorem za {sv:Option Nat} {T:TypeId} {cap c:Nat} {l m:List Nat} (h:m=l ++ [c]):Own.le (aU sv T .one cap (l.length+1) (fun q=>if q<l.length then tk l q else one (.int .i64 (c:Nat)))) (aU sv T .one cap m.length (tk m)):=by subst h;exact yD
theorem zc {sv:Option Nat} {T:TypeId} {cap c:Nat} {l m:List (Nat→Rat)} {r:Nat→Rat} (h:m=l ++ [r]):Own.le (aU sv T .one cap (l.length+1) (fun q=>if q<l.length then gJ c (ee l q) else gJ c r)) (aU sv T .one cap m.length (fun q=>gJ c (ee m q))):=by
 subst h
 refine gC (by simp) (fun q hq => ?_)
 by_cases h1:q<l.length
 ·rw [if_pos h1,jU h1]
 ·have:q=l.length:=by omega
  subst this;rw [if_neg h1,jt]
theorem zd {sv:Option Nat} {T:TypeId} {cap c:Nat} {l m:List (Nat→Rat)} (h:m=l):Own.le (aU sv T .one cap l.length (fun q=>gJ c (ee l q))) (aU sv T .one cap m.length (fun q=>gJ c (ee m q))):=h▸Own.le_refl _
attribute [local irreducible] J PJ aP one slT cv bA bM exT cq eP aW aU slV VT.le Ret bO xO
attribute [local irreducible] aO bx gJ cu
theorem ze (r c:Nat) (F:Nat→Nat→Int) (α:Nat) (hr:r≤1024) (hc:c≤1024) (hα:1≤α) (hF : ∀ i j,lz α (F i j)) (hz:ld α r≤1099511627700):Ok Tryz.prog 54 [bG r c F] (DI (fR c F r).1):=by
 unfold bG
 refine Ok.enter Tryz.func54 Z Tryz.ntmps54 Z (fun w O => ?_)
 refine ae (aj ?_)
 refine aM Z Z (ltN Z) (fun b1 => ?_)
 refine Ea Z (Ec (aa (ae (aj (kZ (n:=0) Z Z Z Z Z ?_)))))
 refine PartsK.nil (fun bl => ?_)
 refine kZ (n:=0) Z Z Z Z Z ?_
 refine PartsK.nil (fun bl => ?_)
 refine Ea Z (Ea Z (Ec (aa (ae (ae (aj (Ea Z (Ec (aa ?_)))))))))
 refine ar ?_
 rename_i blo
 generalize hQ:fR c F=Q at *
 have hQ0:Q 0=([], []):=by rw [← hQ]; rfl
 refine cm (Γ' := [(1,_),(2,_),(3,_),(4,_),(5,_)]) DT (SubM.refl _) ?_
 refine bw (σ:=Nat × Option Nat × Nat × Option Nat × Nat) (Γk := [(1,_),(2,_)]) DT (fun s => [(5,one (.int .i64 (s.1:Nat))),(3,one (slV s.2.1 (Q s.1).1.length s.2.2.1)),(4,one (slV s.2.2.2.1 (Q s.1).2.length s.2.2.2.2))]) (fun s M0=>((M0.set 1 (aU s.2.1 3 .one s.2.2.1 (Q s.1).1.length (tk (Q s.1).1))).set 0 (aU s.2.2.2.1 31 .one s.2.2.2.2 (Q s.1).2.length (fun q=>gJ c (ee (Q s.1).2 q))))) (fun s=>s.1≤r) (fun s=>r - s.1) ((0,some blo,0,some bl,0)) (Nat.zero_le _) (by (repeat (first | exact fU.nil | refine fU.cons Z H ?_ | refine fU.cons Z (jD (by dsimp only;rw [hQ0]; rfl)) ?_))) (.keep (gC (by dsimp only;rw [hQ0]; rfl) (fun q hq=>absurd hq (Nat.not_lt_zero _))) (.keep (gC (by dsimp only;rw [hQ0]; rfl) (fun q hq=>absurd hq (Nat.not_lt_zero _))) (.keep DX (.nil)))) (fun s hs => ?_)
 refine bN (Γ' := [(5,_),(3,_),(4,_),(1,_),(2,_)]) (M' := [_,_,_]) Z Z ?_
 obtain ⟨i,svo,capo,svb,capb⟩:=s
 dsimp only at hs ⊢
 have hI:NewI α c i (Q i):=by rw [← hQ]; exact y8 (c:=c) hF hα i
 have hsucc:Q (i+1)=if cB (hJ (ee (Q i).2) c (fun j=>(F i j:Rat)) (Q i).2.length) c<c then ((Q i).1 ++ [i],(Q i).2 ++ [hJ (ee (Q i).2) c (fun j=>(F i j:Rat)) (Q i).2.length]) else Q i:=by rw [← hQ]; rfl
 generalize hS:Q i=DQ at *
 have hl1:=hI.l1
 have hl2:=hI.l2
 by_cases hi:i<r
 ·have hrat:=kB c (F i) Y
  have hz1:ld α (DQ.2.length+1)≤1099511627700:=Nat.le_trans (xi Y) hz
  have hred:=rT c c DQ.2.length (fun j=>(F i j:Rat)) (ee DQ.2) svb capb α (ld α DQ.2.length) Y (Nat.le_refl _) Y (fun j=>gO hα (hF i j)) hI.b hz1
  have hfi:=pD c c (hJ (ee DQ.2) c (fun j=>(F i j:Rat)) DQ.2.length) Y (Nat.le_refl _)
  generalize hJ (ee DQ.2) c (fun j=>(F i j:Rat)) DQ.2.length=R at *
  refine ae (ae (aj (DZ Z (DY (ah Z) (DY (ak 2 Z Z Z) (DY (sT Y (a7 Z Z)) (Ec (aa (aG Z ?_)))))))))
  refine av (aa (ae (ar (ae (aT 10 aS X S (DY (ah Z) (DY (ak 2 Z Z Z) (DZ Z (DY (ax Z Z Y) ?_)))))))))
  refine DY (aJ Z) ?_
  refine DY (am (hrat) Z ⟨H,Ed⟩) ?_
  refine DZ Z (DY (ah Z) (DY (ak 2 Z Z Z) ?_))
  refine DY (Aa (Min := [_]) (Kp := [_,_]) hred Z ⟨H,H,H,Ed⟩ (List.Perm.refl _)) ?_
  by_cases hf:cB R c<c
  ·rw [if_pos hf] at hsucc
   have e1:=congrArg Prod.fst hsucc
   have e2:=congrArg Prod.snd hsucc
   have l1:(Q (i+1)).1.length=DQ.1.length+1:=by rw [e1]; simp
   have l2:(Q (i+1)).2.length=DQ.2.length+1:=by rw [e2]; simp
   refine Ec (Ea Z (Ec (aa (ae (aT 7 aS X S (DZ Z (DY (ah Z) (DY (ak 2 Z Z Z) ?_))))))))
   refine DY (am (hfi) Z ⟨H,H,Ed⟩) ?_
   refine DY (ah Z) (DY (ak 2 Z Z Z) (DY (sT Y (a7 Z Z)) (Ec (Ec (aa (aG Z (ae (aj (DZ Z ?_)))))))))
   refine DZ Z (jf Z Z Z Z ?_)
   (refine de 1 Z Z Z (leN Z) ?_ ?_ Z (ltN Z) (fun sv35 cap35 => ?_);omega;omega)
   refine Ea Z (Ec (aa (aj (DZ Z (DZ Z (jf Z Z Z Z ?_))))))
   (refine de 0 Z Z Z (leN Z) ?_ ?_ Z (ltN Z) (fun sv39 cap39 => ?_);omega;omega)
   refine Ea Z (Ec (aB (aa (aj (DZ Z (DY (bn _ 1 Z Z Y) (Ea Z (Ec ?_))))))))
   refine aN ((i+1,sv35,cap35,sv39,cap39)) (hi) Y (by (repeat (first | exact fU.nil | refine fU.cons Z H ?_ | refine fU.cons Z (jD (by dsimp only;omega)) ?_))) (.keep (zc e2) (.keep (za e1) (.keep DX (.nil))))
  ·rw [if_neg hf] at hsucc
   have e1:=congrArg Prod.fst hsucc
   have e2:=congrArg Prod.snd hsucc
   have l1:=congrArg List.length e1
   have l2:=congrArg List.length e2
   refine Ec (Ea Z (Ec (aa (ae (aT 7 aS X S (DZ Z (DY (ah Z) (DY (ak 2 Z Z Z) ?_))))))))
   refine DY (am (hfi) Z ⟨H,H,Ed⟩) ?_
   refine DY (ah Z) (DY (ak 2 Z Z Z) (DY (sF Y (a7 Z Z)) (Ec (Ec (aa (az Z (av (aB (aa ?_)))))))))
   refine aj (DZ Z (DY (bn _ 1 Z Z Y) (Ea Z (Ec ?_))))
   refine aN ((i+1,svo,capo,svb,capb)) (hi) Y (by (repeat (first | exact fU.nil | refine fU.cons Z H ?_ | refine fU.cons Z (jD (by dsimp only;omega)) ?_))) (.keep (zd e2) (.keep (y9 e1) (.keep DX (.nil))))
 ·have he:i=r:=by omega
  subst he
  rw [hS]
  refine ae (ae (aj (DZ Z (DY (ah Z) (DY (ak 2 Z Z Z) (DY (sF Y (a7 Z Z)) (Ec (aa (az Z ?_)))))))))
  refine aY (aw (aw (aE (aa (ae (aj (DZ Z (Ea Z (Ec ?_)))))))))
  refine aa (aD (cR (t:=2) (i:=1) Z Z ?_))
  refine aK Tryz.results54 (.tmp Z H)
end Tor
end
