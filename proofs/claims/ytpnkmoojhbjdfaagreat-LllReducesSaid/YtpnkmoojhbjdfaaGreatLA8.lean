/-
  Theorems that the proofs of laws of this seat rest on.
  No condition.
-/
import Derived.Test.YtpnkmoojhbjdfaaGreatLA7
set_option maxHeartbeats 8000000
set_option linter.unusedVariables false
set_option linter.unusedSimpArgs false
section
namespace Tor
open Go Go.RowKit Go.Proofs
attribute [local irreducible] J PJ aJ one slT cv bB bL exT cp eP aW aN slV VT.le Ret bK
attribute [local irreducible] aK
theorem oB (p q:Rat) (n m:Nat) (hp:qz n p) (hq:qz m q) (h:n+m+1≤1099511627700):Ok Tryz.prog 32 [bD p,bD q] (one (.int .i64 (eU (p.num*q.den) (q.num*p.den)))):=by
 have m1:=eW hp.1 hq.2
 have m2:=eW hq.1 hp.2
 rw [Nat.add_comm m n] at m2
 have c1:=d8 p.num q.den (hp.1.small Y) (hq.2.small Y)
 have c2:=d8 q.num p.den (hq.1.small Y) (hp.2.small Y)
 have c4:=wM (p.num*q.den) (q.num*p.den) (m1.small Y) (m2.small Y)
 unfold bD fA at *
 refine Ok.enter Tryz.func32 Z Tryz.ntmps32 Z (fun w O => ?_)
 refine ae (aj ?_)
 refine aQ Z Z (ltN Z) (fun b2 => ?_)
 refine aQ Z Z (ltN Z) (fun b3 => ?_)
 refine Cn Z (Cp (aa (ae (a4 11 aU X W (Cl (ai Z) (Cl (ak 1 Z Z Z) (Cl (ai Z) (Cl (ak 0 Z Z Z) ?_))))))))
 refine Cl (am (c1) Z ⟨H,H,Cq⟩) ?_
 refine Cl (ai Z) (Cl (ak 0 Z Z Z) (Cl (ai Z) (Cl (ak 1 Z Z Z) ?_)))
 refine Cl (am (c2) Z ⟨H,H,Cq⟩) ?_
 refine Cl (am (c4) Z ⟨H,H,Cq⟩) ?_
 refine Cp (Cn Z (Cp (aa (aD ?_))))
 refine aO Tryz.results32 (.tmp Z H)
theorem xx (n:Nat) (f g:Nat→Int) (hn:n≤1048576) (hf : ∀ i,dc (f i)) (hg : ∀ i,dc (g i)):Ok Tryz.prog 23 [cH n f,cH n g] (bL [aK (dL n (fun k=>f k*g k)),one (.int .i64 0)]):=by
 unfold cH
 refine Ok.enter Tryz.func23 Z Tryz.ntmps23 Z (fun w O => ?_)
 refine ae (aj ?_)
 refine aP (T:=43) Z (ltN Z) (fun b4 => ?_)
 refine Cn Z (Cp (aa (ae (ae (aj (Cm Z (Cl (aV Z) (Cm Z (Cl (aV Z) ?_)))))))))
 refine Cl (sF Y (c8 Z Z)) (Cp (aa (az Z (aw (aa (ae (aj ?_)))))))
 refine Cl (am (it _ Y Y) Z ⟨H,Cq⟩) ?_
 refine aP (T:=43) Z (ltN Z) (fun b6 => ?_)
 refine aB 0 Z Z Z Z Z (leN Z) Z (Cp (aa (ae (ae (aj (Cn Z (Cp (aa (av ?_)))))))))
 refine cx (Γ' := [(0,_),(1,_),(4,_),(5,_),(6,_),(7,_)]) Cg (SubM.refl _) ?_
 refine bE (σ:=Nat) (Γk := [(0,_),(1,_),(4,_),(5,_),(6,_)]) Cg (fun i => [(7,one (.int .i64 (i:Nat)))]) (fun i M0=>(M0.set 0 (aW b6 43 2 [(0, .agg 2,aK (dL i (fun k=>f k*g k)))]))) (fun i=>i≤n) (fun i=>n - i) (0) (Nat.zero_le _) Ch (.keep Ck (.keep Ck (.nil))) (fun i hi => ?_)
 refine bY (Γ' := [(7,_),(0,_),(1,_),(4,_),(5,_),(6,_)]) (M' := [_,_]) Z Z ?_
 by_cases hin:i<n
 ·have c0:=vk (Nat.le_trans hi hn) (fun k=>wK (hf k) (hg k))
  have c1:=bw (hf i)
  have c2:=bw (hg i)
  have c3:=iI (hf i).L (hg i).L
  refine ae (ae (aj (Cm Z (Cm Z (Cl (aV Z) (Cl (sT Y (a9 Z Z)) (Cp (aa (aI Z ?_)))))))))
  refine aw (aa (ae (av (a4 11 aU X W (Cl (ak 0 Z Z Z) (Cm Z (Cm Z (Cl (ax Z Z Y) (Cl (aG Z) ?_)))))))))
  refine Cm Z (Cm Z (Cl (ax Z Z Y) (Cl (aG Z) ?_)))
  refine Cl (am (d8 _ _ (by assumption) (by assumption)) Z ⟨H,H,Cq⟩) ?_
  refine Cl (am (iH _ _ (by assumption) (by assumption)) Z ⟨H,H,Cq⟩) ?_
  refine Cp (aB 0 Z Z Z Z Z (leN Z) Z (Cp (aA (aa (aj (Cm Z (Cl (bC _ 1 Z Z Y) (Cn Z (Cp ?_)))))))))
  refine aS (i+1) (hin) Y Ch (.keep Ck (.keep Ck (.nil)))
 ·have he:i=n:=by omega
  subst he
  refine ae (ae (aj (Cm Z (Cm Z (Cl (aV Z) (Cl (sF Y (a9 Z Z)) (Cp (aa (az Z ?_)))))))))
  refine aX (au (au (aC (aa (ae (aj (Cl (ak 0 Z Z Z) (aB 1 Z Z Z Z Z (leN Z) Z (Cn Z ?_)))))))))
  refine Cp (aa (aD ?_))
  refine eX Tryz.results23 (.cellB 1 Z Z Z H) (.tmp Z H)
end Tor
end
section
set_option linter.unusedSectionVars false
namespace Tor
open Go Go.RowKit
section
variable {P:Program} {E:Env} {ops:Array Oper} {σ:Type}
def MkO (P:Program) (E:Env) (Γ:Ctx) (M:Mem) (o:Oper) (ψ:σ→VT) (Ms:σ→Mem):Prop :=
 ∀ (a:Act) (w:World),Base E M w→(∀ x φ,x∈o.op.operands→aH Γ x=some φ→φ.p (a.eval x) (hv E M w)) →
  ∀ (next:Act→World→Prop) (Q:Exit→Act→World→Prop),
   (∀ s v w',Ext w w'→(∀ q∈Ms s,q.p (raw w') (hid ((E.O ++ aY M) ++ aY (Ms s)) (cn w')))→(aY (Ms s)).Nodup→(∀ b∈aY (Ms s),w.heap.size≤b∧b<w'.heap.size) →
    (ψ s).p v (hid ((E.O ++ aY M) ++ aY (Ms s)) (cn w'))→next (a.put o.dst v) w')→o.wp P a w next Q
theorem zk {Γ:Ctx} {M:Mem} {f:FuncId} [hF:Fn P f] {xs:Array Operand} {ats:Array TypeId} {φs φs':List VT} {ψ:σ→VT} {Ms:σ→Mem} {d:Option Tmp} {ty:TypeId} {pos:String} {af:Array Edge} {gd:Option (Nat × Bool)} (h:OkM P f φs' ψ Ms) (hx:gY Γ xs.toList=some φs) (hle:iz φs φs') :
  MkO P E Γ M ⟨d, .call ⟨.value (.func f),xs,ats⟩,ty,pos,af,gd⟩ ψ Ms:=by
 intro a w hb hf next Q hn
 have hp:=gZ (a:=a) (h:=hv E M w) hx (fun x φ hx' he=>hf x φ (by simp [Op.operands,Call.operands]; exact .inr (by simpa using hx')) he)
 have hcall:=h w _ _ hb.ex (gh hle hp)
 unfold Oper.wp
 have hr:(execOp a.eval ⟨d, .call ⟨.value (.func f),xs,ats⟩,ty,pos,af,gd⟩).run P w = .ok (.enter f (xs.toList.map a.eval).toArray) w:=by
  have h0:a.eval (.func f) = .func (.func f) #[] #[]:=rfl
  have h9:(xs.map a.eval)=(xs.toList.map a.eval).toArray:=by simp [← Array.toList_map]
  simp [execOp,resolve,Deferred.ofValue,invoke,h0,hF.run,h9]
 rw [hr]
 refine Calls.mono hcall ?_
 rintro e w' ⟨s,v,rfl,hv',hext,hmem,hnd,hbl⟩
 exact hn s v w' hext hmem hnd (fun b h=>⟨(hbl b h).1,(hbl b h).2.1⟩) hv'
theorem pH {Γ:Ctx} {M:Mem} {T:TypeId} {m:Nat} {z:Array Value} {pl:List (Nat × Lay)} [hB:BuildOf P T m z pl] {ψ:σ→VT} {Ms:σ→Mem} {d:Option Tmp} {ty:TypeId} {pos:String} {af:Array Edge} {gd:Option (Nat × Bool)} (g:Nat→σ)
  (h1 : ∀ b, ψ (g b)=one (.pointer (some ⟨b,0,none⟩))) (h2 : ∀ b,Ms (g b) = [aW b T m (de z pl)]) (hz:(pl.all fun q=>(bN q.2 z q.1).isSome)=true) :
  MkO P E Γ M ⟨d, .alloc T,ty,pos,af,gd⟩ ψ Ms:=by
 intro a w hb hf next Q hn
 have hz0:=hB.zero w
 unfold Oper.wp
 have hr:(execOp a.eval ⟨d, .alloc T,ty,pos,af,gd⟩).run P w = .ok (.value (.pointer (some ⟨w.heap.size,0,none⟩))) (w.alloc (.cells z T)):=by
  simp [execOp,Instr.alloc,Sem.run_bind,hz0,newVar,newRow,newObj,Sem.run,Value.cells]
 rw [hr]
 refine hn (g w.heap.size) _ _ (Ext.alloc w _) ?_ ?_ ?_ ?_
 ·rw [h2]; intro q hq
  cases List.mem_singleton.1 hq
  exact ⟨z,bW w _ _ _,hB.zs,hB.zo,kN hz⟩
 ·rw [h2]; simp [aY,aW]
 ·rw [h2]; intro b hb'
  simp [aY,aW] at hb'
  subst hb'
  exact ⟨Nat.le_refl _,eD (bW w _ _ _)⟩
 ·rw [h1]; rfl
inductive OpW (P:Program) (E:Env) (M:Mem) (ops:Array Oper) (mk:List Nat) (ψm:Nat→σ→VT) (Ms:Nat→σ→Mem) (i:Nat) (Γ:(Nat→σ)→Ctx) (o:Oper):((Nat→σ)→Ctx)→Prop
 | pure {d : Nat} {ψ : (Nat → σ) → VT} (ds : List Nat) : mk.elem i = false → (ds.all fun j => iC 6 ops j i) = true → (∀ s s', (∀ j ∈ ds, s j = s' j) → ψ s = ψ s') → (∀ s B, StepG P (E.hide B) (Γ s) M ops o ((d, ψ s) :: Γ s)) → OpW P E M ops mk ψm Ms i Γ o (fun s => (d, ψ s) :: Γ s)
 | make {d : Nat} : mk.elem i = true → o.dst = some d → d < E.N → o.guard = none → (∀ s B, MkO P (E.hide B) (Γ s) M o (ψm i) (Ms i)) → OpW P E M ops mk ψm Ms i Γ o (fun s => (d, ψm i (s i)) :: Γ s)
inductive RunW (P:Program) (E:Env) (M:Mem) (ops:Array Oper) (mk:List Nat) (ψm:Nat→σ→VT) (Ms:Nat→σ→Mem):Nat→((Nat→σ)→Ctx)→List Oper→(((Nat→σ)→Ctx)→Prop)→Prop
 | nil {i Γ K} : K Γ → RunW P E M ops mk ψm Ms i Γ [] K
 | step {i Γ o os K Γ'} : OpW P E M ops mk ψm Ms i Γ o Γ' → RunW P E M ops mk ψm Ms (i + 1) Γ' os K → RunW P E M ops mk ψm Ms i Γ (o :: os) K
theorem RunW.chain {M:Mem} {mk:List Nat} {ψm:Nat→σ→VT} {Ms:Nat→σ→Mem} {i:Nat} {Γ:(Nat→σ)→Ctx} {os:List Oper} {K:((Nat→σ)→Ctx)→Prop} (h:RunW P E M ops mk ψm Ms i Γ os K) :
  ∃ (G:Nat→(Nat→σ)→Ctx),G i=Γ∧K (G (i+os.length)) ∧ ∀ j o,os[j]? = some o→OpW P E M ops mk ψm Ms (i+j) (G (i+j)) o (G (i+j+1)):=by
 induction h with
 | @nil i Γ K hK => exact ⟨fun _ => Γ, rfl, hK, fun j o h => by simp at h⟩
 | @step i Γ o os K Γ' hs _ ih =>
  obtain ⟨G,h0,hK,hG⟩:=ih
  refine ⟨fun j=>if j=i then Γ else G j,by simp,?_,fun j o' hj => ?_⟩
  ·have e1:i+(o :: os).length=i+1+os.length:=by simp only [List.length_cons]; omega
   have e2 : ¬ (i+(o :: os).length=i):=by simp only [List.length_cons]; omega
   simp only [if_neg e2,e1]; rw [e1] at e2;simp only [if_neg e2]; exact hK
  ·cases j with
   | zero =>
    simp only [List.getElem?_cons_zero,Option.some.injEq] at hj;subst hj
    have e : ¬ (i+0+1=i):=by omega
    simp only [Nat.add_zero,if_true] at e ⊢; rw [if_neg e,h0]; exact hs
   | succ j =>
    simp only [List.getElem?_cons_succ] at hj
    have:=hG j o' hj
    have e1 : ¬ (i+(j+1)=i):=by omega
    have e2 : ¬ (i+(j+1)+1=i):=by omega
    simp only [if_neg e1,if_neg e2]
    rw [show i+(j+1)=i+1+j by omega]; exact this
theorem OpW.dst {M:Mem} {mk:List Nat} {ψm:Nat→σ→VT} {Ms:Nat→σ→Mem} {i:Nat} {Γ Γ':(Nat→σ)→Ctx} {o:Oper} (h:OpW P E M ops mk ψm Ms i Γ o Γ') (s0:Nat→σ) : ∃ (d:Nat) (ψ:(Nat→σ)→VT),o.dst=some d∧d<E.N ∧ ∀ s, Γ' s=(d, ψ s) :: Γ s:=by
 cases h with
 | @pure d ψ ds _ _ _ hs =>
  obtain ⟨d', ψ',h1,h2,h3⟩:=(hs s0 []).dst'
  simp only [List.cons.injEq,Prod.mk.injEq,and_true] at h3
  exact ⟨d, ψ,by rw [h1,h3.1],by rw [h3.1]; exact h2,fun s=>rfl⟩
 | @make d _ h1 h2 _ _ => exact ⟨d, fun s => ψm i (s i), h1, h2, fun s => rfl⟩
section
variable {M:Mem} {mk:List Nat} {ψm:Nat→σ→VT} {Ms:Nat→σ→Mem} {G:Nat→(Nat→σ)→Ctx} {n:Nat}
theorem tB (hG : ∀ j o,j<n→ops[j]? = some o→OpW P E M ops mk ψm Ms j (G j) o (G (j+1))) (s:Nat→σ) {t j:Nat} {o:Oper} (hj:j<n) (ho:ops[j]? = some o) (hno:dstOf ops j≠some t):bH (G (j+1) s) t=bH (G j s) t:=by
 obtain ⟨d, ψ,hd,_,hΓ⟩:=(hG j o hj ho).dst s
 rw [hΓ,bp,if_neg]
 intro e;subst e;exact hno (by simp [dstOf,ho,hd])
theorem ix (hG : ∀ j o,j<n→ops[j]? = some o→OpW P E M ops mk ψm Ms j (G j) o (G (j+1))) (hn:n≤ops.size) (s:Nat→σ) {t i k:Nat} (hik:i≤k) (hk:k≤n)
    (hno : ∀ j,i≤j→j<k→dstOf ops j≠some t):bH (G k s) t=bH (G i s) t:=by
  induction k with
  | zero => have : i = 0 := by omega
            subst this;rfl
  | succ k ih =>
    by_cases e:i=k+1
    · subst e;rfl
    · have ho:ops[k]? = some ops[k]:=by simp [show k<ops.size by omega]
      rw [tB hG s Y ho (hno k Y Y)]
      exact ih Y Y (fun j h1 h2=>hno j h1 Y)
theorem xy (hG : ∀ j o,j<n→ops[j]? = some o→OpW P E M ops mk ψm Ms j (G j) o (G (j+1))) (hn:n≤ops.size) {s s':Nat→σ} (h0:G 0 s=G 0 s') {l:Array Bool} (hl:Lst ops l) (hs : ∀ j,l.getD j false=true→s j=s' j) :
  ∀ k,k≤n → ∀ t,(∀ j,j<k→dstOf ops j=some t→l.getD j false=true)→bH (G k s) t=bH (G k s') t
 | 0, _, t, _ => by rw [h0]
 | k + 1, hk, t, hw => by
  have ho:ops[k]? = some ops[k]:=by simp [show k<ops.size by omega]
  have ih:=xy hG hn h0 hl hs k Y t (fun j hj=>hw j Y)
  have hop:=hG k _ Y ho
  obtain ⟨d, ψ,hd,_,hΓ⟩:=hop.dst s
  have hdk:dstOf ops k=some d:=by simp [dstOf,ho,hd]
  rw [hΓ s,hΓ s',bp,bp]
  by_cases e:d=t
  ·rw [if_pos e,if_pos e]
   have hlk:=hw k Y (by rw [hdk,e])
   generalize hX:G (k+1)=Cc at hop hΓ
   generalize hY:G k=Cb at hop hΓ
   cases hop with
   | @pure d' ψ' ds hb hp hψ hst =>
    have e1:=hΓ s
    have e2:=hΓ s'
    simp only [List.cons.injEq,Prod.mk.injEq,and_true] at e1 e2
    rw [← e1.2, ← e2.2,hψ s s' (fun j hj=>hs j (lX hl 6 k hlk j (by have:=List.all_eq_true.1 hp j hj;exact this)))]
   | make hb h1 h2 h3 h4 =>
    have e1:=hΓ s
    have e2:=hΓ s'
    simp only [List.cons.injEq,Prod.mk.injEq,and_true] at e1 e2
    rw [← e1.2, ← e2.2,hs k hlk]
  ·rw [if_neg e,if_neg e]; exact ih
end
theorem si {fq n:Nat} {E':Env} {G G':Nat→Ctx} {M:Mem} {l:Array Bool} {a:Act} {w w':World} {i d:Nat} {v:Value} (hok:eI fq n ops=true) (hl:Lst ops l) (hd:d<a.tmps.size) (hi1:i<ops.size) (hi2:l.getD i false=false) (hdi:dstOf ops i=some d)
  (hbt : ∀ k t,i+1≤k→k≤n→(∀ j,i+1≤j→j<k→dstOf ops j≠some t)→bH (G' k) t=bH (G' (i+1)) t) (hself : ∀ φ,bH (G' (i+1)) d=some φ→φ.p v (hv E' M w'))
  (hag : ∀ k,k≤n → ∀ t,(∀ j,j<k→dstOf ops j=some t→l.getD j false=true)→bH (G' k) t=bH (G k) t) (hle:Hp.le (hv E M w) (hv E' M w')) (hI:Inv E ops n G M l a w) :
  Inv E' ops n G' M (l.setIfInBounds i true) (a.put (some d) v) w':=by
 have hn:n≤ops.size:=by simp only [eI,Bool.and_eq_true] at hok;exact of_decide_eq_true hok.1
 have hls:=hl.size
 have hsame : ∀ j,j≠i→(l.setIfInBounds i true).getD j false=l.getD j false:=fun j hj=>by rw [bv Y,if_neg (fun e=>hj e.symm)]
 have hself':(l.setIfInBounds i true).getD i false=true:=by rw [bv Y,if_pos Z]
 intro k' hk' t φ hlk hlo hhi
 by_cases htd:d=t
 ·subst htd
  have hik:i<k':=by
   rcases Nat.lt_or_ge i k' with h' | h'
   ·exact h'
   ·have:=hhi i h' hi1 hdi;rw [hself'] at this;cases this
  have hno : ∀ j,i+1≤j→j<k'→dstOf ops j≠some d:=by
   intro j h1 h2 hdj
   have h3:=hlo j h2 hdj
   rw [hsame j Y] at h3
   rcases dB hok (i:=i) (j:=j) Y Y with hp | ⟨_,hp⟩
   ·have:=lX hl _ j h3 i hp;rw [this] at hi2;cases hi2
   ·rw [fd hdi hdj] at hp;cases hp
  rw [hbt k' d Y hk' hno] at hlk
  rw [cq hd]; exact hself φ hlk
 ·rw [ck htd]
  have hlo' : ∀ j,j<k'→dstOf ops j=some t→l.getD j false=true:=fun j hj hdj=>by
   have hji:j≠i:=fun e=>by subst e;rw [hdi] at hdj;cases hdj;exact htd Z
   have:=hlo j hj hdj;rwa [hsame j hji] at this
  rw [hag k' hk' t hlo'] at hlk
  refine φ.mono hle (hI k' hk' t φ hlk hlo' (fun j hj hjs hdj => ?_))
  have hji:j≠i:=fun e=>by subst e;rw [hdi] at hdj;cases hdj;exact htd Z
  have:=hhi j hj hjs hdj;rwa [hsame j hji] at this
theorem tC {fq n:Nat} {G:Nat→Ctx} {M:Mem} {l:Array Bool} {a:Act} {w:World} (hI:Inv E ops n G M l a w) (hok:eI fq n ops=true) (hl:Lst ops l)
  {i:Nat} {o:Oper} (hin:i<n) (ho:ops[i]? = some o) (hi2:l.getD i false=false) (hi:i∈Region.ready .any ops l) :
  ∀ t φ,t∈iR ops o→bH (G i) t=some φ→φ.p (a.tmps.getD t undef) (hv E M w):=by
 have hi1:=cU hi
 intro t φ ht hlk
 refine hI i Y t φ hlk (fun j hj hdj => ?_) (fun j hj hjs hdj => ?_)
 ·rcases dB hok hj hi1 with hp | ⟨_,hp⟩
  ·exact rg hl hi hp
  ·rw [eF hdj (by simpa [du,ho] using ht)] at hp;cases hp
 ·rcases Nat.lt_or_ge i j with h' | h'
  ·rw [← Bool.not_eq_true]; intro hlj
   rcases dB hok h' hjs with hp | ⟨_,hp⟩
   ·have:=lX hl _ j hlj i hp;rw [this] at hi2;cases hi2
   ·rw [ei hdj (by simpa [du,ho] using ht)] at hp;cases hp
  ·have:j=i:=by omega
   subst this;exact hi2
theorem tD {fq n:Nat} (hok:eI fq n ops=true) {Q:Exit→Act→World→Prop} (Iv:Array Bool→Act→World→Prop)
  (hstep : ∀ l a w i,Iv l a w→Lst ops l→i<n→l.getD i false=false→i∈Region.ready .any ops l→wpOp P ops Q i (fun a' w'=>Iv (l.setIfInBounds i true) a' w') a w)
  (htail : ∀ l a w,Iv l a w→Lst ops l→(∀ j,j<ops.size→(l.getD j false=true↔j<n))→wpOps P ops Q (List.range' n (ops.size - n)) a w) :
  ∀ (fuel:Nat) (l:Array Bool) (a:Act) (w:World),Lst ops l→left ops l≤fuel→Iv l a w→(∃ i,i<n∧l.getD i false=false)→wpAny P .any ops Q fuel l a w:=by
 have hn:n≤ops.size:=by simp only [eI,Bool.and_eq_true] at hok;exact of_decide_eq_true hok.1
 have tail : ∀ (m:Nat) (fuel:Nat) (l:Array Bool) (k:Nat) (a:Act) (w:World),k+m=ops.size→n≤k→Lst ops l→(∀ j,j<ops.size→(l.getD j false=true↔j<k))→m≤fuel →
   wpOps P ops Q (List.range' k m) a w→wpAny P .any ops Q fuel l a w:=by
  intro m
  induction m with
  | zero =>
   intro fuel l k a w hkm hnk hl hiff _ h
   have hr:Region.ready .any ops l = []:=by
    rw [List.eq_nil_iff_forall_not_mem]
    intro j hj
    have h1:=cU hj
    have h2:=(mem_ready.1 hj).1
    have h3:=(hiff j h1).2 Y
    rw [dT (by have:=hl.size;omega) true false,h3] at h2;cases h2
   have hq:Q .normal a w:=by simpa [wpOps] using h
   cases fuel with
   | zero => exact ⟨hr, hq⟩
   | succ f => exact ⟨fun _ => hq, fun i hi => by rw [hr] at hi; cases hi⟩
  | succ m ih =>
   intro fuel l k a w hkm hnk hl hiff hf h
   obtain ⟨f,rfl⟩ : ∃ f,fuel=f+1:=⟨fuel - 1,by omega⟩
   have hsz:=hl.size
   have hkl:l.getD k false=false:=by
    rw [← Bool.not_eq_true]; intro h';have:=(hiff k Y).1 h';omega
   refine ⟨fun hr => ?_,fun i hi => ?_⟩
   ·obtain ⟨i,hi⟩:=jP hok hsz (j:=k) Y hkl
    rw [hr] at hi;cases hi
   ·have hi1:=cU hi
    have hi2:=(mem_ready.1 hi).1
    rw [dT Y true false] at hi2
    have hik:k≤i:=by
     rcases Nat.lt_or_ge i k with h' | h'
     ·rw [(hiff i hi1).2 h'] at hi2;cases hi2
     ·exact h'
    have:i=k:=by
     rcases Nat.lt_or_ge k i with h' | h'
     ·rcases dB hok h' hi1 with hp | ⟨hp,_⟩
      ·have:=rg hl hi hp;rw [this] at hkl;cases hkl
      ·omega
     ·omega
    subst this
    rw [List.range'_succ,wpOps_cons] at h
    refine wpOp_mono (fun a' w' h' => ?_) h
    refine ih f _ (i+1) a' w' Y Y ⟨by simpa using hsz,?_⟩ ?_ Y h'
    ·intro j hj i' hp
     rw [bv Y] at hj ⊢
     split
     ·rfl
     ·split at hj
      ·rename_i h1;subst h1;exact cz hi hp
      ·exact hl.closed j hj i' hp
    ·intro j hj
     rw [bv Y]
     split
     ·rename_i h1;subst h1;simp
     ·rename_i h1;rw [hiff j hj]; omega
 intro fuel
 induction fuel with
 | zero =>
  intro l a w hl hleft _ ⟨i,hi,hil⟩
  have:=eu (ops:=ops) hl.size (i:=i) Y hil
  omega
 | succ fuel ih =>
  intro l a w hl hleft hI ⟨i0,hi0,hil0⟩
  have hls:=hl.size
  refine ⟨fun hr => ?_,fun i hi => ?_⟩
  ·obtain ⟨i,hi⟩:=jP hok hls (j:=i0) Y hil0
   rw [hr] at hi;cases hi
  ·have hi1:=cU hi
   have hi2:l.getD i false=false:=by
    have:=(mem_ready.1 hi).1
    rw [dT Y true false] at this;exact this
   have hin:i<n:=by
    rcases Nat.lt_or_ge i n with h' | h'
    ·exact h'
    ·rcases dB hok (i:=i0) (j:=i) Y hi1 with hp | ⟨hp,_⟩
     ·have:=rg hl hi hp;rw [this] at hil0;cases hil0
     ·omega
   refine wpOp_mono (fun a' w' h' => ?_) (hstep l a w i hI hl hin hi2 hi)
   have hl':Lst ops (l.setIfInBounds i true):=by
    refine ⟨by simpa using hls,fun j hj i' hp => ?_⟩
    rw [bv Y] at hj ⊢
    split
    ·rfl
    ·split at hj
     ·rename_i h1;subst h1;exact cz hi hp
     ·exact hl.closed j hj i' hp
   have hleft':=eu (ops:=ops) hls hi1 hi2
   by_cases hmore : ∃ i',i'<n∧(l.setIfInBounds i true).getD i' false=false
   ·exact ih _ _ _ hl' Y h' hmore
   ·have hall : ∀ j,j<n→(l.setIfInBounds i true).getD j false=true:=by
     intro j hj;rw [← Bool.not_eq_false]; intro h;exact hmore ⟨j,hj,h⟩
    have hlate : ∀ j,n≤j→j<ops.size→(l.setIfInBounds i true).getD j false=false:=by
     intro j hj hjs
     rw [bv Y,if_neg Y, ← Bool.not_eq_true]
     intro hlj
     rcases dB hok (i:=i) (j:=j) Y hjs with hp | ⟨hp,_⟩
     ·have:=lX hl _ j hlj i hp;rw [this] at hi2;cases hi2
     ·omega
    have hiff : ∀ j,j<ops.size→((l.setIfInBounds i true).getD j false=true↔j<n):=fun j hj=>by
     constructor
     ·intro h;rcases Nat.lt_or_ge j n with h' | h'
      ·exact h'
      ·rw [hlate j h' hj] at h;cases h
     ·exact hall j
    refine tail (ops.size - n) fuel _ n _ w' Y (Nat.le_refl _) hl' hiff ?_ (htail _ _ _ h' hl' hiff)
    have:ops.size - n≤left ops (l.setIfInBounds i true):=by
     unfold left
     have h1:(List.range' n (ops.size - n)).Sublist ((List.range ops.size).filter fun i' => !(l.setIfInBounds i true).getD i' false):=by
      have h2:((List.range' n (ops.size - n)).filter fun i' => !(l.setIfInBounds i true).getD i' false)=List.range' n (ops.size - n):=by
       rw [List.filter_eq_self]
       intro j hj;rw [List.mem_range'_1] at hj
       rw [hlate j Y Y]; rfl
      rw [← h2]
      refine List.Sublist.filter _ ?_
      have h3:List.range ops.size=List.range' 0 n ++ List.range' n (ops.size - n):=by
       have := @List.range'_append 0 n (ops.size - n) 1
       rw [List.range_eq_range']
       simp only [Nat.one_mul,Nat.zero_add] at this
       rw [this]; congr 1;omega
      rw [h3]; exact List.sublist_append_right _ _
     have:=h1.length_le;simpa using this
    omega
def gW (Ms:Nat→σ→Mem) (s:Nat→σ) (ord:List Nat):Mem:=ord.flatMap fun j=>Ms j (s j)
theorem ms {Ms:Nat→σ→Mem} {s:Nat→σ} {j:Nat} {ord:List Nat} : gW Ms s (j :: ord)=Ms j (s j) ++ gW Ms s ord:=rfl
theorem oC {Ms:Nat→σ→Mem} {s s':Nat→σ} : ∀ {ord:List Nat},(∀ j∈ord,s j=s' j)→gW Ms s ord=gW Ms s' ord
 | [], _ => rfl
 | j :: ord, h => by rw [ms, ms, h j List.mem_cons_self, oC (fun k hk => h k (List.mem_cons_of_mem _ hk))]
structure IvW (E:Env) (D:List Deferred) (M:Mem) (ops:Array Oper) (n:Nat) (mk:List Nat) (Ms:Nat→σ→Mem) (G:Nat→(Nat→σ)→Ctx) (s:Nat→σ) (ord:List Nat) (l:Array Bool) (a:Act) (w:World):Prop where
 sz:a.tmps.size=E.N
 df:a.defers=D
 nd:ord.Nodup
 mem : ∀ j,j∈ord↔(j∈mk∧l.getD j false=true)
 base:Base E (gW Ms s ord ++ M) w
 inv:Inv (E.hide (aY (gW Ms s ord))) ops n (fun k=>G k s) M l a w
theorem oD {D:List Deferred} {Γ:Ctx} {M:Mem} {id:Nat} {Q:Exit→Act→World→Prop} (fq n:Nat) (mk:List Nat) (s0:σ) (ψm:Nat→σ→VT) (Ms:Nat→σ→Mem) (hm:P.follows .mixedOrders=true) (hok:eI fq n ops=true) (hn0:0<n) (hmk:(mk.all fun j=>decide (j<n))=true) (hmd:mk.Nodup)
  (h:RunW P E M ops mk ψm Ms 0 (fun _=>Γ) (ops.toList.take n) (fun Γ' => ∀ s,Run P E ops false n D (Γ' s) (gW Ms s mk ++ M) (ops.toList.drop n) (fun D' Γ' M'=>PJ E D' Γ' M' .normal Q))):J P E D Γ M (.region id ops true) Q:=by
 intro a w hS
 have hn:n≤ops.size:=by simp only [eI,Bool.and_eq_true] at hok;exact of_decide_eq_true hok.1
 refine ej hm ?_
 have k0:Ext w { w with drawn:=w.drawn+1 } := ⟨rfl,rfl,rfl,Nat.le_refl _,fun _ _=>rfl⟩
 obtain ⟨G,hG0,hK,hG'⟩:=h.chain
 have hlen:(ops.toList.take n).length=n:=by simp [hn]
 rw [hlen,Nat.zero_add] at hK
 have hG : ∀ j o,j<n→ops[j]? = some o→OpW P E M ops mk ψm Ms j (G j) o (G (j+1)):=fun j o hj ho=>by
  have:=hG' j o (by rw [List.getElem?_take,if_pos hj]; simpa using ho)
  simpa using this
 have hl0 : ∀ j,(Array.replicate ops.size false).getD j false=false:=fun j=>by
  simp [Array.getD_eq_getD_getElem?,Array.getElem?_replicate]; split <;> rfl
 refine tD hok (fun l a' w' => ∃ s ord,IvW E D M ops n mk Ms G s ord l a' w') ?_ ?_ ops.size _ a _ ⟨by simp,fun j hj => ?_⟩ ?_ ⟨fun _=>s0, [],hS.sz,hS.df,List.nodup_nil,fun j => ?_,?_,?_⟩ ⟨0,hn0,hl0 0⟩
 ·rintro l a' w' i ⟨s,ord,hI⟩ hl hin hi2 hi
  have hi1:=cU hi
  have hls:=hl.size
  have ho:ops[i]? = some ops[i]:=by simp [hi1]
  have hsame : ∀ j,j≠i→(l.setIfInBounds i true).getD j false=l.getD j false:=fun j hj=>by rw [bv Y,if_neg (fun e=>hj e.symm)]
  have hself:(l.setIfInBounds i true).getD i false=true:=by rw [bv Y,if_pos Z]
  have hnm:=tC hI.inv hok hl hin ho hi2 hi
  generalize hX:G (i+1)=Cc
  generalize hY:G i=Cb at hnm
  have hop:=hG i _ hin ho
  have hX2:=hX
  rw [hX,hY] at hop
  cases hop with
  | @pure d ψ ds hb hp hψ hst =>
   obtain ⟨d', ψ',hd,hN,hΓ,hrun⟩:=(hst s (aY (gW Ms s ord))).run ho
   simp only [List.cons.injEq,Prod.mk.injEq,and_true] at hΓ
   obtain ⟨e1,e2⟩:=hΓ
   subst e1 e2
   have hdi:dstOf ops i=some d:=by simp [dstOf,ho,hd]
   refine hrun a' w' hI.base.swap hnm _ _ fun v w'' k hv'=>⟨s,ord,by simp [Act.put,hI.sz],hI.df,hI.nd,fun j => ?_,hI.base.ext k,?_⟩
   ·rw [hI.mem j]
    by_cases e:j=i
    ·subst e
     constructor
     ·rintro ⟨_,h2⟩;rw [h2] at hi2;cases hi2
     ·rintro ⟨h1,_⟩;rw [List.elem_eq_true_of_mem h1] at hb;cases hb
    ·rw [hsame j e]
   ·refine si (G:=fun k=>G k s) hok hl (by rw [hI.sz]; exact hN) hi1 hi2 hdi (fun k t h1 h2 h3=>ix hG hn s h1 h2 h3) (fun φ hlk => ?_) (fun _ _ _ _=>rfl) (Base.hv_ext k) hI.inv
    have hlk:bH (G (i+1) s) d=some φ:=hlk
    rw [hX2,bp,if_pos Z] at hlk
    cases hlk;exact hv'
  | @make d hb hd hN hg hmkO =>
   have hdi:dstOf ops i=some d:=by simp [dstOf,ho,hd]
   have hB:=hI.base.swap
   have hpo : ∀ x φ,x∈(ops[i]).op.operands→aH (Cb s) x=some φ→φ.p (a'.eval x) (hv (E.hide (aY (gW Ms s ord))) M w'):=fun x φ hx he=>by
    cases x with
    | tmp t => exact hnm t φ (List.mem_append.2 (.inl (List.mem_filterMap.2 ⟨.tmp t, by simpa using hx, rfl⟩))) he
    | const v => cases he; rfl
    | global g => cases he; rfl
    | func f => cases he; rfl
   simp only [wpOp,ho,dj (o:=ops[i]) hg,if_true]
   refine .inl (hmkO s (aY (gW Ms s ord)) a' w' hB hpo _ _ fun x v w'' hext hmem hnd hbl hv' => ?_)
   have hni:i ∉ ord:=fun h=>by rw [((hI.mem i).1 h).2] at hi2;cases hi2
   have hs' : ∀ j∈ord,s j=(fun j=>if j=i then x else s j) j:=fun j hj=>by
    have:j≠i:=fun e=>hni (e▸hj)
    simp [this]
   have hcg:=oC (Ms:=Ms) hs'
   have hS0:St E D [] (gW Ms s ord ++ M) a' w':=⟨hI.base,hI.sz,hI.df,fun t φ h=>by cases h⟩
   have ehid : ∀ Cd:World,hid (((E.hide (aY (gW Ms s ord))).O ++ aY M) ++ aY (Ms i x)) (cn Cd)=hid ((E.O ++ aY (gW Ms s ord ++ M)) ++ aY (Ms i x)) (cn Cd):=fun Cd=>by
    unfold Env.hide;rw [bf, ← List.append_assoc]
   have hS1:=hS0.take hext (fun q hq=>by rw [← ehid]; exact hmem q hq) hnd hbl hN (by rw [← ehid]; exact hv')
   rw [hd]
   have e5:gW Ms (fun j=>if j=i then x else s j) (i :: ord)=Ms i x ++ gW Ms s ord:=by
    rw [ms, ← hcg]; simp
   refine ⟨fun j=>if j=i then x else s j,i :: ord,by simp [Act.put,hI.sz],hI.df,List.nodup_cons.2 ⟨hni,hI.nd⟩,fun j => ?_,?_,?_⟩
   ·rw [List.mem_cons,hI.mem j]
    by_cases e:j=i
    ·subst e
     exact ⟨fun _=>⟨by simpa using hb,hself⟩,fun _ => .inl Z⟩
    ·rw [hsame j e]
     exact ⟨fun h=>h.resolve_left e, .inr⟩
   ·rw [e5,List.append_assoc]; exact hS1.base
   ·rw [e5]
    have hle2:Hp.le (hv (E.hide (aY (gW Ms s ord))) M w') (hv (E.hide (aY (Ms i x ++ gW Ms s ord))) M w''):=by
     rw [ia,ia]
     intro b y e
     obtain ⟨g1,g2⟩:=fm e
     refine iQ ?_ (hext.view _ _ g2)
     intro h
     have hlt:=eD g2
     rw [List.append_assoc,bf] at h
     rcases List.mem_append.1 h with h | h
     ·exact g1 (List.mem_append.2 (.inl h))
     ·rcases List.mem_append.1 h with h | h
      ·have:=(hbl b h).1;omega
      ·exact g1 (List.mem_append.2 (.inr h))
    refine si (G:=fun k=>G k s) hok hl (by rw [hI.sz]; exact hN) hi1 hi2 hdi (fun k t h1 h2 h3=>ix hG hn _ h1 h2 h3) (fun φ hlk => ?_) (fun k hk t hw=>xy hG hn (by rw [hG0]) hl (fun j hj => ?_) k hk t hw) hle2 hI.inv
    ·have hlk:bH (G (i+1) (fun j=>if j=i then x else s j)) d=some φ:=hlk
     rw [hX2,bp,if_pos Z] at hlk
     cases hlk
     have:=hS1.tm d (ψm i x) (by rw [bp,if_pos Z])
     rw [cq (by rw [hI.sz]; exact hN)] at this
     rw [ia,List.append_assoc]
     simpa using this
    ·have:j≠i:=fun e=>by rw [e,hi2] at hj;cases hj
     simp [this]
 ·rintro l a' w' ⟨s,ord,hI⟩ hl hiff
  have hpm:ord.Perm mk:=(List.perm_ext_iff_of_nodup hI.nd hmd).2 fun j=>by
   rw [hI.mem j]
   refine ⟨fun h=>h.1,fun h=>⟨h,?_⟩⟩
   have hj:j<n:=of_decide_eq_true (List.all_eq_true.1 hmk j h)
   exact (hiff j Y).2 hj
  have hpM:(gW Ms s ord ++ M).Perm (gW Ms s mk ++ M):=(hpm.flatMap_right _).append_right M
  have hSt:St E D (G n s) (gW Ms s ord ++ M) a' w':=⟨hI.base,hI.sz,hI.df,fun t φ hlk=>by
   have:=hI.inv n (Nat.le_refl _) t φ hlk (fun j hj _=>(hiff j Y).2 hj) (fun j hj hjs _=>by
    rw [← Bool.not_eq_true]; intro h;have:=(hiff j hjs).1 h;omega)
   rwa [ia] at this⟩
  have:=(hK s).seq (nrm Q) [] (fun j _=>by simp [List.getElem?_drop]) (fun D' Γ' M' a w hK hS=>by simpa [wpOps] using hK a w hS) a' w' (g9 hpM hSt)
  simpa using this
 ·rw [hl0] at hj;cases hj
 ·unfold left;refine Nat.le_trans (List.length_filter_le _ _) (by simp)
 ·simp [hl0]
 ·exact hS.base.ext k0
 ·have e0:E.hide (aY (gW Ms (fun _=>s0) []))=E:=by cases E;simp [Env.hide,gW,aY]
  rw [e0]
  intro k' hk' t φ hlk hlo _
  have hno : ∀ j,0≤j→j<k'→dstOf ops j≠some t:=by
   intro j _ hj hd
   have:=hlo j hj hd
   rw [hl0] at this;cases this
  have hlk:bH (G k' (fun _=>s0)) t=some φ:=hlk
  rw [ix hG hn (fun _=>s0) (Nat.zero_le _) hk' hno,hG0] at hlk
  exact φ.mono (Base.hv_ext k0) (hS.tm t φ hlk)
section
variable {M:Mem} {mk:List Nat} {ψm:Nat→σ→VT} {Ms:Nat→σ→Mem} {i:Nat} {Γ:(Nat→σ)→Ctx} {os:List Oper} {K:((Nat→σ)→Ctx)→Prop} {op:Op} {ty:TypeId} {pos:String} {af:Array Edge}
theorem kx {d:Nat} {ψ:VT} (hi:mk.elem i=false) (h : ∀ s B,aJ P (E.hide B) (Γ s) M ⟨some d,op,ty,pos,af,none⟩ ψ) (hd:Nat.ble (d+1) E.N=true) (hr:RunW P E M ops mk ψm Ms (i+1) (fun s=>(d, ψ) :: Γ s) os K) :
  RunW P E M ops mk ψm Ms i Γ (⟨some d,op,ty,pos,af,none⟩ :: os) K := .step (.pure (ψ:=fun _=>ψ) [] hi Z (fun _ _ _=>rfl) (fun s B => .plain (h s B) Z Z (Nat.le_of_ble_eq_true hd))) hr
theorem kd {d:Nat} {ψ:(Nat→σ)→VT} (ds:List Nat) (hi:mk.elem i=false) (hp:(ds.all fun j=>iC 6 ops j i)=true) (hψ : ∀ s s',(∀ j∈ds,s j=s' j)→ψ s=ψ s') (h : ∀ s B,aJ P (E.hide B) (Γ s) M ⟨some d,op,ty,pos,af,none⟩ (ψ s)) (hd:Nat.ble (d+1) E.N=true) (hr:RunW P E M ops mk ψm Ms (i+1) (fun s=>(d, ψ s) :: Γ s) os K) :
  RunW P E M ops mk ψm Ms i Γ (⟨some d,op,ty,pos,af,none⟩ :: os) K := .step (.pure ds hi hp hψ (fun s B => .plain (h s B) Z Z (Nat.le_of_ble_eq_true hd))) hr
theorem kc {d:Nat} (hi:mk.elem i=true) (h : ∀ s B,MkO P (E.hide B) (Γ s) M ⟨some d,op,ty,pos,af,none⟩ (ψm i) (Ms i)) (hd:Nat.ble (d+1) E.N=true)
  (hr:RunW P E M ops mk ψm Ms (i+1) (fun s=>(d, ψm i (s i)) :: Γ s) os K):RunW P E M ops mk ψm Ms i Γ (⟨some d,op,ty,pos,af,none⟩ :: os) K := .step (.make hi Z (Nat.le_of_ble_eq_true hd) Z h) hr
end
end
end Tor
end
section
set_option linter.unusedSectionVars false
namespace Tor
open Go Go.RowKit
section
variable {P:Program} {E:Env} {Γ:Ctx} {M:Mem} {σ:Type} {ψ:σ→VT} {Ms:σ→Mem} {d:Option Tmp} {ty:TypeId} {pos:String} {af:Array Edge}
theorem qR {w:World} {c:Array Value} {T:TypeId} : Hp.le (hv E M w) (hid ((E.O ++ aY M) ++ [w.heap.size]) (cn (w.alloc (.cells c T)))):=by
 intro b y e
 obtain ⟨g1,g2⟩:=fm e
 refine iQ ?_ ((Ext.alloc w _).view _ _ g2)
 intro h
 rcases List.mem_append.1 h with h | h
 ·exact g1 h
 ·have h1:=List.mem_singleton.1 h
  have h2:=eD g2
  omega
theorem gr {T e:TypeId} {z:Value} {by':Nat} {L:Lay} {x y:Operand} [hS:SliceOf P T e] [hL:LayOf P e L] [hZ:ZeroOf P e z by'] [hF:Flat (one z) L] (n:Nat) (g:Nat→σ) (hx:aH Γ x=some (one (.int .i64 (n:Nat)))) (hy:aH Γ y=some (one (.int .i64 (n:Nat))))
  (h1 : ∀ b, ψ (g b)=one (slV (some b) n n)) (h2 : ∀ b,Ms (g b) = [aN (some b) e L n n (fun _=>one z)]) (hb0:Nat.ble 1 by'=true) (hz0:Nat.ble 1 L.sz=true) (hn:by'*n≤2^48) :
  MkO P E Γ M ⟨d, .makeSlice T x y,ty,pos,af,none⟩ ψ Ms:=by
 intro a w hb hf next Q hne
 have hb0:=Nat.le_of_ble_eq_true hb0
 have hz0:=Nat.le_of_ble_eq_true hz0
 have hx':a.eval x = .int .i64 (n:Nat):=hf x _ (by simp [Op.operands]) hx
 have hy':a.eval y = .int .i64 (n:Nat):=hf y _ (by simp [Op.operands]) hy
 obtain ⟨f1,f2,f3⟩:=hF.ok z (fun _=>none) Z
 have hn48:n≤2^48:=by
  have:n≤by'*n:=Nat.le_mul_of_pos_left n hb0
  omega
 unfold Oper.wp
 have hr:(execOp a.eval ⟨d, .makeSlice T x y,ty,pos,af,none⟩).run P w = .ok (.value (slV (some w.heap.size) n n)) (w.alloc (.cells (d9 z.cells (n*L.sz)) e)):=by
  simp only [execOp,hx',hy',Sem.run_bind,im hb0 (Nat.le_refl n) hn,Result.andThen_ok,Sem.run_pure]
 rw [hr]
 refine hne (g w.heap.size) _ _ (Ext.alloc w _) ?_ ?_ ?_ ?_
 ·rw [h2]; intro q hq
  cases List.mem_singleton.1 hq
  refine ⟨Nat.le_refl n,by omega,(fun h=>by cases h),fun b hb => ?_⟩
  cases hb
  exact ⟨_,bW w _ _ _,eH _ _,fun q hq=>⟨z,ks f1 f3 Y hz0,rfl⟩⟩
 ·rw [h2]; simp [aY,aN]
 ·rw [h2]; intro b hb'
  simp [aY,aN] at hb'
  subst hb'
  exact ⟨Nat.le_refl _,eD (bW w _ _ _)⟩
 ·rw [h1]; rfl
theorem jF {T e:TypeId} {L:Lay} {z:Value} {by':Nat} [hS:SliceOf P T e] [hL:LayOf P e L] [hZ:ZeroOf P e z by'] [hFz:Flat (one z) L] {x:Operand} {φ:VT} [hFl:Flat φ L] (g:Nat→σ) (hx:aH Γ x=some φ)
  (h1 : ∀ b, ψ (g b)=one (slV (some b) 1 1)) (h2 : ∀ b,Ms (g b) = [aN (some b) e L 1 1 (fun _=>φ)]) (hsm:Nat.ble L.sz 16777216=true) (hsz:Nat.ble 1 L.sz=true) :
  MkO P E Γ M ⟨d, .buildSlice T 1 #[(0,x)],ty,pos,af,none⟩ ψ Ms:=by
 intro a w hb hf next Q hne
 have hsm:=Nat.le_of_ble_eq_true hsm
 have hsz:=Nat.le_of_ble_eq_true hsz
 obtain ⟨z1,_,_⟩:=hFz.ok z (fun _=>none) Z
 have hp:PartsOk Γ L 0 #[(0,x)].toList [φ] := .cons hx .nil
 obtain ⟨c',k1,k2,_,k4⟩:=kt (a:=a) (h:=hv E M w) (m:=1*L.sz) hp (d9 z.cells (1*L.sz)) (fun y φ hy he=>hf y φ (by simpa [Op.operands] using hy) he) (eH _ _) (by simp)
 have hr':=gD (P:=P) (T:=T) (e:=e) (L:=L) (z:=z) (by':=by') (n:=1) (c':=c') (w:=w) (parts := #[(0,x)].map fun (i,x)=>(i,a.eval x)) Y z1 (by rw [Array.toList_map]; exact k1)
 unfold Oper.wp
 have hr:(execOp a.eval ⟨d, .buildSlice T 1 #[(0,x)],ty,pos,af,none⟩).run P w = .ok (.value (slV (some w.heap.size) 1 1)) (w.alloc (.cells c' e)):=by
  simp only [execOp,Sem.run_bind,hr',Result.andThen_ok,Sem.run_pure]; rfl
 rw [hr]
 refine hne (g w.heap.size) _ _ (Ext.alloc w _) ?_ ?_ ?_ ?_
 ·rw [h2]; intro q hq
  cases List.mem_singleton.1 hq
  refine ⟨Nat.le_refl 1,by decide,(fun h=>by cases h),fun b hb => ?_⟩
  cases hb
  refine ⟨c',bW w _ _ _,k2,fun q hq => ?_⟩
  obtain ⟨v,hv1,hv2⟩:=k4 q φ (by rw [show q=0 by omega]; rfl)
  refine ⟨v,by simpa using hv1, φ.mono ?_ hv2⟩
  have hl:aY [aN (some w.heap.size) e L 1 1 (fun _=>φ)] = [w.heap.size]:=rfl
  rw [hl]; exact qR
 ·rw [h2]; simp [aY,aN]
 ·rw [h2]; intro b hb'
  simp [aY,aN] at hb'
  subst hb'
  exact ⟨Nat.le_refl _,eD (bW w _ _ _)⟩
 ·rw [h1]; rfl
theorem zV {w0:World} {O:List Nat} {N:Nat} {fn:Func} {r r':ResultVar} {ψ ψ':σ→VT} (s:σ) (hr:fn.results = #[r,r']) (h:ResOk P Γ M r (ψ s)) (h':ResOk P Γ M r' (ψ' s)) (hm:SubM M (Ms s)) :
  PJ ⟨w0,O, [],N,none⟩ [] Γ M .ret (bodyPost P fn (v5 O (fun s=>bL [ψ s, ψ' s]) Ms w0)):=by
 intro a w hS
 obtain ⟨v,h1,h2⟩:=h.run hS
 obtain ⟨v',h1',h2'⟩:=h'.run hS
 have hB:=hS.base.sub hm
 refine ⟨hS.df, .tuple #[v,v'],?_,s,_,rfl,(bL [ψ s, ψ' s]).mono (kr fun b hb=>hm.sub.subset hb) ⟨[v,v'],rfl,h2,h2',Cq⟩,hS.ret,hB.mem,hB.nd,fun b hb=>⟨?_,hB.ex b (List.mem_append.2 (.inr hb)),hB.dis b hb⟩⟩
 ·have hm:(fn.results.mapM (nv a.tmps)).run P w = .ok #[v,v'] w:=by rw [hr]; simp [h1,h1',Result.andThen_ok]
  rw [fc,Sem.run_bind,hm]; rfl
 ·rcases hB.lo b hb with h | h
  ·exact h
  ·cases h
theorem gU {T T':TypeId} {L:Lay} [LayOf P T L] {x:Operand} {b j n cap lim:Nat} {A:Nat→VT} {Ca:VT} {gd:Option (Nat × Bool)} (k:Nat) (hx:aH Γ x=some (eP b j L.sz)) (hM:M[k]? = some (aN (some b) T' L cap n (fun q=>if q<lim then A q else Ca))) (hj:j<n) (hl:j<lim) :
  aJ P E Γ M ⟨d, .load T x,ty,pos,af,gd⟩ (A j) :=
 (bn k hx hM hj).le (by show VT.le (if j<lim then A j else Ca) (A j);rw [if_pos hl]; exact VT.le_refl _)
def tE (Ms:Mem):List VT→List VT→Prop
 | [], [] => True
 | φ :: l, φ' :: l' => Ent Ms φ φ' ∧ tE Ms l l'
 | _, _ => False
theorem sj {Ms:Mem} {g:RH} {h h':Hp} (ho:Opn Ms g h h') : ∀ {l l':List VT} {vs:List Value},tE Ms l l'→gf l vs h→gf l' vs h'
 | [], [], [], _, _ => trivial
 | _ :: _, _ :: _, _ :: _, ⟨h1, h2⟩, ⟨k1, k2⟩ => ⟨h1 g h h' _ ho k1, sj ho h2 k2⟩
theorem Ok.lend {f:FuncId} {φs φs':List VT} {χ:VT} {Mi:Mem} (h:Ok P f φs' χ) (he:tE Mi φs φs') (hc : ∀ v h h', χ.p v h→χ.p v h'):OkI P f φs Mi (fun _:Unit=>χ) (fun _=>Mi):=by
 intro w O vs hO hI hnd hmem hp
 have hB:Base ⟨w,O,aY Mi,0,none⟩ Mi w:=⟨hmem,hnd,fun b hb=>(hI b hb).2,fun b hb => .inr hb,fun b hb=>(List.mem_append.1 hb).elim (hO b) (fun h=>(hI b h).1),Fr.refl _ _⟩
 have hp':gf φs' vs (hid O (cn w)):=sj (g:=raw w) ⟨kI fun b hb=>List.mem_append.2 (.inl hb),fun b hb'=>by
  simp only [hid,if_neg (hI b hb').2]; rfl,hmem⟩ he hp
 refine Calls.mono (h w O vs hO hp') ?_
 rintro e w' ⟨v,rfl,hv',hext⟩
 have hB':=hB.ext hext
 exact ⟨(),v,rfl,hc _ _ _ hv',(Fr.refl _ _).ext hext,hB'.mem,hnd,fun b hb=>⟨.inr hb,Nat.lt_of_lt_of_le (hI b hb).1 hext.size,(hI b hb).2⟩⟩
theorem uM {v:Value} : ∀ x h h',(one v).p x h→(one v).p x h':=fun _ _ _ h=>h
end
end Tor
end
section
namespace Tor
open Go Go.RowKit Go.Proofs
open Lin (dZ lZ uZ eh)
structure DesB (m n:Nat) (F:Nat→Nat→Int):Prop where
 f : ∀ i j,dc (F i j)
 u : ∀ i j t,t≤j→j≤i→i<n→dc (uZ m F i j t)
theorem DesB.d {m n k:Nat} {F:Nat→Nat→Int} (h:DesB m n F) (hk:k≤n):dc (dZ m F k):=by
 cases k with
 | zero => exact (by decide +kernel : (1 : Int).natAbs ≤ 2 ^ 400)
 | succ k => exact h.u k k k (Nat.le_refl _) (Nat.le_refl _) hk
abbrev AQ:Type:=Nat × Nat × Nat × (Nat→Nat)
abbrev dO (sv:Option Nat) (cd k:Nat) (D:Nat→Int):Own:=aN sv 43 (.agg 2) cd k (fun q=>aK (D q))
def lP (m:Nat) (F:Nat→Nat→Int) (i j:Nat):Nat→Nat→Int:=fun a b=>if a=i∧j≤b then 0 else lZ m F a b
theorem Bs {m n i j:Nat} {F:Nat→Nat→Int} {B:Nat→Nat} {Ce:Nat→Bool} : Own.le (rvO 43 (.agg 2) (fun q=>q) n B (fun q=>q) (dP (eK (lP m F i j)) i j (aK (uZ m F i j j))) Ce) (rvO 43 (.agg 2) (fun q=>q) n B (fun q=>q) (eK (lP m F i (j+1))) Ce):=c9 (fun _ _=>rfl) (fun _ _ _=>⟨rfl,rfl⟩) fun a b _ _ _=>by
 unfold dP
 by_cases h:a=i∧b=j
 ·rw [if_pos h,h.1,h.2]
  show VT.le _ (aK (lP m F i (j+1) i j))
  rw [show lP m F i (j+1) i j=lZ m F i j from if_neg Y]; exact VT.le_refl _
 ·rw [if_neg h]
  show VT.le (aK (lP m F i j a b)) (aK (lP m F i (j+1) a b))
  unfold lP
  by_cases h1:a=i∧j≤b
  ·rw [if_pos h1,if_pos Y]; exact VT.le_refl _
  ·rw [if_neg h1,if_neg Y]; exact VT.le_refl _
theorem Bt {m i:Nat} {F:Nat→Nat→Int} (j:Nat):VT.le (one (.agg #[.bool false, .slice none 0 0])) (eK (lP m F i 0) i j):=by
 show VT.le _ (aK (lP m F i 0 i j))
 rw [show lP m F i 0 i j=0 from if_pos ⟨rfl,Nat.zero_le _⟩]; exact iF
theorem zW {m i a b:Nat} {F:Nat→Nat→Int} (h:a<i):VT.le (eK (lZ m F) a b) (eK (lP m F i 0) a b):=by
 show VT.le _ (aK (lP m F i 0 a b))
 rw [show lP m F i 0 a b=lZ m F a b from if_neg Y]; exact VT.le_refl _
theorem Bu {m n i:Nat} {F:Nat→Nat→Int} {B:Nat→Nat} {Ce:Nat→Bool} : Own.le (rvO 43 (.agg 2) (fun q=>q) n B (fun q=>q) (eK (lP m F i (i+1))) Ce) (rvO 43 (.agg 2) (fun q=>q) n B (fun q=>q) (eK (lZ m F)) Ce):=c9 (fun _ _=>rfl) (fun _ _ _=>⟨rfl,rfl⟩) fun a b _ _ hb=>by
 show VT.le (aK (lP m F i (i+1) a b)) (aK (lZ m F a b))
 rw [show lP m F i (i+1) a b=lZ m F a b from if_neg Y]; exact VT.le_refl _
theorem Bv {m n t:Nat} {F:Nat→Nat→Int} {B:Nat→Nat} {Ce:Nat→Bool} : Own.le (rvO 43 (.agg 2) (fun q=>q) n B (fun q=>q) (eK (lP m F t t)) Ce) (rvO 43 (.agg 2) (fun q=>q) n B (fun q=>q) (eK (lP m F t (t+1))) Ce):=c9 (fun _ _=>rfl) (fun _ _ _=>⟨rfl,rfl⟩) fun a b _ _ hb=>by
 show VT.le (aK (lP m F t t a b)) (aK (lP m F t (t+1) a b))
 rw [show lP m F t t a b=lZ m F a b from if_neg Y,show lP m F t (t+1) a b=lZ m F a b from if_neg Y]; exact VT.le_refl _
theorem Bw {m t cap:Nat} {F:Nat→Nat→Int} {sv:Option Nat} {T:TypeId} : Own.le (aN sv T (.agg 2) cap (t+1+1) (fun q=>if q<t+1 then aK (dZ m F q) else aK (uZ m F t t t))) (aN sv T (.agg 2) cap (t+2) (fun q=>aK (dZ m F q))):=bJ fun q hq=>by
 by_cases h:q<t+1
 ·rw [if_pos h]
 ·rw [if_neg h,show q=t+1 by omega]; rfl
theorem xz (a b c d:Own) : [a,b,c,d].Perm [b,c,a,d]:=(List.Perm.swap b a _).trans ((List.Perm.swap c a _).cons b)
theorem xA {m n:Nat} {F:Nat→Nat→Int} {B:Nat→Nat} : Own.le (rvO 43 (.agg 2) (fun q=>q) n B (fun q=>q) (eK (lZ m F)) (fun q=>decide (n≤q))) (cK (fun q=>q) n B (fun q=>q) (lZ m F)):=c9 (fun q hq=>decide_eq_false Y) (fun q _ _=>⟨rfl,rfl⟩) (fun q j _ _ _=>VT.le_refl _)
theorem oE (f:Nat→Int) : ∀ n,Lin.smZ n f=dL n f
 | 0 => rfl
 | n + 1 => by show Lin.smZ n f + f n = dL n f + f n; rw [oE f n]
theorem uN (m:Nat) (f g:Nat→Int) (hm:m≤1048576) (hf : ∀ i,dc (f i)) (hg : ∀ i,dc (g i)):Ok Tryz.prog 79 [cH m f,cH m g] (bL [aK (eh m f g),one (.int .i64 0)]):=by
 have h:=yx m m f g hm hm (fun i=>(hf i).L) (fun i=>(hg i).L)
 rw [if_pos Z,if_pos Z, ← oE] at h;exact h
def d8V (n:Nat):Nat→Nat→VT
 | 1, b => one (slV (some b) 1 1)
 | 4, b => one (slV (some b) n n)
 | _, b => one (.pointer (some ⟨b, 0, none⟩))
def d8M (n:Nat):Nat→Nat→Mem
 | 1, b => [aN (some b) 43 (.agg 2) 1 1 (fun _ => aK 1)]
 | 4, b => [aN (some b) 50 .one n n (fun _ => one (.slice none 0 0))]
 | _, b => [aW b 81 2 (de #[Value.slice none 0 0, Value.slice none 0 0] [(0, .one), (1, .one)])]
attribute [local irreducible] J PJ aJ one slT cv bB bL exT cp eP aW aN slV VT.le Ret bK xO
attribute [local irreducible] rvO aK cH
set_option maxRecDepth 100000 in
theorem mJ (m n:Nat) (F:Nat→Nat→Int) (hn:n≤1048576) (hm:m≤1048576) (hb:DesB m n F) (hd:dZ m F n≠0):OkM (σ:=AQ) Tryz.prog 45 [slT .one n (fun i=>cH m (F i))]
  (fun s=>bL [bB 2 [(0, .one,one (slV (some s.1) (n+1) s.2.1)),(1, .one,one (slV (some s.2.2.1) n n))],one (.bool true)])
  (fun s => [dO (some s.1) s.2.1 (n+1) (dZ m F),fW s.2.2.1 n n (fun q=>q) s.2.2.2 (fun q=>q),cK (fun q=>q) n s.2.2.2 (fun q=>q) (lZ m F)]):=by
 refine OkM.enter Tryz.func45 Z Tryz.ntmps45 Z (fun w O => ?_)
 refine ae (aj ?_)
 refine aT (T:=81) Z Z Z (fun b2 => ?_)
 refine Cn Z (Cp (aa (ae ?_)))
 refine oD 2 7 [1,4,6] 0 (fun j s=>d8V n j s) (fun j s=>d8M n j s) aU X W Z W ?_
 refine kx Z (fun s B=>am (pn 1 W W) Z ⟨H,Cq⟩) Z ?_
 refine kc Z (fun s B=>jF (L := .agg 2) (φ:=aK 1) (fun b=>b) Z (fun b=>rfl) (fun b=>rfl) Z Z) Z ?_
 refine kx Z (fun s B=>ab Z) Z ?_
 refine kx Z (fun s B=>aV Z) Z ?_
 refine kc Z (fun s B=>gr n (fun b=>b) Z Z (fun b=>rfl) (fun b=>rfl) Z Z Y) Z ?_
 refine kd [1,4] (ψ:=fun s=>bB 2 [(0, .one,one (slV (some (s 1)) 1 1)),(1, .one,one (slV (some (s 4)) n n))]) Z S (fun s s' h=>by rw [h 1 W,h 4 W]) (fun s B=>kO (.cons (φ:=one (slV (some (s 1)) 1 1)) Z Z Z (.cons (φ:=one (slV (some (s 4)) n n)) Z Z Z .nil)) Z Z) Z ?_
 refine kc Z (fun s B=>pH (fun b=>b) (fun b=>rfl) (fun b=>rfl) Z) Z ?_
 refine .nil fun s => ?_
 refine kZ (Γ' := [(4,one (.pointer (some ⟨s 6,0,none⟩))),(17,bB 2 [(0, .one,one (slV (some (s 1)) 1 1)),(1, .one,one (slV (some (s 4)) n n))]),(2,one (.pointer (some ⟨b2,0,none⟩))),(0,slT .one n fun i=>cH m (F i))]) (M' := [_,_,_,_]) Cj (SubM.refl _) ?_
 generalize s 1=bd
 generalize s 4=bl
 generalize s 6=bo
 refine aR 2 Z Z Z Z (Cp (aa (ae (ae (aj (Cm Z (Cl (aV Z) (Cm Z (Cp ?_)))))))))
 refine aa (av ?_)
 refine eS (jC (T:=43) (L := .agg 2) (c:=fun q=>q) (n:=n) (B:=fun _=>0) (C:=fun q=>q) (φ:=eK (lZ m F)) (Ce:=fun q=>decide (0≤q)) (fun i _=>decide_eq_true (Nat.zero_le i))) ?_
 refine cx (Γ' := [(0,_),(2,_),(4,_),(19,_),(20,_)]) Cg (SubM.refl _) ?_
 refine bE (σ:=Nat × Option Nat × Nat × (Nat→Nat)) (Γk := [(0,_),(2,_),(4,_),(19,_)]) Cg (fun s => [(20,one (.int .i64 (s.1:Nat)))]) (fun s M0=>((((M0.set 0 (rvO 43 (.agg 2) (fun q=>q) n s.2.2.2 (fun q=>q) (eK (lZ m F)) (fun q=>decide (s.1≤q)))).set 1 (dO s.2.1 s.2.2.1 (s.1+1) (dZ m F))).set 2 (aN (some bl) 50 .one n n (fun q=>if q<s.1 then one (slV (some (s.2.2.2 q)) q q) else one (.slice none 0 0)))).set 3 (aW bo 81 2 [(0, .one,one (slV s.2.1 (s.1+1) s.2.2.1)),(1, .one,one (slV (some bl) n n))]))) (fun s=>s.1≤n) (fun s=>n - s.1) ((0,some bd,1,fun _=>0)) (Nat.zero_le _) Ch (.keep Ck (.keep (bJ (fun q hq=>by rw [show q=0 by omega]; rfl)) (.keep Ck (.keep Ck (.keep Ck (.nil)))))) (fun s hs => ?_)
 refine bY (Γ' := [(20,_),(0,_),(2,_),(4,_),(19,_)]) (M' := [_,_,_,_,_]) Z Z ?_
 obtain ⟨i,sv,cap,B⟩:=s
 dsimp only at hs ⊢
 by_cases hi:i<n
 ·refine ae (aj (Cl (sT Y (a9 Z Z)) (Cp (aa (ae (aI Z (aw (aa (ae ?_)))))))))
  refine av (ae (aj (Cm Z (Cn Z (Cp (aa (ae ?_)))))))
  refine oD 2 5 [4] 0 (fun j s=>one (slV (some s) i i)) (fun j s => [aN (some s) 43 (.agg 2) i i (fun _=>one (.agg #[.bool false, .slice none 0 0]))]) aU X W Z W ?_
  refine kx Z (fun s B=>ai Z) Z ?_
  refine kx Z (fun s B=>ak 3 Z Z Z) Z ?_
  refine kx Z (fun s B=>ab Z) Z ?_
  refine kx Z (fun s B=>ab Z) Z ?_
  refine kc Z (fun s B=>gr i (fun b=>b) Z Z (fun b=>rfl) (fun b=>rfl) Z Z Y) Z ?_
  refine .nil fun s => ?_
  refine kZ (Γ' := [(27,one (slV (some (s 4)) i i)),(25,one (.int .i64 (i:Nat))),(24,one (slV (some bl) n n)),(5,one (.int .i64 (i:Nat))),(20,one (.int .i64 (i:Nat))),(0,slT .one n fun i=>cH m (F i)),(2,_),(4,_),(19,_)]) (M' := [_,_,_,_,_,_]) Cj (SubM.refl _) ?_
  generalize s 4=b
  refine Cl (an Z Z Y) ?_
  (refine ay 3 Z Z Z ?_ Z ?_;omega)
  refine Cp (aa (ae (aj (Cn Z (Cp (aa (av ?_)))))))
  refine eS (je (c:=fun q=>q) (i:=i) hi (decide_eq_true (Nat.le_refl i))) ?_
  refine eS (ConvM.le (lG (C:=fun q=>q) (χ:=eK (lP m F i 0)) (fun j _=>Bt j) (fun q j hq _=>zW hq))) ?_
  refine eS (ConvM.cons (ConvM.cons (ConvM.le (b:=aN (some bl) 50 .one n n (fun q=>if q<i+1 then one (slV (some ((fun q=>if q=i then b else B q) q)) q q) else one (.slice none 0 0))) (na (c:=fun q=>q) (C:=fun q=>q))))) ?_
  generalize (fun q=>if q=i then b else B q)=B' at *
  refine cx (Γ' := [(0,_),(2,_),(4,_),(5,_),(6,_),(19,_),(20,_)]) Cg (SubM.refl _) ?_
  refine bE (σ:=Nat × Nat × Option Nat × Nat) (Γk := [(0,_),(2,_),(4,_),(5,_),(19,_),(20,_)]) Cg (fun s => [(6,one (.int .i64 (s.1:Nat)))]) (fun s M0=>(((M0.set 0 (rvO 43 (.agg 2) (fun q=>q) n B' (fun q=>q) (eK (lP m F i s.1)) (fun q=>decide (i+1≤q)))).set 1 (dO s.2.2.1 s.2.2.2 s.2.1 (dZ m F))).set 3 (aW bo 81 2 [(0, .one,one (slV s.2.2.1 s.2.1 s.2.2.2)),(1, .one,one (slV (some bl) n n))]))) (fun s=>s.1≤i+1∧s.2.1=(if s.1≤i then i+1 else i+2)) (fun s=>i+1 - s.1) ((0,i+1,sv,cap)) (⟨Nat.zero_le _,rfl⟩) Ch (.keep Ck (.keep Ck (.keep Ck (.keep Ck (.keep Ck (.nil)))))) (fun s hs => ?_)
  refine bY (Γ' := [(6,_),(0,_),(2,_),(4,_),(5,_),(19,_),(20,_)]) (M' := [_,_,_,_,_]) Z Z ?_
  obtain ⟨j,ln,sv,cap⟩:=s
  dsimp only at hs ⊢
  obtain ⟨hj,hln⟩:=hs
  by_cases hji:j≤i
  ·rw [if_pos hji] at hln
   subst hln
   have hdt:=uN m (F i) (F j) hm (hb.f i) (hb.f j)
   rw [← Lin.qN (F:=F) i j] at hdt
   refine ae (ae (aj (Cm Z (Cm Z (Cl (sT Y (q6 Z Z)) (Cp (aa (aI Z (aw ?_)))))))))
   refine aa (ae (av (ae ?_)))
   refine dN aU X X ?_
   refine ux (fun B=>ab Z) Z Z ?_
   refine ux (fun B=>ab Z) Z Z ?_
   refine ux (fun B=>ax Z Z Y) Z Z ?_
   refine ux (fun B=>aG Z) Z Z ?_
   refine ux (fun B=>ab Z) Z Z ?_
   refine ux (fun B=>ab Z) Z Z ?_
   refine ux (fun B=>ax Z Z Y) Z Z ?_
   refine ux (fun B=>aG Z) Z Z ?_
   refine uxk (hdt) Z ⟨H,H,Cq⟩ Z ?_
   refine ux (fun B=>ab Z) Z Z ?_
   refine ux (fun B=>ar Z Z) Z Z ?_
   refine ux (fun B=>ar Z Z) Z Z ?_
   refine ua Z (us Z ?_)
   refine ux (fun B=>ah Z) Z Z ?_
   refine RunU.nil (fun γ => ?_)
   refine cC (M' := [_,_,_,_,_,_]) Z (aa (ae (ae (aj (Cm Z (Cm Z (Cp (aa (av ?_)))))))))
   refine jO (i:=2) (F:=sv=none→i+1=0) Z (fun g h hp he=>fh hp he) (fun hsv => ?_)
   obtain ⟨bd,rfl⟩:=e9 hsv Y
   refine cx (Γ' := [(0,_),(2,_),(4,_),(5,_),(6,_),(7,_),(19,_),(20,_),(46,_),(47,_)]) Cg (SubM.refl _) ?_
   refine bE (σ:=Nat) (Γk := [(0,_),(2,_),(4,_),(5,_),(6,_),(7,_),(19,_),(20,_),(46,_)]) Cg (fun t => [(47,one (.int .i64 (t:Nat)))]) (fun t M0=>(M0.set 0 (aW (γ 7) 43 2 [(0, .agg 2,aK (uZ m F i j t))]))) (fun t=>t≤j) (fun t=>j - t) (0) (Nat.zero_le _) Ch (.keep Ck (.keep Ck (.keep Ck (.keep Ck (.keep Ck (.keep Ck (.nil))))))) (fun t ht => ?_)
   refine bY (Γ' := [(47,_),(0,_),(2,_),(4,_),(5,_),(6,_),(7,_),(19,_),(20,_),(46,_)]) (M' := [_,_,_,_,_,_]) Z Z ?_
   by_cases htj:t<j
   ·have hlp : ∀ a,lP m F i j a t=lZ m F a t:=fun a=>if_neg Y
    have h0:dZ m F t≠0:=Lin.cB hd Y
    have m1:dc (dZ m F (t+1)):=hb.d Y
    have m0:dc (dZ m F t):=hb.d Y
    have m2:dc (uZ m F i j t):=hb.u i j t Y hji hi
    have m3:dc (lP m F i j i t):=by rw [hlp]; exact hb.u i t t (Nat.le_refl _) Y hi
    have m4:dc (lP m F i j j t):=by rw [hlp]; exact hb.u j t t (Nat.le_refl _) Y Y
    have s1:=bw m1
    have s2:=bw m2
    have s3:=bw m3
    have s4:=bw m4
    have p1:=eM (t:=400) (u:=400) (v:=800) m1 m2 W
    have p2:=eM (t:=400) (u:=400) (v:=800) m3 m4 W
    have s5:=ew (t:=800) p1 W
    have s6:=ew (t:=800) p2 W
    have hq:Ok Tryz.prog 81 [aK (dZ m F (t+1)*uZ m F i j t - lP m F i j i t*lP m F i j j t),aK (dZ m F t)] (aK (uZ m F i j (t+1))):=by
     have h:=fX (dZ m F (t+1)*uZ m F i j t - lP m F i j i t*lP m F i j j t) (dZ m F t) h0 (ew (t:=801) (tA (t:=800) (v:=801) p1 p2 W) W) (bw m0)
     have e:(dZ m F (t+1)*uZ m F i j t - lP m F i j i t*lP m F i j j t) / dZ m F t=uZ m F i j (t+1):=by rw [hlp,hlp]; exact Lin.xn h0
     rw [e] at h;exact h
    refine ae (aj (Cl (sT Y (a9 Z Z)) (Cp (aa (ae (aI Z (aw (aa (ae ?_)))))))))
    refine av (ae (aj (Cm Z (Cn Z (Cp (aa (ae ?_)))))))
    refine dN aU X X ?_
    refine ux (fun B=>ai Z) Z Z ?_
    refine ux (fun B=>ak 4 Z Z Z) Z Z ?_
    refine ux (fun B=>ab Z) Z Z ?_
    refine ux (fun B=>bC _ 1 Z Z Y) Z Z ?_
    refine ux (fun B=>an Z Z Y) Z Z ?_
    refine ux (fun B=>bn 2 Z Z Y) Z Z ?_
    refine ux (fun B=>ak 0 Z Z Z) Z Z ?_
    refine uxk (dw _ _ (by assumption) (by assumption)) Z ⟨H,H,Cq⟩ Z ?_
    refine ua Z (us Z ?_)
    refine RunU.nil (fun γ => ?_)
    refine cC (M' := [_,_,_,_,_,_,_]) Z (aa (ae ?_))
    refine dN aU X X ?_
    refine ux (fun B=>ai Z) Z Z ?_
    refine ux (fun B=>ak 5 Z Z Z) Z Z ?_
    refine ux (fun B=>ab Z) Z Z ?_
    refine ux (fun B=>an Z Z Y) Z Z ?_
    refine ux (fun B=>gU 4 Z Z Y Y) Z Z ?_
    refine ux (fun B=>ab Z) Z Z ?_
    refine ux (fun B=>an Z Z Y) Z Z ?_
    refine ux (fun B=>dM 2 Z Z Y (decide_eq_false Y) Y) Z Z ?_
    refine ux (fun B=>ai Z) Z Z ?_
    refine ux (fun B=>ak 5 Z Z Z) Z Z ?_
    refine ux (fun B=>ab Z) Z Z ?_
    refine ux (fun B=>an Z Z Y) Z Z ?_
    refine ux (fun B=>gU 4 Z Z Y Y) Z Z ?_
    refine ux (fun B=>ab Z) Z Z ?_
    refine ux (fun B=>an Z Z Y) Z Z ?_
    refine ux (fun B=>dM 2 Z Z Y (decide_eq_false Y) Y) Z Z ?_
    refine uxk (dw _ _ (by assumption) (by assumption)) Z ⟨H,H,Cq⟩ Z ?_
    refine ua Z (us Z ?_)
    refine RunU.nil (fun γ => ?_)
    refine cC (M' := [_,_,_,_,_,_,_,_]) Z (aa (a4 9 aU X W (Cl (ak 1 Z Z Z) (Cl (ak 0 Z Z Z) ?_))))
    refine Cl (am (lk _ _ (by assumption) (by assumption)) Z ⟨H,H,Cq⟩) ?_
    refine Cl (ai Z) (Cl (ak 6 Z Z Z) (Cm Z (Cl (an Z Z Y) (Cl (bn 4 Z Z Y) ?_))))
    refine Cl (am (hq) Z ⟨H,H,Cq⟩) ?_
    refine Cp (aB 2 Z Z Z Z Z (leN Z) Z (Cp (aA (aa (aj (Cl (bC _ 1 Z Z Y) (Cm Z (Cp ?_))))))))
    refine aS (t+1) Y Y Ch (.drop (.drop (.keep Ck (.keep Ck (.keep Ck (.keep Ck (.keep Ck (.keep Ck (.nil)))))))))
   ·have he:t=j:=by omega
    subst he
    by_cases hti:t<i
    ·refine ae (aj (Cl (sF Y (a9 Z Z)) (Cp (aa (ae (az Z (aX (au (au ?_)))))))))
     refine aC (aa (ae (ae (aj (Cm Z (Cm Z (Cl (sT Y (a9 Z Z)) (Cp (aa ?_)))))))))
     refine aI Z (ae (a4 7 aU X W (Cl (ai Z) (Cl (ak 4 Z Z Z) (Cm Z (Cl (an Z Z Y) (Cl (gU 3 Z Z Y Y) (Cm Z (Cl (ak 0 Z Z Z) ?_)))))))))
     refine Cp (Cl (an Z Z Y) ?_)
     (refine cZ 1 Z Z Z ?_ (decide_eq_false Y) ?_ Z ?_;omega;omega)
     refine Cp (aa (aX (au (aC (aa (aj (Cm Z (Cl (bC _ 1 Z Z Y) (Cn Z ?_)))))))))
     refine Cp ?_
     refine aS ((t+1,i+1,some bd,cap)) (⟨by omega,(if_pos Y).symm⟩) Y Ch (.drop (.keep (Bs) (.keep Ck (.keep Ck (.keep Ck (.keep Ck (.nil)))))))
    ·have he:t=i:=by omega
     subst he
     have hnz:uZ m F t t t≠0:=Lin.cB hd (k:=t+1) Y
     have hsz : ¬ dQ (uZ m F t t t)=0:=fun h=>hnz ((fK _).1 h)
     refine ae (aj (Cl (sF Y (a9 Z Z)) (Cp (aa (ae (az Z (aX (au (au ?_)))))))))
     refine aC (aa (ae (ae (aj (Cm Z (Cm Z (Cl (sF Y (a9 Z Z)) (Cp (aa ?_)))))))))
     refine az Z (aw (aa (ae (ae (aj (Cl (ak 0 Z Z Z) ?_))))))
     refine Cl (am (gM _) Z ⟨H,Cq⟩) ?_
     refine Cl (sF (by assumption) (cN Z Z)) (Cp (aa (az Z (aw (aa (aj (Cl (ai Z) (Cl (ak 4 Z Z Z) (Cl (ak 0 Z Z Z) ?_)))))))))
     refine iX Z Z Z Z ?_
     (refine cV 2 Z Z Z (leN Z) ?_ ?_ Z (ltN Z) (fun sv104 cap104 => ?_);omega;omega)
     refine Cl (ai Z) (aB 4 Z Z Z Z Z (leN Z) Z (Cp (aA (aa (aj (Cm Z (Cl (bC _ 1 Z Z Y) (Cn Z (Cp ?_)))))))))
     refine aS ((t+1,t+2,sv104,cap104)) (⟨Nat.le_refl _,(if_neg Y).symm⟩) Y Ch (.drop (.keep (Bv) (.keep (Bw) (.keep Ck (.keep Ck (.keep Ck (.nil)))))))
  ·have he:j=i+1:=by omega
   rw [if_neg hji] at hln
   subst he hln
   refine ae (ae (aj (Cm Z (Cm Z (Cl (sF Y (q6 Z Z)) (Cp (aa (az Z (aX ?_)))))))))
   refine au (au (aC (aA (aa (aj (Cl (bC _ 1 Z Z Y) (Cm Z (Cp ?_))))))))
   refine aS ((i+1,sv,cap,B')) Y Y Ch (.keep (Bu) (.keep Ck (.keep Ck (.keep Ck (.keep Ck (.nil))))))
 ·have he:i=n:=by omega
  subst he
  refine ae (aj (Cl (sF Y (a9 Z Z)) (Cp (aa (ae (az Z (aX (au (au ?_)))))))))
  refine aC (aa (ae (aj (Cl (aL 3 Z Z) (aR 4 Z Z Z Z (Cn Z (Cp (aa (aD ?_)))))))))
  refine r6 (i:=1) (F:=sv=none→i+1=0) Z (fun g h hp he=>fh hp he) (fun hsv => ?_)
  obtain ⟨bd,rfl⟩:=e9 hsv Y
  refine sJ (Γ' := [(3,one (.bool true)),(2,one (.pointer (some ⟨b2,0,none⟩)))]) (M' := [_,_,_,_]) Cj (.keep Ck (.keep Ck (.keep Ck (.drop (.keep Ck .nil))))) ?_
  refine tQ (M' := [_,_,_,_]) (xz _ _ _ _) ?_
  exact zV (ψ:=fun s:AQ=>bB 2 [(0, .one,one (slV (some s.1) (i+1) s.2.1)),(1, .one,one (slV (some s.2.2.1) i i))]) (ψ':=fun _=>one (.bool true)) ((bd,cap,bl,B):AQ) Tryz.results45 (.cellW 3 Z Z H) (.tmp Z H) (.keep Ck (.keep (bJ fun q hq=>if_pos hq) (.keep xA (.drop .nil))))
end Tor
end
section
namespace Tor
open Go Go.RowKit Go.Proofs
open Lin (dZ lZ uZ eh)
theorem Ent.tup2 {Ms:Mem} {φ φ' ψ ψ':VT} (h:Ent Ms φ ψ) (h':Ent Ms φ' ψ'):Ent Ms (bL [φ, φ']) (bL [ψ, ψ']):=by
 rintro g k k' v ho ⟨vs,e,hv⟩
 match vs,hv with
 | [x, y], ⟨h1, h2, _⟩ => exact ⟨[x, y], e, h g k k' x ho h1, h' g k k' y ho h2, trivial⟩
theorem xB {m n:Nat} {F:Nat→Nat→Int} {bd cd bl:Nat} {B:Nat→Nat} : Ent [dO (some bd) cd (n+1) (dZ m F),fW bl n n (fun q=>q) B (fun q=>q),cK (fun q=>q) n B (fun q=>q) (lZ m F)] (bB 2 [(0, .one,one (slV (some bd) (n+1) cd)),(1, .one,one (slV (some bl) n n))]) (tz n (dZ m F) (lZ m F)):=by
 refine Ent.agg (.cons List.mem_cons_self ?_ (.cons (List.mem_cons_of_mem _ List.mem_cons_self) ?_ .nil))
 ·unfold cH;exact Ent.sl List.mem_cons_self
 ·refine Ent.slE (List.mem_cons_of_mem _ List.mem_cons_self) fun q hq => ?_
  unfold cH
  exact Ent.rvo (List.mem_cons_of_mem _ (List.mem_cons_of_mem _ List.mem_cons_self)) hq Z
theorem kp (m n:Nat) (F:Nat→Nat→Int) (hn:n≤1048576) (hm:m≤1048576) (hb:DesB m n F) (hd:dZ m F n≠0):Ok Tryz.prog 45 [slT .one n (fun i=>cH m (F i))] (bL [tz n (dZ m F) (lZ m F),one (.bool true)]) :=
 (mJ m n F hn hm hb hd).ok fun s=>Ent.tup2 xB (Ent.refl _)
attribute [local irreducible] J PJ aJ one slT cv bB bL exT cp eP aW aN slV VT.le Ret bK xO
attribute [local irreducible] rvO aK cH
set_option maxRecDepth 100000 in
theorem jG (m n k:Nat) (F:Nat→Nat→Int) (hn:n≤1048576) (hm:m≤1048576) (hb:DesB m n F) (hk:k<n) (hd:dZ m F k≠0) (hz:dZ m F (k+1)=0):Ok Tryz.prog 45 [slT .one n (fun i=>cH m (F i))]
  (bL [bB 2 [(0, .one,one (.slice none 0 0)),(1, .one,one (.slice none 0 0))],one (.bool false)]):=by
 refine Ok.enter Tryz.func45 Z Tryz.ntmps45 Z (fun w O => ?_)
 refine ae (aj ?_)
 refine aT (T:=81) Z Z Z (fun b2 => ?_)
 refine Cn Z (Cp (aa (ae ?_)))
 refine oD 2 7 [1,4,6] 0 (fun j s=>d8V n j s) (fun j s=>d8M n j s) aU X W Z W ?_
 refine kx Z (fun s B=>am (pn 1 W W) Z ⟨H,Cq⟩) Z ?_
 refine kc Z (fun s B=>jF (L := .agg 2) (φ:=aK 1) (fun b=>b) Z (fun b=>rfl) (fun b=>rfl) Z Z) Z ?_
 refine kx Z (fun s B=>ab Z) Z ?_
 refine kx Z (fun s B=>aV Z) Z ?_
 refine kc Z (fun s B=>gr n (fun b=>b) Z Z (fun b=>rfl) (fun b=>rfl) Z Z Y) Z ?_
 refine kd [1,4] (ψ:=fun s=>bB 2 [(0, .one,one (slV (some (s 1)) 1 1)),(1, .one,one (slV (some (s 4)) n n))]) Z S (fun s s' h=>by rw [h 1 W,h 4 W]) (fun s B=>kO (.cons (φ:=one (slV (some (s 1)) 1 1)) Z Z Z (.cons (φ:=one (slV (some (s 4)) n n)) Z Z Z .nil)) Z Z) Z ?_
 refine kc Z (fun s B=>pH (fun b=>b) (fun b=>rfl) (fun b=>rfl) Z) Z ?_
 refine .nil fun s => ?_
 refine kZ (Γ' := [(4,one (.pointer (some ⟨s 6,0,none⟩))),(17,bB 2 [(0, .one,one (slV (some (s 1)) 1 1)),(1, .one,one (slV (some (s 4)) n n))]),(2,one (.pointer (some ⟨b2,0,none⟩))),(0,slT .one n fun i=>cH m (F i))]) (M' := [_,_,_,_]) Cj (SubM.refl _) ?_
 generalize s 1=bd
 generalize s 4=bl
 generalize s 6=bo
 refine aR 2 Z Z Z Z (Cp (aa (ae (ae (aj (Cm Z (Cl (aV Z) (Cm Z (Cp ?_)))))))))
 refine aa (av ?_)
 refine eS (jC (T:=43) (L := .agg 2) (c:=fun q=>q) (n:=n) (B:=fun _=>0) (C:=fun q=>q) (φ:=eK (lZ m F)) (Ce:=fun q=>decide (0≤q)) (fun i _=>decide_eq_true (Nat.zero_le i))) ?_
 refine cx (Γ' := [(0,_),(2,_),(4,_),(19,_),(20,_)]) Cg (SubM.refl _) ?_
 refine bE (σ:=Nat × Option Nat × Nat × (Nat→Nat)) (Γk := [(0,_),(2,_),(4,_),(19,_)]) Cg (fun s => [(20,one (.int .i64 (s.1:Nat)))]) (fun s M0=>((((M0.set 0 (rvO 43 (.agg 2) (fun q=>q) n s.2.2.2 (fun q=>q) (eK (lZ m F)) (fun q=>decide (s.1≤q)))).set 1 (dO s.2.1 s.2.2.1 (s.1+1) (dZ m F))).set 2 (aN (some bl) 50 .one n n (fun q=>if q<s.1 then one (slV (some (s.2.2.2 q)) q q) else one (.slice none 0 0)))).set 3 (aW bo 81 2 [(0, .one,one (slV s.2.1 (s.1+1) s.2.2.1)),(1, .one,one (slV (some bl) n n))]))) (fun s=>s.1≤k) (fun s=>n - s.1) ((0,some bd,1,fun _=>0)) (Nat.zero_le _) Ch (.keep Ck (.keep (bJ (fun q hq=>by rw [show q=0 by omega]; rfl)) (.keep Ck (.keep Ck (.keep Ck (.nil)))))) (fun s hs => ?_)
 refine bY (Γ' := [(20,_),(0,_),(2,_),(4,_),(19,_)]) (M' := [_,_,_,_,_]) Z Z ?_
 obtain ⟨i,sv,cap,B⟩:=s
 dsimp only at hs ⊢
 have hi:i<n:=by omega
 ·refine ae (aj (Cl (sT Y (a9 Z Z)) (Cp (aa (ae (aI Z (aw (aa (ae ?_)))))))))
  refine av (ae (aj (Cm Z (Cn Z (Cp (aa (ae ?_)))))))
  refine oD 2 5 [4] 0 (fun j s=>one (slV (some s) i i)) (fun j s => [aN (some s) 43 (.agg 2) i i (fun _=>one (.agg #[.bool false, .slice none 0 0]))]) aU X W Z W ?_
  refine kx Z (fun s B=>ai Z) Z ?_
  refine kx Z (fun s B=>ak 3 Z Z Z) Z ?_
  refine kx Z (fun s B=>ab Z) Z ?_
  refine kx Z (fun s B=>ab Z) Z ?_
  refine kc Z (fun s B=>gr i (fun b=>b) Z Z (fun b=>rfl) (fun b=>rfl) Z Z Y) Z ?_
  refine .nil fun s => ?_
  refine kZ (Γ' := [(27,one (slV (some (s 4)) i i)),(25,one (.int .i64 (i:Nat))),(24,one (slV (some bl) n n)),(5,one (.int .i64 (i:Nat))),(20,one (.int .i64 (i:Nat))),(0,slT .one n fun i=>cH m (F i)),(2,_),(4,_),(19,_)]) (M' := [_,_,_,_,_,_]) Cj (SubM.refl _) ?_
  generalize s 4=b
  refine Cl (an Z Z Y) ?_
  (refine ay 3 Z Z Z ?_ Z ?_;omega)
  refine Cp (aa (ae (aj (Cn Z (Cp (aa (av ?_)))))))
  refine eS (je (c:=fun q=>q) (i:=i) hi (decide_eq_true (Nat.le_refl i))) ?_
  refine eS (ConvM.le (lG (C:=fun q=>q) (χ:=eK (lP m F i 0)) (fun j _=>Bt j) (fun q j hq _=>zW hq))) ?_
  refine eS (ConvM.cons (ConvM.cons (ConvM.le (b:=aN (some bl) 50 .one n n (fun q=>if q<i+1 then one (slV (some ((fun q=>if q=i then b else B q) q)) q q) else one (.slice none 0 0))) (na (c:=fun q=>q) (C:=fun q=>q))))) ?_
  generalize (fun q=>if q=i then b else B q)=B' at *
  refine cx (Γ' := [(0,_),(2,_),(4,_),(5,_),(6,_),(19,_),(20,_)]) Cg (SubM.refl _) ?_
  refine bE (σ:=Nat × Nat × Option Nat × Nat) (Γk := [(0,_),(2,_),(4,_),(5,_),(19,_),(20,_)]) Cg (fun s => [(6,one (.int .i64 (s.1:Nat)))]) (fun s M0=>(((M0.set 0 (rvO 43 (.agg 2) (fun q=>q) n B' (fun q=>q) (eK (lP m F i s.1)) (fun q=>decide (i+1≤q)))).set 1 (dO s.2.2.1 s.2.2.2 s.2.1 (dZ m F))).set 3 (aW bo 81 2 [(0, .one,one (slV s.2.2.1 s.2.1 s.2.2.2)),(1, .one,one (slV (some bl) n n))]))) (fun s=>(s.1≤i+1∧(s.1=i+1→i<k))∧s.2.1=(if s.1≤i then i+1 else i+2)) (fun s=>i+1 - s.1) ((0,i+1,sv,cap)) (⟨⟨Nat.zero_le _,fun h=>by omega⟩,rfl⟩) Ch (.keep Ck (.keep Ck (.keep Ck (.keep Ck (.keep Ck (.nil)))))) (fun s hs => ?_)
  refine bY (Γ' := [(6,_),(0,_),(2,_),(4,_),(5,_),(19,_),(20,_)]) (M' := [_,_,_,_,_]) Z Z ?_
  obtain ⟨j,ln,sv,cap⟩:=s
  dsimp only at hs ⊢
  obtain ⟨⟨hj,hjk⟩,hln⟩:=hs
  by_cases hji:j≤i
  ·rw [if_pos hji] at hln
   subst hln
   have hdt:=uN m (F i) (F j) hm (hb.f i) (hb.f j)
   rw [← Lin.qN (F:=F) i j] at hdt
   refine ae (ae (aj (Cm Z (Cm Z (Cl (sT Y (q6 Z Z)) (Cp (aa (aI Z (aw ?_)))))))))
   refine aa (ae (av (ae ?_)))
   refine dN aU X X ?_
   refine ux (fun B=>ab Z) Z Z ?_
   refine ux (fun B=>ab Z) Z Z ?_
   refine ux (fun B=>ax Z Z Y) Z Z ?_
   refine ux (fun B=>aG Z) Z Z ?_
   refine ux (fun B=>ab Z) Z Z ?_
   refine ux (fun B=>ab Z) Z Z ?_
   refine ux (fun B=>ax Z Z Y) Z Z ?_
   refine ux (fun B=>aG Z) Z Z ?_
   refine uxk (hdt) Z ⟨H,H,Cq⟩ Z ?_
   refine ux (fun B=>ab Z) Z Z ?_
   refine ux (fun B=>ar Z Z) Z Z ?_
   refine ux (fun B=>ar Z Z) Z Z ?_
   refine ua Z (us Z ?_)
   refine ux (fun B=>ah Z) Z Z ?_
   refine RunU.nil (fun γ => ?_)
   refine cC (M' := [_,_,_,_,_,_]) Z (aa (ae (ae (aj (Cm Z (Cm Z (Cp (aa (av ?_)))))))))
   refine jO (i:=2) (F:=sv=none→i+1=0) Z (fun g h hp he=>fh hp he) (fun hsv => ?_)
   obtain ⟨bd,rfl⟩:=e9 hsv Y
   refine cx (Γ' := [(0,_),(2,_),(4,_),(5,_),(6,_),(7,_),(19,_),(20,_),(46,_),(47,_)]) Cg (SubM.refl _) ?_
   refine bE (σ:=Nat) (Γk := [(0,_),(2,_),(4,_),(5,_),(6,_),(7,_),(19,_),(20,_),(46,_)]) Cg (fun t => [(47,one (.int .i64 (t:Nat)))]) (fun t M0=>(M0.set 0 (aW (γ 7) 43 2 [(0, .agg 2,aK (uZ m F i j t))]))) (fun t=>t≤j) (fun t=>j - t) (0) (Nat.zero_le _) Ch (.keep Ck (.keep Ck (.keep Ck (.keep Ck (.keep Ck (.keep Ck (.nil))))))) (fun t ht => ?_)
   refine bY (Γ' := [(47,_),(0,_),(2,_),(4,_),(5,_),(6,_),(7,_),(19,_),(20,_),(46,_)]) (M' := [_,_,_,_,_,_]) Z Z ?_
   by_cases htj:t<j
   ·have hlp : ∀ a,lP m F i j a t=lZ m F a t:=fun a=>if_neg Y
    have h0:dZ m F t≠0:=Lin.cB hd Y
    have m1:dc (dZ m F (t+1)):=hb.d Y
    have m0:dc (dZ m F t):=hb.d Y
    have m2:dc (uZ m F i j t):=hb.u i j t Y hji hi
    have m3:dc (lP m F i j i t):=by rw [hlp]; exact hb.u i t t (Nat.le_refl _) Y hi
    have m4:dc (lP m F i j j t):=by rw [hlp]; exact hb.u j t t (Nat.le_refl _) Y Y
    have s1:=bw m1
    have s2:=bw m2
    have s3:=bw m3
    have s4:=bw m4
    have p1:=eM (t:=400) (u:=400) (v:=800) m1 m2 W
    have p2:=eM (t:=400) (u:=400) (v:=800) m3 m4 W
    have s5:=ew (t:=800) p1 W
    have s6:=ew (t:=800) p2 W
    have hq:Ok Tryz.prog 81 [aK (dZ m F (t+1)*uZ m F i j t - lP m F i j i t*lP m F i j j t),aK (dZ m F t)] (aK (uZ m F i j (t+1))):=by
     have h:=fX (dZ m F (t+1)*uZ m F i j t - lP m F i j i t*lP m F i j j t) (dZ m F t) h0 (ew (t:=801) (tA (t:=800) (v:=801) p1 p2 W) W) (bw m0)
     have e:(dZ m F (t+1)*uZ m F i j t - lP m F i j i t*lP m F i j j t) / dZ m F t=uZ m F i j (t+1):=by rw [hlp,hlp]; exact Lin.xn h0
     rw [e] at h;exact h
    refine ae (aj (Cl (sT Y (a9 Z Z)) (Cp (aa (ae (aI Z (aw (aa (ae ?_)))))))))
    refine av (ae (aj (Cm Z (Cn Z (Cp (aa (ae ?_)))))))
    refine dN aU X X ?_
    refine ux (fun B=>ai Z) Z Z ?_
    refine ux (fun B=>ak 4 Z Z Z) Z Z ?_
    refine ux (fun B=>ab Z) Z Z ?_
    refine ux (fun B=>bC _ 1 Z Z Y) Z Z ?_
    refine ux (fun B=>an Z Z Y) Z Z ?_
    refine ux (fun B=>bn 2 Z Z Y) Z Z ?_
    refine ux (fun B=>ak 0 Z Z Z) Z Z ?_
    refine uxk (dw _ _ (by assumption) (by assumption)) Z ⟨H,H,Cq⟩ Z ?_
    refine ua Z (us Z ?_)
    refine RunU.nil (fun γ => ?_)
    refine cC (M' := [_,_,_,_,_,_,_]) Z (aa (ae ?_))
    refine dN aU X X ?_
    refine ux (fun B=>ai Z) Z Z ?_
    refine ux (fun B=>ak 5 Z Z Z) Z Z ?_
    refine ux (fun B=>ab Z) Z Z ?_
    refine ux (fun B=>an Z Z Y) Z Z ?_
    refine ux (fun B=>gU 4 Z Z Y Y) Z Z ?_
    refine ux (fun B=>ab Z) Z Z ?_
    refine ux (fun B=>an Z Z Y) Z Z ?_
    refine ux (fun B=>dM 2 Z Z Y (decide_eq_false Y) Y) Z Z ?_
    refine ux (fun B=>ai Z) Z Z ?_
    refine ux (fun B=>ak 5 Z Z Z) Z Z ?_
    refine ux (fun B=>ab Z) Z Z ?_
    refine ux (fun B=>an Z Z Y) Z Z ?_
    refine ux (fun B=>gU 4 Z Z Y Y) Z Z ?_
    refine ux (fun B=>ab Z) Z Z ?_
    refine ux (fun B=>an Z Z Y) Z Z ?_
    refine ux (fun B=>dM 2 Z Z Y (decide_eq_false Y) Y) Z Z ?_
    refine uxk (dw _ _ (by assumption) (by assumption)) Z ⟨H,H,Cq⟩ Z ?_
    refine ua Z (us Z ?_)
    refine RunU.nil (fun γ => ?_)
    refine cC (M' := [_,_,_,_,_,_,_,_]) Z (aa (a4 9 aU X W (Cl (ak 1 Z Z Z) (Cl (ak 0 Z Z Z) ?_))))
    refine Cl (am (lk _ _ (by assumption) (by assumption)) Z ⟨H,H,Cq⟩) ?_
    refine Cl (ai Z) (Cl (ak 6 Z Z Z) (Cm Z (Cl (an Z Z Y) (Cl (bn 4 Z Z Y) ?_))))
    refine Cl (am (hq) Z ⟨H,H,Cq⟩) ?_
    refine Cp (aB 2 Z Z Z Z Z (leN Z) Z (Cp (aA (aa (aj (Cl (bC _ 1 Z Z Y) (Cm Z (Cp ?_))))))))
    refine aS (t+1) Y Y Ch (.drop (.drop (.keep Ck (.keep Ck (.keep Ck (.keep Ck (.keep Ck (.keep Ck (.nil)))))))))
   ·have he:t=j:=by omega
    subst he
    by_cases hti:t<i
    ·refine ae (aj (Cl (sF Y (a9 Z Z)) (Cp (aa (ae (az Z (aX (au (au ?_)))))))))
     refine aC (aa (ae (ae (aj (Cm Z (Cm Z (Cl (sT Y (a9 Z Z)) (Cp (aa ?_)))))))))
     refine aI Z (ae (a4 7 aU X W (Cl (ai Z) (Cl (ak 4 Z Z Z) (Cm Z (Cl (an Z Z Y) (Cl (gU 3 Z Z Y Y) (Cm Z (Cl (ak 0 Z Z Z) ?_)))))))))
     refine Cp (Cl (an Z Z Y) ?_)
     (refine cZ 1 Z Z Z ?_ (decide_eq_false Y) ?_ Z ?_;omega;omega)
     refine Cp (aa (aX (au (aC (aa (aj (Cm Z (Cl (bC _ 1 Z Z Y) (Cn Z ?_)))))))))
     refine Cp ?_
     refine aS ((t+1,i+1,some bd,cap)) (⟨⟨by omega,fun h=>by omega⟩,(if_pos Y).symm⟩) Y Ch (.drop (.keep (Bs) (.keep Ck (.keep Ck (.keep Ck (.keep Ck (.nil)))))))
    ·have he:t=i:=by omega
     subst he
     by_cases htk:t<k
     ·have hnz:uZ m F t t t≠0:=Lin.cB hd (k:=t+1) Y
      have hsz : ¬ dQ (uZ m F t t t)=0:=fun h=>hnz ((fK _).1 h)
      refine ae (aj (Cl (sF Y (a9 Z Z)) (Cp (aa (ae (az Z (aX (au (au ?_)))))))))
      refine aC (aa (ae (ae (aj (Cm Z (Cm Z (Cl (sF Y (a9 Z Z)) (Cp (aa ?_)))))))))
      refine az Z (aw (aa (ae (ae (aj (Cl (ak 0 Z Z Z) ?_))))))
      refine Cl (am (gM _) Z ⟨H,Cq⟩) ?_
      refine Cl (sF (by assumption) (cN Z Z)) (Cp (aa (az Z (aw (aa (aj (Cl (ai Z) (Cl (ak 4 Z Z Z) (Cl (ak 0 Z Z Z) ?_)))))))))
      refine iX Z Z Z Z ?_
      (refine cV 2 Z Z Z (leN Z) ?_ ?_ Z (ltN Z) (fun sv104 cap104 => ?_);omega;omega)
      refine Cl (ai Z) (aB 4 Z Z Z Z Z (leN Z) Z (Cp (aA (aa (aj (Cm Z (Cl (bC _ 1 Z Z Y) (Cn Z (Cp ?_)))))))))
      refine aS ((t+1,t+2,sv104,cap104)) (⟨⟨Nat.le_refl _,fun _=>htk⟩,(if_neg Y).symm⟩) Y Ch (.drop (.keep (Bv) (.keep (Bw) (.keep Ck (.keep Ck (.keep Ck (.nil)))))))
     ·have he:t=k:=by omega
      subst he
      have hsz:dQ (uZ m F t t t)=0:=(fK _).2 hz
      refine ae (aj (Cl (sF Y (a9 Z Z)) (Cp (aa (ae (az Z (aX (au (au ?_)))))))))
      refine aC (aa (ae (ae (aj (Cm Z (Cm Z (Cl (sF Y (a9 Z Z)) (Cp (aa ?_)))))))))
      refine az Z (aw (aa (ae (ae (aj (Cl (ak 0 Z Z Z) ?_))))))
      refine Cl (am (gM _) Z ⟨H,Cq⟩) ?_
      refine Cl (sT (by assumption) (cN Z Z)) (Cp (aa (aI Z (ae (aj (stB Z Z Z (BuildK.nil (aR 5 Z Z Z Z (Cn Z ?_)))))))))
      refine Cp (aa (aD (aE (be (aE (aE (be (be (aE ?_)))))))))
      refine aE (be (aE ?_))
      exact eX Tryz.results45 (.cellW 5 Z Z H) (.tmp Z H)
  ·have he:j=i+1:=by omega
   rw [if_neg hji] at hln
   have hik:=hjk he
   subst he hln
   refine ae (ae (aj (Cm Z (Cm Z (Cl (sF Y (q6 Z Z)) (Cp (aa (az Z (aX ?_)))))))))
   refine au (au (aC (aA (aa (aj (Cl (bC _ 1 Z Z Y) (Cm Z (Cp ?_))))))))
   refine aS ((i+1,sv,cap,B')) Y Y Ch (.keep (Bu) (.keep Ck (.keep Ck (.keep Ck (.keep Ck (.nil))))))
theorem lK {m:Nat} {F:Nat→Nat→Int} : ∀ {n:Nat},dZ m F n=0 → ∃ k,k<n∧dZ m F k≠0∧dZ m F (k+1)=0
 | 0, h => absurd h Int.one_ne_zero
 | n + 1, h => by
  by_cases h0:dZ m F n=0
  ·obtain ⟨k,h1,h2,h3⟩:=lK h0
   exact ⟨k,by omega,h2,h3⟩
  ·exact ⟨n,Nat.lt_succ_self n,h0,h⟩
end Tor
end
section
namespace Tor
open Go Go.RowKit Go.Proofs
open Lin (dZ lZ uZ eh)
def ke (k:Nat) (D:Nat→Int) (L:Nat→Nat→Int):Prop:=(∀ i j,i<k→j<i→mr D L i j) ∧ ∀ p,p+1<k→oA D L p
theorem ke.next {k:Nat} {D:Nat→Int} {L:Nat→Nat→Int} (h:ke k D L) (h1 : ∀ j,j<k→mr D L k j) (h2:0<k→oA D L (k - 1)):ke (k+1) D L :=
 ⟨fun i j hi hj=>by
  by_cases e:i=k
  ·subst e;exact h1 j hj
  ·exact h.1 i j Y hj,fun p hp=>by
  by_cases e:p+1=k
  ·have:=h2 Y;rw [← e] at this;exact this
  ·exact h.2 p Y⟩
theorem DesB.l {m n i j:Nat} {F:Nat→Nat→Int} (h:DesB m n F) (hi:i<n) (hj:j≤i):dc (lZ m F i j):=h.u i j j (Nat.le_refl _) hj hi
attribute [local irreducible] J PJ aJ one slT cv bB bL exT cp eP aW aN slV VT.le Ret bK
attribute [local irreducible] aK
theorem eO (m n:Nat) (F:Nat→Nat→Int) (hn:n≤1048576) (hm:m≤1048576) (hb:DesB m n F) (v:Bool) (hv:v=true↔(dZ m F n≠0∧ke n (dZ m F) (lZ m F))):Ok Tryz.prog 15 [cg n m F] (one (.bool v)):=by
 have hva:=cT n m F
 refine Ok.enter Tryz.func15 Z Tryz.ntmps15 Z (fun w O => ?_)
 by_cases hd:dZ m F n=0
 ·have hvf:v=false:=by
   cases v with
   | false => rfl
   | true => exact absurd hd (hv.1 Z).1
  subst hvf
  obtain ⟨k,h1,h2,h3⟩:=lK hd
  have hde:=jG m n k F hn hm hb h1 h2 h3
  refine ae (aj ?_)
  refine aQ Z Z (ltN Z) (fun b1 => ?_)
  refine Cn Z (Cp (aa (ae (ae (aj (Cl (aL 0 Z Z) ?_))))))
  refine Cl (am (hva) Z ⟨H,Cq⟩) ?_
  refine Cl (bS Z) (Cp (aa (az Z (aw (aa (ae (aj (Cl (ai Z) (Cl (ak 0 Z Z Z) ?_)))))))))
  refine Cl (am (hde) Z ⟨H,Cq⟩) ?_
  refine Cm Z (Cl (ar Z Z) (Cl (ar Z Z) ?_))
  refine aT (T:=81) Z Z Z (fun b3 => ?_)
  refine aR 0 Z Z Z Z (Cn Z (Cp (aa (ae (ae (aj (Cm Z (Cl (bS Z) (Cp ?_)))))))))
  refine aa (aI Z (ae (aj (Cn Z (Cp (aa (aD (aE ?_))))))))
  refine aO Tryz.results15 (.tmp Z H)
 ·have hde:=kp m n F hn hm hb hd
  refine ae (aj ?_)
  refine aQ Z Z (ltN Z) (fun b1 => ?_)
  refine Cn Z (Cp (aa (ae (ae (aj (Cl (aL 0 Z Z) ?_))))))
  refine Cl (am (hva) Z ⟨H,Cq⟩) ?_
  refine Cl (bS Z) (Cp (aa (az Z (aw (aa (ae (aj (Cl (ai Z) (Cl (ak 0 Z Z Z) ?_)))))))))
  refine Cl (am (hde) Z ⟨H,Cq⟩) ?_
  refine Cm Z (Cl (ar Z Z) (Cl (ar Z Z) ?_))
  refine aT (T:=81) Z Z Z (fun b3 => ?_)
  refine aR 0 Z Z Z Z (Cn Z (Cp (aa (ae (ae (aj (Cm Z (Cl (bS Z) (Cp ?_)))))))))
  refine aa (az Z (aw (aa (ae (ae (aj (Cl (ai Z) (Cl (ak 0 Z Z Z) (Cl (aV Z) ?_)))))))))
  refine Cm Z (Cp (aa (av (cx (Γ' := [(2,_),(3,_),(20,_),(21,_)]) Cg (SubM.refl _) ?_))))
  refine bE (σ:=Nat) (Γk := [(3,_),(20,_)]) Cg (fun i => [(21,one (.int .i64 (i:Nat)))]) (fun i M0=>M0) (fun i=>i≤n∧ke i (dZ m F) (lZ m F)) (fun i=>n - i) (0) (⟨Nat.zero_le _,fun i j h=>by omega,fun p h=>by omega⟩) Ch (.keep Ck (.keep Ck (.nil))) (fun i hi => ?_)
  refine bY (Γ' := [(21,_),(3,_),(20,_)]) (M' := [_,_]) Z Z ?_
  obtain ⟨hi,hR⟩:=hi
  by_cases hin:i<n
  ·refine ae (aj (Cl (sT Y (a9 Z Z)) (Cp (aa (ae (aI Z (aw (aa (ae ?_)))))))))
   refine av (ae (aj (Cm Z (Cn Z (Cp (aa (ae (ae (aj ?_)))))))))
   refine Cl (ai Z) (Cl (ak 0 Z Z Z) (Cm Z (Cl (ax Z Z Y) (Cl (aG Z) (Cl (aV Z) (Cm Z (Cp (aa (av ?_)))))))))
   refine cx (Γ' := [(3,_),(5,_),(20,_),(21,_),(29,_),(30,_)]) Cg (SubM.refl _) ?_
   refine bE (σ:=Nat) (Γk := [(3,_),(5,_),(20,_),(21,_),(29,_)]) Cg (fun j => [(30,one (.int .i64 (j:Nat)))]) (fun j M0=>M0) (fun j=>j≤i ∧ ∀ b,b<j→mr (dZ m F) (lZ m F) i b) (fun j=>i - j) (0) (⟨Nat.zero_le _,fun b h=>by omega⟩) Ch (.keep Ck (.keep Ck (.nil))) (fun j hj => ?_)
   refine bY (Γ' := [(30,_),(3,_),(5,_),(20,_),(21,_),(29,_)]) (M' := [_,_]) Z Z ?_
   obtain ⟨hj,hS⟩:=hj
   by_cases hji:j<i
   ·have hsh:=pG n (dZ m F) (lZ m F) i j hn hin hji (hb.l hin Y)
    by_cases hs:mr (dZ m F) (lZ m F) i j
    ·rw [decide_eq_true hs] at hsh
     refine ae (aj (Cl (sT Y (a9 Z Z)) (Cp (aa (ae (aI Z (aw (aa (ae ?_)))))))))
     refine av (ae (aj (Cm Z (Cn Z (Cp (aa (ae (aj (Cl (aL 0 Z Z) ?_)))))))))
     refine Cm Z (Cm Z ?_)
     refine Cl (am (hsh) Z ⟨H,H,H,Cq⟩) ?_
     refine Cl (bS Z) (Cp (aa (az Z (aw (aA (aa (aj (Cl (bC _ 1 Z Z Y) (Cm Z ?_)))))))))
     refine Cp ?_
     refine aS (j+1) (⟨hji,fun b hb=>(Nat.lt_or_eq_of_le (Nat.lt_succ_iff.1 hb)).elim (hS b) (fun e=>e▸hs)⟩) Y Ch (.keep Ck (.keep Ck (.nil)))
    ·rw [decide_eq_false hs] at hsh
     have hvf:v=false:=by
      cases v with
      | false => rfl
      | true => exact absurd ((hv.1 Z).2.1 i j hin hji) hs
     subst hvf
     refine ae (aj (Cl (sT Y (a9 Z Z)) (Cp (aa (ae (aI Z (aw (aa (ae ?_)))))))))
     refine av (ae (aj (Cm Z (Cn Z (Cp (aa (ae (aj (Cl (aL 0 Z Z) ?_)))))))))
     refine Cm Z (Cm Z ?_)
     refine Cl (am (hsh) Z ⟨H,H,H,Cq⟩) ?_
     refine Cl (bS Z) (Cp (aa (aI Z (ae (aj (Cn Z (Cp (aa (aD ?_)))))))))
     refine be (aE (aE (be (aE (be (aE (aE (be (aE ?_)))))))))
     refine aO Tryz.results15 (.tmp Z H)
   ·have he:j=i:=by omega
    subst he
    by_cases hi0:j=0
    ·subst hi0
     have hR1:=hR.next hS (fun h=>by omega)
     refine ae (aj (Cl (sF Y (a9 Z Z)) (Cp (aa (ae (az Z (aX (au (au ?_)))))))))
     refine aC (aa (ae (aj (Cm Z (Cl (sF Y (ek Z Z)) (Cm Z (sn0 Z Z Z Z Z (sn0 Z Z Z Z Z (sn0 Z Z Z Z Z ?_)))))))))
     refine sn0 Z Z Z Z Z (Cl (bj Z Z) (Cp (aa (az Z (aw (aA (aa (aj (Cl (bC _ 1 Z Z Y) ?_)))))))))
     refine Cm Z (Cp ?_)
     refine aS (0+1) (⟨hin,hR1⟩) Y Ch (.keep Ck (.keep Ck (.nil)))
    ·have hor:=uL n (dZ m F) (lZ m F) j (j - 1) hn Y hin (by rw [show j - 1+1=j by omega]; exact hb.l hin Y) (hb.d Y) (hb.d Y) (hb.d Y)
     by_cases ho:oA (dZ m F) (lZ m F) (j - 1)
     ·rw [decide_eq_true ho] at hor
      have hR1:=hR.next hS (fun _=>ho)
      refine ae (aj (Cl (sF Y (a9 Z Z)) (Cp (aa (ae (az Z (aX (au (au ?_)))))))))
      refine aC (aa (ae (aj (Cm Z (Cl (sT Y (ek Z Z)) (Cm Z (Co (aL 0 Z Z) (Co (ab Z) ?_))))))))
      refine Co (am (hor) Z ⟨H,H,Cq⟩) ?_
      refine Co (bS Z) (Cl (a6 Z Z) (Cp (aa (az Z (aw (aA (aa (aj (Cl (bC _ 1 Z Z Y) ?_)))))))))
      refine Cm Z (Cp ?_)
      refine aS (j+1) (⟨hin,hR1⟩) Y Ch (.keep Ck (.keep Ck (.nil)))
     ·rw [decide_eq_false ho] at hor
      have hvf:v=false:=by
       cases v with
       | false => rfl
       | true => exact absurd ((hv.1 Z).2.2 (j - 1) Y) ho
      subst hvf
      refine ae (aj (Cl (sF Y (a9 Z Z)) (Cp (aa (ae (az Z (aX (au (au ?_)))))))))
      refine aC (aa (ae (aj (Cm Z (Cl (sT Y (ek Z Z)) (Cm Z (Co (aL 0 Z Z) (Co (ab Z) ?_))))))))
      refine Co (am (hor) Z ⟨H,H,Cq⟩) ?_
      refine Co (bS Z) (Cl (a6 Z Z) (Cp (aa (aI Z (ae (aj (Cn Z (Cp (aa ?_)))))))))
      refine aD (be (aE (aE (be (aE ?_)))))
      refine aO Tryz.results15 (.tmp Z H)
  ·have he:i=n:=by omega
   subst he
   have hvt:=hv.2 ⟨hd,hR⟩
   subst hvt
   refine ae (aj (Cl (sF Y (a9 Z Z)) (Cp (aa (ae (az Z (aX (au (au ?_)))))))))
   refine aC (aa (ae (aj (Cn Z (Cp (aa (aD ?_)))))))
   refine aO Tryz.results15 (.tmp Z H)
end Tor
end
section
namespace Tor
open Go Go.RowKit Go.Proofs
open Lin (dZ lZ uZ eh)
abbrev zrT:VT:=one (.agg #[.bool false, .slice none 0 0, .bool false, .slice none 0 0])
def grP (i j:Nat) (M:Nat→Nat→Rat):Nat→Nat→VT:=fun a b=>if a=i∧j≤b then zrT else bD (M a b)
theorem Bx {n i j:Nat} {M:Nat→Nat→Rat} {B:Nat→Nat} {Ce:Nat→Bool} : Own.le (rvO 45 (.agg 4) (fun q=>q) n B (fun q=>q) (dP (grP i j M) i j (bD (M i j))) Ce) (rvO 45 (.agg 4) (fun q=>q) n B (fun q=>q) (grP i (j+1) M) Ce):=c9 (fun _ _=>rfl) (fun _ _ _=>⟨rfl,rfl⟩) fun a b _ _ _=>by
 unfold dP
 by_cases h:a=i∧b=j
 ·rw [if_pos h,h.1,h.2,show grP i (j+1) M i j=bD (M i j) from if_neg Y]; exact VT.le_refl _
 ·rw [if_neg h]
  unfold grP
  by_cases h1:a=i∧j≤b
  ·rw [if_pos h1,if_pos Y]; exact VT.le_refl _
  ·rw [if_neg h1,if_neg Y]; exact VT.le_refl _
theorem By {i:Nat} {M:Nat→Nat→Rat} (j:Nat):VT.le zrT (grP i 0 M i j):=by
 rw [show grP i 0 M i j=zrT from if_pos ⟨rfl,Nat.zero_le _⟩]; exact VT.le_refl _
theorem AR {i a b:Nat} {M:Nat→Nat→Rat} (h:a<i):VT.le (bD (M a b)) (grP i 0 M a b):=by
 rw [show grP i 0 M a b=bD (M a b) from if_neg Y]; exact VT.le_refl _
theorem Bz {n i:Nat} {M:Nat→Nat→Rat} {B:Nat→Nat} {Ce:Nat→Bool} : Own.le (rvO 45 (.agg 4) (fun q=>q) n B (fun q=>q) (grP i i M) Ce) (rvO 45 (.agg 4) (fun q=>q) n B (fun q=>q) (fun a b=>bD (M a b)) Ce):=c9 (fun _ _=>rfl) (fun _ _ _=>⟨rfl,rfl⟩) fun a b _ _ hb=>by
 rw [show grP i i M a b=bD (M a b) from if_neg Y]; exact VT.le_refl _
def grM (m:Nat) (F:Nat→Nat→Int) (a b:Nat):Rat:=Rat.divInt (lZ m F a b) (dZ m F (b+1))
def grQ (m:Nat) (F:Nat→Nat→Int) (a:Nat):Rat:=Rat.divInt (dZ m F (a+1)) (dZ m F a)
theorem BA {T:TypeId} {b n j:Nat} {Q:Nat→Rat} : Own.le (aN (some b) T (.agg 4) n n (upd (fun q=>if q<j then bD (Q q) else zrT) j (bD (Q j)))) (aN (some b) T (.agg 4) n n (fun q=>if q<j+1 then bD (Q q) else zrT)):=bJ fun q _=>by
 unfold upd
 by_cases h:q=j
 ·subst h;rw [if_pos Z,if_pos (Nat.lt_succ_self q)]
 ·rw [if_neg h]
  dsimp only
  by_cases h2:q<j
  ·rw [if_pos h2,if_pos Y]
  ·rw [if_neg h2,if_neg Y]
abbrev grT (n:Nat) (M:Nat→Nat→Rat):VT:=slT .one n (fun i=>slT (.agg 4) i (fun j=>bD (M i j)))
attribute [local irreducible] J PJ aJ one slT cv bB bL exT cp eP aW aN slV VT.le Ret bK
attribute [local irreducible] rvO aK bD
theorem uO (m n:Nat) (F:Nat→Nat→Int) (hn:n≤1048576) (hm:m≤1048576) (hb:DesB m n F) (hd:dZ m F n=0):Ok Tryz.prog 11 [cg n m F] (bL [one (.slice none 0 0),one (.slice none 0 0),one (.int .i64 170)]):=by
 have hva:=cT n m F
 obtain ⟨k,h1,h2,h3⟩:=lK hd
 have hde:=jG m n k F hn hm hb h1 h2 h3
 refine Ok.enter Tryz.func11 Z Tryz.ntmps11 Z (fun w O => ?_)
 refine ae (aj ?_)
 refine aQ Z Z (ltN Z) (fun b1 => ?_)
 refine Cn Z (Cn Z (Cn Z (Cp (aa (ae (ae (aj (Cl (aL 0 Z Z) ?_))))))))
 refine Cl (am (hva) Z ⟨H,Cq⟩) ?_
 refine Cl (bS Z) (Cp (aa (az Z (aw (aa (ae (aj (Cl (ai Z) (Cl (ak 0 Z Z Z) ?_)))))))))
 refine Cl (am (hde) Z ⟨H,Cq⟩) ?_
 refine Cm Z (Cl (ar Z Z) (Cl (ar Z Z) ?_))
 refine aT (T:=81) Z Z Z (fun b5 => ?_)
 refine aR 0 Z Z Z Z (Cn Z (Cp (aa (ae (ae (aj (Cm Z (Cl (bS Z) (Cp ?_)))))))))
 refine aa (aI Z (ae (aj (Cn Z (Cn Z (Cn Z (Cp (aa (aD ?_)))))))))
 refine aE ?_
 refine iy Tryz.results11 (.tmp Z H) (.tmp Z H) (.tmp Z H)
set_option maxRecDepth 100000 in
theorem uP (m n:Nat) (F:Nat→Nat→Int) (hn:n≤1048576) (hm:m≤1048576) (hb:DesB m n F) (hd:dZ m F n≠0):Ok Tryz.prog 11 [cg n m F] (bL [grT n (grM m F),slT (.agg 4) n (fun i=>bD (grQ m F i)),one (.int .i64 0)]):=by
 have hva:=cT n m F
 have hde:=kp m n F hn hm hb hd
 refine Ok.enter Tryz.func11 Z Tryz.ntmps11 Z (fun w O => ?_)
 refine ae (aj ?_)
 refine aQ Z Z (ltN Z) (fun b1 => ?_)
 refine Cn Z (Cn Z (Cn Z (Cp (aa (ae (ae (aj (Cl (aL 0 Z Z) ?_))))))))
 refine Cl (am (hva) Z ⟨H,Cq⟩) ?_
 refine Cl (bS Z) (Cp (aa (az Z (aw (aa (ae (aj (Cl (ai Z) (Cl (ak 0 Z Z Z) ?_)))))))))
 refine Cl (am (hde) Z ⟨H,Cq⟩) ?_
 refine Cm Z (Cl (ar Z Z) (Cl (ar Z Z) ?_))
 refine aT (T:=81) Z Z Z (fun b5 => ?_)
 refine aR 0 Z Z Z Z (Cn Z (Cp (aa (ae (ae (aj (Cm Z (Cl (bS Z) (Cp ?_)))))))))
 refine aa (az Z (aw (aa (ae (aj (Cl (ai Z) (Cl (ak 1 Z Z Z) ?_)))))))
 refine bX n n Z Z Z Z (Nat.le_refl _) Z Z Y Z Z (fun bm => ?_)
 refine Cn Z (Cp (aa (ae (aj (Cl (ai Z) (Cl (ak 2 Z Z Z) ?_))))))
 refine bX n n Z Z Z Z (Nat.le_refl _) Z Z Y Z Z (fun bq => ?_)
 refine Cn Z (Cp (aa (ae (ae (aj (Cm Z (Cl (f6 Z) (Cm Z (Cp ?_)))))))))
 refine aa (av ?_)
 refine eS (jC (T:=45) (L := .agg 4) (c:=fun q=>q) (n:=n) (B:=fun _=>0) (C:=fun q=>q) (φ:=fun a b=>bD (grM m F a b)) (Ce:=fun q=>decide (0≤q)) (fun i _=>decide_eq_true (Nat.zero_le i))) ?_
 refine cx (Γ' := [(2,_),(3,_),(4,_),(5,_),(7,_),(8,_),(29,_),(30,_)]) Cg (SubM.refl _) ?_
 refine bE (σ:=Nat × (Nat→Nat)) (Γk := [(2,_),(3,_),(4,_),(5,_),(7,_),(8,_),(29,_)]) Cg (fun s => [(30,one (.int .i64 (s.1:Nat)))]) (fun s M0=>(((M0.set 0 (rvO 45 (.agg 4) (fun q=>q) n s.2 (fun q=>q) (fun a b=>bD (grM m F a b)) (fun q=>decide (s.1≤q)))).set 1 (aN (some bq) 45 (.agg 4) n n (fun q=>if q<s.1 then bD (grQ m F q) else zrT))).set 2 (aN (some bm) 31 .one n n (fun q=>if q<s.1 then one (slV (some (s.2 q)) q q) else one (.slice none 0 0))))) (fun s=>s.1≤n) (fun s=>n - s.1) ((0,fun _=>0)) (Nat.zero_le _) Ch (.keep Ck (.keep Ck (.keep Ck (.keep Ck (.keep Ck (.nil)))))) (fun s hs => ?_)
 refine bY (Γ' := [(30,_),(2,_),(3,_),(4,_),(5,_),(7,_),(8,_),(29,_)]) (M' := [_,_,_,_,_]) Z Z ?_
 obtain ⟨i,B⟩:=s
 dsimp only at hs ⊢
 by_cases hi:i<n
 ·refine ae (aj (Cl (sT Y (a9 Z Z)) (Cp (aa (ae (aI Z (aw (aa (ae ?_)))))))))
  refine av (ae (aj (Cm Z (Cn Z (Cp (aa (ae (aj (Cm Z ?_)))))))))
  refine Cm Z (Cm Z ?_)
  refine bX i i Z Z Z Z (Nat.le_refl _) Z Z Y Z Z (fun b => ?_)
  refine Cl (an Z Z Y) ?_
  (refine ay 3 Z Z Z ?_ Z ?_;omega)
  refine Cp (aa (ae (ae (aj (Cm Z (Cm Z (Cl (an Z Z Y) (Cl (bn 3 Z Z Y) (kC (t:=41) (ψ:=one (slV (some b) i i)) Z (by unfold upd;rw [if_pos Z]; exact VT.le_refl _) ?_)))))))))
  refine fv (je (c:=fun q=>q) (i:=i) hi (decide_eq_true (Nat.le_refl i))) ?_
  refine fv (ConvM.le (lG (C:=fun q=>q) (χ:=grP i 0 (grM m F)) (fun j _=>By j) (fun q j hq _=>AR hq))) ?_
  refine fv (ConvM.cons (ConvM.cons (ConvM.le (b:=aN (some bm) 31 .one n n (fun q=>if q<i+1 then one (slV (some ((fun q=>if q=i then b else B q) q)) q q) else one (.slice none 0 0))) (na (c:=fun q=>q) (C:=fun q=>q))))) ?_
  generalize (fun q=>if q=i then b else B q)=B' at *
  refine Cl (f6 Z) (Cm Z (Cp (aa (av (cx (Γ' := [(2,_),(3,_),(4,_),(5,_),(7,_),(8,_),(9,_),(29,_),(30,_),(42,_),(43,_)]) Cg (SubM.refl _) ?_)))))
  refine bE (σ:=Nat) (Γk := [(2,_),(3,_),(4,_),(5,_),(7,_),(8,_),(9,_),(29,_),(30,_),(42,_)]) Cg (fun j => [(43,one (.int .i64 (j:Nat)))]) (fun j M0=>(M0.set 0 (rvO 45 (.agg 4) (fun q=>q) n B' (fun q=>q) (grP i j (grM m F)) (fun q=>decide (i+1≤q))))) (fun j=>j≤i) (fun j=>i - j) (0) (Nat.zero_le _) Ch (.keep Ck (.keep Ck (.keep Ck (.keep Ck (.keep Ck (.nil)))))) (fun j hj => ?_)
  refine bY (Γ' := [(43,_),(2,_),(3,_),(4,_),(5,_),(7,_),(8,_),(9,_),(29,_),(30,_),(42,_)]) (M' := [_,_,_,_,_]) Z Z ?_
  by_cases hji:j<i
  ·have h1:dZ m F (j+1)≠0:=Lin.cB hd Y
   have hof:=w8 (lZ m F i j) (dZ m F (j+1)) h1 (bw (hb.l hi Y)) (bw (hb.d Y))
   refine ae (aj (Cl (sT Y (a9 Z Z)) (Cp (aa (ae (aI Z (aw (aa (ae ?_)))))))))
   refine av (ae (aj (Cm Z (Cn Z (Cp (aa ?_))))))
   apply mb (Γ1 := [(43,_),(2,_),(3,_),(4,_),(5,_),(7,_),(8,_),(9,_),(29,_),(30,_),(42,_)]) (M1 := [_,_,_,_,_]) 23 3 [] [22] aU X W
   ·refine Cm Z (Cm Z (Cl (an Z Z Y) (Cl (gU 2 Z Z Y Y) (Cm Z (Cl (ai Z) (Cl (ak 3 Z Z Z) (Cm Z (Cl (ax Z Z Y) (Cl (aG Z) ?_)))))))))
    refine Cm Z (Cl (ax Z Z Y) (Cl (aG Z) (Cl (ai Z) (Cl (ak 3 Z Z Z) (Cm Z (Cl (bC _ 1 Z Z Y) (Cl (ax Z Z Y) (Cl (aG Z) ?_))))))))
    refine Cl (am (hof) Z ⟨H,H,Cq⟩) ?_
    refine Cm Z (Cl (ar Z Z) (Cl (ar Z Z) (Cp ?_)))
    refine wv (Γe := [(43,_),(2,_),(3,_),(4,_),(5,_),(7,_),(8,_),(9,_),(29,_),(30,_),(42,_),(50,_),(51,_),(67,_),(46,_)]) (rem := [23,24]) Z Cj Z ?_
    refine aq (rem' := [24]) (i:=23) X Z Z ?_ (ip.cons Z (StepG.plain (ar Z Z) Z Z (ltN Z)) Z ip.nil)
    refine Cl (an Z Z Y) (Cp ?_)
    refine ⟨rfl,?_⟩
    refine aq (rem' := []) (i:=24) X Z Z ?_ (ip.cons Z (StepG.plain (ar Z Z) Z Z (ltN Z)) Z ip.nil)
    (refine cZ 0 Z Z Z ?_ (decide_eq_false Y) ?_ Z ?_;omega;omega)
    refine Cp ?_
    refine ⟨rfl,?_⟩
    refine a5 Cj (SubM.refl _) (ip.cons Z (StepG.plain (ar Z Z) Z Z (ltN Z)) Z ip.nil)
   ·refine aA (aa (aj (Cl (bC _ 1 Z Z Y) (Cm Z (Cp ?_)))))
    refine aS (j+1) (hji) Y Ch (.keep (Bx) (.keep Ck (.keep Ck (.keep Ck (.keep Ck (.nil))))))
  ·have he:j=i:=by omega
   subst he
   have h1:dZ m F j≠0:=Lin.cB hd Y
   have hof:=w8 (dZ m F (j+1)) (dZ m F j) h1 (bw (hb.d Y)) (bw (hb.d Y))
   refine ae (aj (Cl (sF Y (a9 Z Z)) (Cp (aa (ae (az Z (aX (au (au ?_)))))))))
   refine aC (aa ?_)
   apply mb (Γ1 := [(30,_),(2,_),(3,_),(4,_),(5,_),(7,_),(8,_),(29,_)]) (M1 := [_,_,_,_,_]) 17 3 [] [16] aU X W
   ·refine Cm Z (Cm Z (Cl (ai Z) (Cl (ak 3 Z Z Z) (Cm Z (Cl (bC _ 1 Z Z Y) (Cl (ax Z Z Y) (Cl (aG Z) (Cl (ai Z) (Cl (ak 3 Z Z Z) ?_)))))))))
    refine Cm Z (Cl (ax Z Z Y) (Cl (aG Z) ?_))
    refine Cl (am (hof) Z ⟨H,H,Cq⟩) ?_
    refine Cm Z (Cl (ar Z Z) (Cl (ar Z Z) (Cp ?_)))
    refine wv (Γe := [(30,_),(2,_),(3,_),(4,_),(5,_),(7,_),(8,_),(29,_),(72,_),(73,_),(86,_),(71,_)]) (rem := [17,18]) Z Cj Z ?_
    refine aq (rem' := [18]) (i:=17) X Z Z ?_ (ip.cons Z (StepG.plain (ar Z Z) Z Z (ltN Z)) Z ip.nil)
    refine Cl (an Z Z Y) (Cp ?_)
    refine ⟨rfl,?_⟩
    refine aq (rem' := []) (i:=18) X Z Z ?_ (ip.cons Z (StepG.plain (ar Z Z) Z Z (ltN Z)) Z ip.nil)
    (refine ay 1 Z Z Z ?_ Z ?_;omega)
    refine Cp ?_
    refine ⟨rfl,?_⟩
    refine a5 Cj (SubM.refl _) (ip.cons Z (StepG.plain (ar Z Z) Z Z (ltN Z)) Z ip.nil)
   ·refine aA (aa (aj (Cl (bC _ 1 Z Z Y) (Cm Z (Cp (gm (ConvM.le Bz) ?_))))))
    refine aS ((j+1,B')) (hi) Y Ch (.keep Ck (.keep (BA) (.keep Ck (.keep Ck (.keep Ck (.nil))))))
 ·have he:i=n:=by omega
  subst he
  refine ae (aj (Cl (sF Y (a9 Z Z)) (Cp (aa (ae (az Z (aX (au (au ?_)))))))))
  refine aC (aa (ae (aj (Cm Z (Cm Z (Cn Z (Cn Z (Cn Z (Cp ?_)))))))))
  refine aa (aD ?_)
  refine hJ [aN (some bq) 45 (.agg 4) i i (fun q=>if q<i then bD (grQ m F q) else zrT)] (Kp := [_,_,_,_]) (Kp' := [_,_,_,_]) (List.Perm.swap _ _ _) (EntM.refl _) (v7.set (t:=3) (ψ:=slT (.agg 4) i (fun q=>bD (grQ m F q))) Z (Ent.slE List.mem_cons_self (fun q hq=>by rw [if_pos hq]; exact Ent.refl _))) ?_
  refine hJ [aN (some bm) 31 .one i i (fun q=>if q<i then one (slV (some (B q)) q q) else one (.slice none 0 0)),rvO 45 (.agg 4) (fun q=>q) i B (fun q=>q) (fun a b=>bD (grM m F a b)) (fun q=>decide (i≤q))] (Kp := [_,_]) (Kp' := [_,_]) (List.Perm.swap _ _ _) (EntM.refl _) (v7.set (t:=2) (ψ:=grT i (grM m F)) Z (Ent.slE List.mem_cons_self (fun q hq=>by rw [if_pos hq]; exact Ent.rvo (List.mem_cons_of_mem _ List.mem_cons_self) hq (decide_eq_false Y)))) ?_
  refine iy Tryz.results11 (.tmp Z H) (.tmp Z H) (.tmp Z H)
end Tor
end
section
namespace Tor
open Go Go.RowKit Go.Proofs
attribute [local irreducible] J PJ aJ one slT cv bB bL exT cp eP aW aN slV VT.le Ret bK
attribute [local irreducible] aK bD
theorem oF (n:Nat) (M M':Nat→Nat→Rat) (hn:n≤1048576) (h : ∀ i j,i<n→j<i→M i j=M' i j):Ok Tryz.prog 13 [grT n M,grT n M'] (one (.bool true)):=by
 refine Ok.enter Tryz.func13 Z Tryz.ntmps13 Z (fun w O => ?_)
 refine ae (aj (Cn Z (Cp (aa (ae (ae (aj (Cm Z (Cl (aV Z) ?_)))))))))
 refine Cm Z (Cl (aV Z) (Cl (sF Y (c8 Z Z)) (Cp (aa (az Z (aw (aa (ae (ae ?_)))))))))
 refine aj (Cn Z (Cp (aa (av (cx (Γ' := [(0,_),(1,_),(4,_),(5,_)]) Cg (SubM.refl _) ?_)))))
 refine bE (σ:=Nat) (Γk := [(0,_),(1,_)]) Cg (fun i => [(5,one (.int .i64 (i:Nat)))]) (fun i M0=>M0) (fun i=>i≤n) (fun i=>n - i) (0) (Nat.zero_le _) Ch (.nil) (fun i hi => ?_)
 refine bY (Γ' := [(5,_),(0,_),(1,_)]) (M' := []) Z Z ?_
 by_cases hin:i<n
 ·have hl:=jY i i (M i) (M' i) Y
  rw [decide_eq_true ⟨rfl,fun j hj=>h i j hin hj⟩] at hl
  refine ae (ae (aj (Cm Z (Cm Z (Cl (aV Z) (Cl (sT Y (a9 Z Z)) (Cp (aa (aI Z ?_)))))))))
  refine aw (aa (ae (av (ae (a4 10 aU X W (Cm Z (Cm Z (Cl (ax Z Z Y) (Cl (aG Z) ?_)))))))))
  refine Cm Z (Cm Z (Cl (ax Z Z Y) (Cl (aG Z) ?_)))
  refine Cl (am (hl) Z ⟨H,H,Cq⟩) ?_
  refine Cl (bS Z) (Cp (Cp (aa (az Z (aw (aA (aa (aj (Cm Z ?_)))))))))
  refine Cl (bC _ 1 Z Z Y) (Cn Z (Cp ?_))
  refine aS (i+1) (hin) Y Ch (.nil)
 ·have he:i=n:=by omega
  subst he
  refine ae (ae (aj (Cm Z (Cm Z (Cl (aV Z) (Cl (sF Y (a9 Z Z)) (Cp (aa (az Z ?_)))))))))
  refine aX (au (au (aC (aa (ae (aj (Cn Z (Cp (aa ?_)))))))))
  refine aD ?_
  refine aO Tryz.results13 (.tmp Z H)
end Tor
end
section
namespace Tor
open Go Go.RowKit Go.Proofs
attribute [local irreducible] J PJ aJ one slT cv bB bL exT cp eP aW aN slV VT.le Ret bK
attribute [local irreducible] aK bD
theorem xC (n:Nat) (f g:Nat→Rat) (x y z:Nat) (hn:n≤1048576) (hx:x+x≤1099511627700) (hz:y+z+1≤1099511627700) (hf : ∀ i,i<n→qz x (f i)) (hg : ∀ i,i<n→qz x (g i)) (hm : ∀ i,i<n→qz z (f i*g i)) (hp : ∀ i,i≤n→qz y (Lin.sm i (fun k=>f k*g k))):Ok Tryz.prog 49 [slT (.agg 4) n (fun i=>bD (f i)),slT (.agg 4) n (fun i=>bD (g i))] (bD (Lin.sm n (fun k=>f k*g k))):=by
 have h1:=jA 0 W W
 rw [show (((0:Int)):Rat)=Lin.sm 0 (fun k=>f k*g k) from rfl] at h1
 refine Ok.enter Tryz.func49 Z Tryz.ntmps49 Z (fun w O => ?_)
 refine ae (aj ?_)
 refine aT (T:=45) Z Z Z (fun b4 => ?_)
 refine Cp (aa (ae (aj ?_)))
 refine Cl (am (h1) Z ⟨H,Cq⟩) ?_
 refine aT (T:=45) Z Z Z (fun b5 => ?_)
 refine dF 0 Z Z Z Z (Cp (aa (ae (ae (aj (Cn Z (Cp (aa (av ?_)))))))))
 refine cx (Γ' := [(0,_),(1,_),(4,_),(5,_),(6,_)]) Cg (SubM.refl _) ?_
 refine bE (σ:=Nat) (Γk := [(0,_),(1,_),(4,_),(5,_)]) Cg (fun i => [(6,one (.int .i64 (i:Nat)))]) (fun i M0=>(M0.set 0 (aW b5 45 4 [(0, .agg 4,bD (Lin.sm i (fun k=>f k*g k)))]))) (fun i=>i≤n) (fun i=>n - i) (0) (Nat.zero_le _) Ch (.keep Ck (.keep Ck (.nil))) (fun i hi => ?_)
 refine bY (Γ' := [(6,_),(0,_),(1,_),(4,_),(5,_)]) (M' := [_,_]) Z Z ?_
 by_cases hin:i<n
 ·have c1:=jB (f i) (g i) x x (hf i hin) (hg i hin) hx
  have c2:Ok Tryz.prog 22 [bD (Lin.sm i (fun k=>f k*g k)),bD (f i*g i)] (bD (Lin.sm (i+1) (fun k=>f k*g k))):=r5 (Lin.sm i (fun k=>f k*g k)) (f i*g i) y z (hp i hi) (hm i hin) hz
  refine ae (ae (aj (Cm Z (Cm Z (Cl (aV Z) (Cl (sT Y (a9 Z Z)) (Cp (aa (aI Z ?_)))))))))
  refine aw (aa (ae (av (a4 11 aU X W (Cl (ak 0 Z Z Z) (Cm Z (Cm Z (Cl (ax Z Z Y) (Cl (aG Z) ?_)))))))))
  refine Cm Z (Cm Z (Cl (ax Z Z Y) (Cl (aG Z) ?_)))
  refine Cl (am (c1) Z ⟨H,H,Cq⟩) ?_
  refine Cl (am (c2) Z ⟨H,H,Cq⟩) ?_
  refine Cp (aB 0 Z Z Z Z Z (leN Z) Z (Cp (aA (aa (aj (Cm Z (Cl (bC _ 1 Z Z Y) (Cn Z (Cp ?_)))))))))
  refine aS (i+1) (hin) Y Ch (.keep Ck (.keep Ck (.nil)))
 ·have he:i=n:=by omega
  subst he
  refine ae (ae (aj (Cm Z (Cm Z (Cl (aV Z) (Cl (sF Y (a9 Z Z)) (Cp (aa (az Z ?_)))))))))
  refine aX (au (au (aC (aa (ae (aj (Cl (ak 0 Z Z Z) (dF 1 Z Z Z Z (Cp ?_)))))))))
  refine aa (aD ?_)
  refine aO Tryz.results49 (.cellB 1 Z Z Z H)
end Tor
end
section
namespace Tor
open Lin (dZ lZ uZ eh shZ exZ dR et qq cf qF dot jm cB jg exI rr)
def jH (n m:Nat) (F:Nat→Nat→Int):Nat→Nat→Int:=fun i j=>if i<n∧j<m then F i j else 0
theorem sk {n m i j:Nat} {F:Nat→Nat→Int} (hi:i<n) (hj:j<m):F i j=jH n m F i j:=(if_pos ⟨hi,hj⟩).symm
theorem oG {m:Nat} {u u' v v':Nat→Int} (h : ∀ k,k<m→u k=u' k) (h2 : ∀ k,k<m→v k=v' k):eh m u v=eh m u' v':=Lin.pu fun k hk=>by rw [h k hk,h2 k hk]
theorem sn {m n i j t:Nat} {F G:Nat→Nat→Int} (h : ∀ a b,a<n→b<m→F a b=G a b) (hi:i<n) (hj:j<n) (ht:t<n):uZ m F i j t=uZ m G i j t :=
 Lin.n8 fun a b ha hb=>oG (fun k hk=>h _ k (by unfold rr;split <;> omega) hk) (fun k hk=>h _ k (by unfold rr;split <;> omega) hk)
theorem xD {m n k:Nat} {F G:Nat→Nat→Int} (h : ∀ a b,a<n→b<m→F a b=G a b) (hk:k≤n):dZ m F k=dZ m G k:=by
 cases k with
 | zero => rfl
 | succ k => exact sn h hk hk hk
theorem xE {m n i j:Nat} {F G:Nat→Nat→Int} (h : ∀ a b,a<n→b<m→F a b=G a b) (hi:i<n) (hj:j<n):lZ m F i j=lZ m G i j:=sn h hi hj hj
theorem zn {m:Nat} {u:Nat→Int} {N:Nat} (h:eh m u u≤(N:Int)) : ∀ k,k<m→u k*u k≤(N:Int):=by
  induction m with
  | zero => exact fun k hk => absurd hk (Nat.not_lt_zero _)
  | succ m ih =>
    intro k hk
    have h0 : ∀ q:Nat,0≤eh q u u:=fun q=>by
      induction q with
      | zero => exact Int.le_refl _
      | succ q iq => have := Int.mul_self_le_mul_self (a := 0) (b := 0) Y Y; show 0 ≤ eh q u u + u q * u q; have h3 : 0 ≤ u q * u q := by rcases Int.le_total 0 (u q) with h | h; exact Int.mul_nonneg h h; exact Int.mul_nonneg_of_nonpos_of_nonpos h h
                     omega
    have h1:eh m u u+u m*u m≤(N:Int):=h
    have h2:0≤u m*u m:=by rcases Int.le_total 0 (u m) with h | h;exact Int.mul_nonneg h h;exact Int.mul_nonneg_of_nonpos_of_nonpos h h
    rcases Nat.lt_or_eq_of_le (Nat.lt_succ_iff.1 hk) with h3 | h3
    · exact ih Y k h3
    · subst h3;have:=h0 k;omega
theorem xF {n m N:Nat} {F:Nat→Nat→Int} (h : ∀ a,a<n→eh m (F a) (F a)≤(N:Int)) {B:Nat} (hB:N<(B+1)*(B+1)) : ∀ i j,(jH n m F i j).natAbs≤B:=fun i j=>by
 unfold jH;split
 ·rename_i hh
  have h1:=zn (h i hh.1) j hh.2
  rcases Nat.lt_or_ge B (F i j).natAbs with h2 | h2
  ·exfalso
   have h3:(B+1)*(B+1)≤(F i j).natAbs*(F i j).natAbs:=Nat.mul_le_mul h2 h2
   have h4:((F i j).natAbs*(F i j).natAbs:Int)=F i j*F i j:=by
    have:=Int.natAbs_mul_self (a:=F i j);exact_mod_cast this
   have h5:(((B+1)*(B+1):Nat):Int)≤((F i j).natAbs*(F i j).natAbs:Nat):=by exact_mod_cast h3
   rw [Int.natCast_mul (F i j).natAbs,h4] at h5
   have h6:((N:Nat):Int)<(((B+1)*(B+1):Nat):Int):=by exact_mod_cast hB
   omega
  ·exact h2
 ·exact Nat.zero_le _
structure LB (m n N0:Nat) (F:Nat→Nat→Int):Prop where
 m4:m≤4
 n4:n≤4
 n0:1≤N0
 nn:N0≤2^11
 nrm : ∀ a,a<n→eh m (F a) (F a)≤(N0:Int)
 f : ∀ i j,(F i j).natAbs≤64
structure LAll (m n N0:Nat) (F:Nat→Nat→Int) (s:LS) (e t k:Nat):Prop where
 inv:LInv m n (2*N0) 64 (N0^20) F s e t k
 vol:dZ m s.R n=dZ m F n
theorem qE.one {n:Nat} : qE n idF idF:=fun i j hi hj=>by
 unfold idF
 rw [mq (k:=i) hi (fun t _ hne=>by rw [if_neg (fun e=>hne e.symm),Int.zero_mul]),if_pos Z,Int.one_mul]
theorem EqP.one {n m:Nat} {F:Nat→Nat→Int} : EqP n m F idF F:=fun i j hi hj=>by
 unfold idF
 rw [mq (k:=i) hi (fun t _ hne=>by rw [if_neg (fun e=>hne e.symm),Int.zero_mul]),if_pos Z,Int.one_mul]
section
variable {m n N0 e t k:Nat} {F:Nat→Nat→Int} {s:LS}
theorem LB.norm (h:LB m n N0 F) {a:Nat} (ha:a<n):dot m (qF F a) (qF F a)≤(N0:Rat):=by
 rw [← Lin.j7]; exact_mod_cast h.nrm a ha
theorem LAll.start (h:LB m n N0 F) (hd:dZ m F n≠0):LAll m n N0 F ⟨F,idF,idF⟩ 0 0 1:=by
 have hq : ∀ a,a<n→qq m (qF F) a≤(N0:Rat):=fun a ha=>by
  have h1:=Lin.za (m:=m) (A:=qF F) a
  have h2:=h.norm ha
  grind
 have c2:(((2*N0:Nat)):Rat)=2*(N0:Rat):=by exact_mod_cast Z
 have hN:(0:Rat)≤(N0:Rat):=by exact_mod_cast Nat.zero_le _
 refine ⟨⟨EqP.one,qE.one,hd,fun a ha => ?_,fun a ha => ?_,?_,?_,fun a b ha hb=>absurd hb Y,fun p hp=>absurd hp Y⟩,rfl⟩
 ·rw [c2]; have:=h.norm ha;show dot m (qF F a) (qF F a)≤_;grind
 ·rw [c2]; have:=hq a ha;show 2*qq m (qF F) a≤_;grind
 ·have h1:=Lin.uJ hq (Nat.le_refl n)
  show 4^0*jm m n F≤3^0*_
  rw [Nat.one_mul,Nat.one_mul]
  refine Nat.le_trans h1 (Nat.pow_le_pow_right h.n0 ?_)
  exact Nat.le_trans (Nat.mul_le_mul h.n4 (Nat.succ_le_succ h.n4)) W
 ·rw [Nat.pow_zero,Nat.one_mul]
  have hi : ∀ i j,(idF i j).natAbs≤64:=fun i j=>by unfold idF;split <;> decide
  exact ⟨h.f,hi,hi⟩
theorem LAll.e_le (h:LAll m n N0 F s e t k) (hb:LB m n N0 F):e≤662:=by
 have h1:=h.inv.pot
 have h2:1≤jm m n s.R:=Lin.xw h.inv.dn
 have h3:N0^20≤2^220:=Nat.le_trans (Nat.pow_le_pow_left hb.nn 20) (by rw [← Nat.pow_mul]; exact Nat.le_refl _)
 have h4:4^e*1≤4^e*jm m n s.R:=Nat.mul_le_mul_left _ h2
 have h5:3^e*N0^20≤3^e*2^220:=Nat.mul_le_mul_left _ h3
 rw [Nat.mul_one] at h4
 exact zg (q:=220) (Nat.le_trans h4 (Nat.le_trans h1 h5))
theorem LB.p4 (h:LB m n N0 F):(2*N0)^4≤2^48:=Nat.le_trans (Nat.pow_le_pow_left (show 2*N0≤2^12 by have:=h.nn;omega) 4) W
theorem LB.p5 (h:LB m n N0 F):(2*N0)^4+2≤2^49:=by have:=h.p4;omega
theorem so {x a:Nat} (b:Nat) {c:Nat} (h:x≤2^a) (hc:a*b=c):x^b≤2^c:=by
 subst hc;rw [Nat.pow_mul]; exact Nat.pow_le_pow_left h b
theorem LB.grow (h:LB m n N0 F) {t i:Nat} (ht:t≤1330) (hi:i≤3):(((2*N0)^4+2)^4)^i*(((((2*N0)^4+2)^4)^3)^t*64)≤2^785000:=by
 generalize he:(785000:Nat)=E
 have h1:=so (a:=49) (c:=196) 4 h.p5 Z
 obtain ⟨a,ha⟩ : ∃ a,a=196:=⟨_,rfl⟩
 rw [← ha] at h1
 generalize ((2*N0)^4+2)^4=Cb at *
 have h2:=so (c:=a*3) 3 h1 Z
 have h3:=so (c:=a*3*t) t h2 Z
 have h4:=so (c:=a*i) i h1 Z
 have h5:(Cb^3)^t*64≤2^(a*3*t+6):=by rw [Nat.pow_add]; exact Nat.mul_le_mul h3 W
 refine Nat.le_trans (Nat.mul_le_mul h4 h5) ?_
 rw [← Nat.pow_add]
 exact Nat.pow_le_pow_right W (by subst ha;omega)
theorem LAll.bndA (h:LAll m n N0 F s e t k) (hb:LB m n N0 F) (ht:t≤1330):BndL (2^785000) s :=
 h.inv.bnd.mono (by have:=hb.grow ht (Nat.zero_le 3);rwa [Nat.pow_zero,Nat.one_mul] at this)
structure Ph (m n N0:Nat) (F:Nat→Nat→Int) (step k e t:Nat) (s:LS):Prop where
 all:LAll m n N0 F s e t k
 k1:1≤k
 te:t≤2*e+k
 kx:k≤n∨k=1
 p0:step=0→t+1≤2*e+k
 kn:step=1∨step=2∨step=3→k<n
 sh:step=1∨step=3 → ∀ b,b<k→dR m s.R k b
 no:step=2 → ¬ et m s.R (k - 1)
 yes:step=3→et m s.R (k - 1)
 p4:step=4→n≤k
 st:step≤4
theorem Ph.start (h:LB m n N0 F) (hd:dZ m F n≠0):Ph m n N0 F 0 1 0 0 ⟨F,idF,idF⟩ :=
 ⟨LAll.start h hd,Nat.le_refl _,by omega, .inr Z,fun _=>by omega,fun h=>by omega,fun h=>by omega,fun h=>by omega,fun h=>by omega,fun h=>by omega,by omega⟩
theorem Ph.fin (h:Ph m n N0 F 0 k e t s) (hk:n≤k):Ph m n N0 F 4 k e t s :=
 ⟨h.all,h.k1,h.te,h.kx,fun h=>by omega,fun h=>by omega,fun h=>by omega,fun h=>by omega,fun h=>by omega,fun _=>hk,by omega⟩
theorem Ph.short (hb:LB m n N0 F) (h:Ph m n N0 F 0 k e t s) (hk:k<n):Ph m n N0 F 1 k e (t+1) (stA m k s k):=by
 obtain ⟨h1,h2⟩:=h.all.inv.short hk hb.n4
 have h3:=h.all.inv.sh hk hb.n4 k (Nat.le_refl k)
 exact ⟨⟨h1,by rw [h3.dz]; exact h.all.vol⟩,h.k1,h.p0 Z,h.kx,fun h=>by omega,fun _=>hk,fun _=>h2,fun h=>by omega,fun h=>by omega,fun h=>by omega,by omega⟩
theorem Ph.bad (h:Ph m n N0 F 1 k e t s) (ho : ¬ et m s.R (k - 1)):Ph m n N0 F 2 k e t s :=
 ⟨h.all,h.k1,h.te,h.kx,fun h=>by omega,fun _=>h.kn (.inl Z),fun h=>by omega,fun _=>ho,fun h=>by omega,fun h=>by omega,by omega⟩
theorem Ph.good (h:Ph m n N0 F 1 k e t s) (ho:et m s.R (k - 1)):Ph m n N0 F 3 k e t s :=
 ⟨h.all,h.k1,h.te,h.kx,fun h=>by omega,fun _=>h.kn (.inl Z),fun _=>h.sh (.inl Z),fun h=>by omega,fun _=>ho,fun h=>by omega,by omega⟩
theorem Ph.exch (h:Ph m n N0 F 2 k e t s):Ph m n N0 F 0 (max (k - 1) 1) (e+1) t (exL (k - 1) s):=by
 have hk:=h.kn (.inr (.inl Z))
 have hk1:=h.k1
 have h1:=h.all.inv.ex hk hk1 (h.no Z)
 have hm:k - 1≤max (k - 1) 1:=Nat.le_max_left _ _
 have hm1:1≤max (k - 1) 1:=Nat.le_max_right _ _
 have hm2:max (k - 1) 1≤k:=Nat.max_le.2 ⟨by omega,hk1⟩
 have:=h.te
 refine ⟨⟨h1,?_⟩,hm1,by omega, .inl Y,fun _=>by omega,fun h=>by omega,fun h=>by omega,fun h=>by omega,fun h=>by omega,fun h=>by omega,by omega⟩
 have Cf:dZ m s.R (k - 1+2)≠0:=cB h.all.inv.dn Y
 show dZ m (exZ (k - 1) s.R) n=_
 rw [Lin.nh Cf Y]; exact h.all.vol
theorem Ph.adv (h:Ph m n N0 F 3 k e t s):Ph m n N0 F 0 (k+1) e t s:=by
 have hk:=h.kn (.inr (.inr Z))
 have:=h.te
 exact ⟨⟨h.all.inv.adv (h.sh (.inr Z)) (h.yes Z),h.all.vol⟩,by omega,by omega, .inl Y,fun _=>by omega,fun h=>by omega,fun h=>by omega,fun h=>by omega,fun h=>by omega,fun h=>by omega,by omega⟩
def phN (step:Nat):Nat:=if step=0 then 3 else if step=1 then 2 else if step=4 then 0 else 1
def phM (n step k e:Nat):Nat:=(663 - e)*8+4*(n+1 - k)+phN step
theorem Ph.t_le {step:Nat} (h:Ph m n N0 F step k e t s) (hb:LB m n N0 F):t≤1328:=by
 have h1:=h.all.e_le hb
 have h2:=h.te
 have h3:=hb.n4
 have h4:=h.kx
 omega
theorem Ph.mex (h:Ph m n N0 F 2 k e t s) (hb:LB m n N0 F):phM n 0 (max (k - 1) 1) (e+1)<phM n 2 k e:=by
 have h1:=h.exch.all.e_le hb
 have h2:=h.kn (.inr (.inl Z))
 have hm:k - 1≤max (k - 1) 1:=Nat.le_max_left _ _
 unfold phM phN
 simp only [if_true,if_pos,Nat.reduceEqDiff,if_false]
 omega
theorem Ph.mad (h:Ph m n N0 F 3 k e t s):phM n 0 (k+1) e<phM n 3 k e:=by
 have h2:=h.kn (.inr (.inr Z))
 unfold phM phN
 simp only [if_true,if_pos,Nat.reduceEqDiff,if_false]
 omega
structure RedOut (m n N:Nat) (F:Nat→Nat→Int) (s:LS):Prop where
 ua:EqP n m s.R s.U F
 uv:qE n s.U s.V
 dn:dZ m s.R n≠0
 vol:dZ m s.R n=dZ m F n
 nrm : ∀ a,a<n→eh m (s.R a) (s.R a)≤(N:Int)
 red : ∀ a b,a<n→b<a→dR m s.R a b
 ord : ∀ p,p+1<n→et m s.R p
 f : ∀ i j,(s.R i j).natAbs≤64
 U : ∀ i j,(aF (s.U i j).natAbs).length≤25000
 V : ∀ i j,(aF (s.V i j).natAbs).length≤25000
theorem Ph.out (hb:LB m n N0 F) (h:Ph m n N0 F 4 k e t s):RedOut m n (2*N0) F ⟨jH n m s.R,s.U,s.V⟩:=by
 have hk:=h.p4 Z
 have hc : ∀ a b,a<n→b<m→s.R a b=jH n m s.R a b:=fun a b ha hb=>sk ha hb
 have hd : ∀ {q},q≤n→dZ m (jH n m s.R) q=dZ m s.R q:=fun hq=>(xD hc hq).symm
 have hl : ∀ {a b},a<n→b<n→lZ m (jH n m s.R) a b=lZ m s.R a b:=fun ha hb=>(xE hc ha hb).symm
 have hn : ∀ a,a<n→eh m (s.R a) (s.R a)≤((2*N0:Nat):Int):=fun a ha=>by
  have:=h.all.inv.nrm a ha
  rw [← Lin.j7] at this
  exact_mod_cast this
 have ht:t≤1330:=by have:=h.t_le hb;omega
 have hB:=h.all.bndA hb ht
 refine ⟨fun i j hi hj=>(hc i j hi hj).symm.trans (h.all.inv.ua i j hi hj),h.all.inv.uv,fun e=>h.all.inv.dn ((hd (Nat.le_refl _)).symm.trans e),(hd (Nat.le_refl _)).trans h.all.vol,fun a ha => ?_,fun a b ha hb => ?_,fun p hp => ?_,xF hn (by have:=hb.nn;omega),fun i j=>ig (hB.u i j) W,fun i j=>ig (hB.v i j) W⟩
 ·show eh m (jH n m s.R a) (jH n m s.R a)≤_
  rw [← oG (fun q hq=>hc a q ha hq) (fun q hq=>hc a q ha hq)]; exact hn a ha
 ·have:=h.all.inv.red a b Y hb
  show dR m (jH n m s.R) a b
  unfold Lin.dR at this ⊢
  rw [hl ha Y,hd Y]; exact this
 ·have:=h.all.inv.ord p Y
  show et m (jH n m s.R) p
  unfold Lin.et at this ⊢
  rw [hl Y Y,hd Y,hd Y,hd Y]; exact this
end
end Tor
end
section
namespace Tor
open Go Go.RowKit Go.Proofs
def fY (n:Nat) (f:Nat→Rat):VT:=slT (.agg 4) n (fun i=>bD (f i))
instance {n:Nat} {f:Nat→Rat} : Flat (fY n f) .one:=by unfold fY;infer_instance
def cu (a:Nat→Rat) (n:Nat):Nat:=((List.range' 0 n).find? fun i=>decide (a i≠0)).getD n
theorem pI {a:Nat→Rat} {n i:Nat} (hi:i<n) (h : ∀ q,q<i→a q=0) (h0:a i≠0):cu a n=i:=by
 have:(List.range' 0 n).find? (fun i=>decide (a i≠0))=some i:=by
  rw [List.find?_range'_eq_some]
  refine ⟨by simpa using h0,by rw [List.mem_range'_1]; omega,fun q _ h2=>by simpa using h q h2⟩
 unfold cu;rw [this]; rfl
theorem mK {a:Nat→Rat} {n:Nat} (h : ∀ q,q<n→a q=0):cu a n=n:=by
 have:(List.range' 0 n).find? (fun i=>decide (a i≠0))=none:=by
  rw [List.find?_eq_none]
  intro q hq
  rw [List.mem_range'_1] at hq
  simpa using h q Y
 unfold cu;rw [this]; rfl
theorem lL (a:Nat→Rat) (n:Nat):(cu a n=n ∧ ∀ q,q<n→a q=0)∨(cu a n<n∧a (cu a n)≠0 ∧ ∀ q,q<cu a n→a q=0):=by
 have key : ∀ m,m≤n→(∀ q,q<m→a q=0) ∨ ∃ i,i<m∧a i≠0 ∧ ∀ q,q<i→a q=0:=by
  intro m
  induction m with
  | zero => intro _; exact .inl fun q h => absurd h (Nat.not_lt_zero _)
  | succ m ih =>
   intro hm
   rcases ih Y with h | ⟨i,h1,h2,h3⟩
   ·by_cases h0:a m=0
    ·exact .inl fun q hq=>by
      by_cases e:q=m
      ·rw [e]; exact h0
      ·exact h q Y
    ·exact .inr ⟨m,by omega,h0,h⟩
   ·exact .inr ⟨i,by omega,h2,h3⟩
 rcases key n (Nat.le_refl _) with h | ⟨i,h1,h2,h3⟩
 ·exact .inl ⟨mK h,h⟩
 ·rw [pI h1 h3 h2]; exact .inr ⟨h1,h2,h3⟩
theorem iO {a:Nat→Rat} {n:Nat} (h:cu a n<n):a (cu a n)≠0 ∧ ∀ q,q<cu a n→a q=0:=by
 rcases lL a n with ⟨h1,_⟩ | ⟨_,h1⟩
 ·omega
 ·exact h1
def gu (B:Nat→Nat→Rat) (n:Nat) (a:Nat→Rat):Nat→Nat→Rat
 | 0 => a
 | i + 1 => fun j => gu B n a i j - gu B n a i (cu (B i) n) / B i (cu (B i) n) * B i j
def jh (α β:Nat):Nat→Nat
 | 0 => α
 | i + 1 => 2 * jh α β i + 2 * β + 1
theorem vI {α β:Nat} {i k:Nat} (h:i≤k):jh α β i≤jh α β k:=by
  induction k with
  | zero => have : i = 0 := by omega
            subst this;exact Nat.le_refl _
  | succ k ih =>
    by_cases e:i=k+1
    · rw [e]; exact Nat.le_refl _
    · have:=ih Y
      show jh α β i≤2*jh α β k+2*β+1
      omega
theorem tF {α β n:Nat} {B:Nat→Nat→Rat} {a:Nat→Rat} (k:Nat) (ha : ∀ j,qz α (a j)) (hB : ∀ i,i<k→(cu (B i) n<n) ∧ ∀ j,qz β (B i j)) : ∀ i,i≤k → ∀ j,qz (jh α β i) (gu B n a i j)
 | 0, _, j => ha j
 | i + 1, hi, j => by
  have ih:=tF k ha hB i Y
  obtain ⟨h1,h2⟩:=hB i Y
  have h3:=tt (ih j) (jz (lF (ih (cu (B i) n)) (h2 (cu (B i) n)) (iO h1).1) (h2 j))
  exact h3.mono (by show jh α β i+(jh α β i+β+β)+1≤2*jh α β i+2*β+1;omega)
theorem jI {sv:Option Nat} {T:TypeId} {cap i:Nat} {h:Nat→Rat} {x:Rat} (hx:x=h i):Own.le (aN sv T (.agg 4) cap (i+1) (fun q=>if q<i then bD (h q) else bD x)) (aN sv T (.agg 4) cap (i+1) (fun q=>bD (h q))):=bJ fun q hq=>by
 subst hx
 by_cases c:q<i
 ·rw [if_pos c]
 ·rw [if_neg c,show q=i by omega]
theorem zp {g0:RH} {sv:Option Nat} {T:TypeId} {L:Lay} {cap n:Nat} {φ:Nat→VT} {g:RH} {h:Hp} (hp:(xO g0 (aN sv T L cap n φ)).p g h) (he:sv=none):n=0:=fh hp.1 he
attribute [local irreducible] J PJ aJ one slT cv bB bL exT cp eP aW aN slV VT.le Ret bK xO
attribute [local irreducible] aK bD
theorem jJ (n:Nat) (f:Nat→Int) (hn:n≤1048576):Ok Tryz.prog 47 [cH n f] (fY n (fun i=>(f i:Rat))):=by
 unfold fY cH
 refine Ok.enter Tryz.func47 Z Tryz.ntmps47 Z (fun w O => ?_)
 refine ae (aj (Cn Z (Cp (aa (ae (aj (kb (n:=0) Z Z Z Z Z ?_)))))))
 refine PartsK.nil (fun bl => ?_)
 refine Cn Z (Cp (aa (ae (ae (aj (Cn Z (Cp (aa (av ?_)))))))))
 refine cx (Γ' := [(0,_),(2,_),(3,_),(4,_)]) Cg (SubM.refl _) ?_
 refine bE (σ:=Nat × Option Nat × Nat) (Γk := [(0,_),(2,_)]) Cg (fun s => [(4,one (.int .i64 (s.1:Nat))),(3,one (slV s.2.1 s.1 s.2.2))]) (fun s M0=>(M0.set 0 (aN s.2.1 45 (.agg 4) s.2.2 s.1 (fun q=>bD (f q:Rat))))) (fun s=>s.1≤n) (fun s=>n - s.1) ((0,some bl,0)) (Nat.zero_le _) Ch (.keep (bJ (fun q hq=>absurd hq (Nat.not_lt_zero _))) (.nil)) (fun s hs => ?_)
 refine bY (Γ' := [(4,_),(3,_),(0,_),(2,_)]) (M' := [_]) Z Z ?_
 obtain ⟨i,sv,cap⟩:=s
 dsimp only at hs ⊢
 by_cases hi:i<n
 ·refine ae (ae (aj (Cm Z (Cm Z (Cl (aV Z) (Cl (sT Y (a9 Z Z)) (Cp (aa (aI Z ?_)))))))))
  refine aw (aa (ae (av (aj (Cm Z (Cm Z (Cm Z (Cl (ax Z Z Y) (Cl (aG Z) ?_)))))))))
  refine Cl (am (kD _) Z ⟨H,Cq⟩) ?_
  refine iX Z Z Z Z ?_
  (refine cV 0 Z Z Z (leN Z) ?_ ?_ Z (ltN Z) (fun sv19 cap19 => ?_);omega;omega)
  refine Cn Z (Cp (aA (aa (aj (Cm Z (Cl (bC _ 1 Z Z Y) (Cn Z (Cp ?_))))))))
  refine aS ((i+1,sv19,cap19)) (hi) Y Ch (.keep (jI (h:=fun q=>(f q:Rat)) Z) (.nil))
 ·have he:i=n:=by omega
  subst he
  refine ae (ae (aj (Cm Z (Cm Z (Cl (aV Z) (Cl (sF Y (a9 Z Z)) (Cp (aa (az Z ?_)))))))))
  refine aX (au (au (aC (aa (ae (aj (Cm Z (Cn Z (Cp ?_)))))))))
  refine aa (aD (cJ (t:=2) (i:=0) Z Z ?_))
  refine aO Tryz.results47 (.tmp Z H)
theorem vJ (n m:Nat) (a b:Nat→Rat) (c:Rat) (A B C:Nat) (hn:n≤1048576) (hm:n≤m) (ha : ∀ i,i<n→qz A (a i)) (hb : ∀ i,i<n→qz B (b i)) (hc:qz C c) (hz:A+(C+B)+1≤1099511627700) :
  Ok Tryz.prog 126 [fY n a,fY m b,bD c] (fY n (fun i=>a i - c*b i)):=by
 unfold fY
 refine Ok.enter Tryz.func126 Z Tryz.ntmps126 Z (fun w O => ?_)
 refine ae (aj ?_)
 refine nr Z Z (ltN Z) (fun b5 => ?_)
 refine Cn Z (Cp (aa (ae (aj (kb (n:=0) Z Z Z Z Z ?_)))))
 refine PartsK.nil (fun bl => ?_)
 refine Cn Z (Cp (aa (ae (ae (aj (Cn Z (Cp (aa (av ?_)))))))))
 refine cx (Γ' := [(0,_),(1,_),(5,_),(6,_),(7,_),(8,_)]) Cg (SubM.refl _) ?_
 refine bE (σ:=Nat × Option Nat × Nat) (Γk := [(0,_),(1,_),(5,_),(6,_)]) Cg (fun s => [(8,one (.int .i64 (s.1:Nat))),(7,one (slV s.2.1 s.1 s.2.2))]) (fun s M0=>(M0.set 0 (aN s.2.1 45 (.agg 4) s.2.2 s.1 (fun q=>bD (a q - c*b q))))) (fun s=>s.1≤n) (fun s=>n - s.1) ((0,some bl,0)) (Nat.zero_le _) Ch (.keep (bJ (fun q hq=>absurd hq (Nat.not_lt_zero _))) (.keep Ck (.nil))) (fun s hs => ?_)
 refine bY (Γ' := [(8,_),(7,_),(0,_),(1,_),(5,_),(6,_)]) (M' := [_,_]) Z Z ?_
 obtain ⟨i,sv,cap⟩:=s
 dsimp only at hs ⊢
 by_cases hi:i<n
 ·have h1:=jB c (b i) C B hc (hb i hi) Y
  have h2:=ol (a i) (c*b i) A (C+B) (ha i hi) (jz hc (hb i hi)) hz
  refine ae (ae (aj (Cm Z (Cm Z (Cl (aV Z) (Cl (sT Y (a9 Z Z)) (Cp (aa (aI Z ?_)))))))))
  refine aw (aa (ae (av (gn 13 aU X W (Cm Z (Cm Z (Cm Z (Cl (ax Z Z Y) (Cl (aG Z) ?_)))))))))
  refine Cl (ak 1 Z Z Z) (Cm Z (Cm Z (Cl (ax Z Z Y) (Cl (aG Z) ?_))))
  refine Cl (am (h1) Z ⟨H,H,Cq⟩) ?_
  refine Cl (am (h2) Z ⟨H,H,Cq⟩) ?_
  refine iX Z Z Z Z (Cp ?_)
  (refine cV 0 Z Z Z (leN Z) ?_ ?_ Z (ltN Z) (fun sv29 cap29 => ?_);omega;omega)
  refine Cn Z (Cp (aA (aa (aj (Cm Z (Cl (bC _ 1 Z Z Y) (Cn Z (Cp ?_))))))))
  refine aS ((i+1,sv29,cap29)) (hi) Y Ch (.keep (jI (h:=fun q=>a q - c*b q) Z) (.keep Ck (.nil)))
 ·have he:i=n:=by omega
  subst he
  refine ae (ae (aj (Cm Z (Cm Z (Cl (aV Z) (Cl (sF Y (a9 Z Z)) (Cp (aa (az Z ?_)))))))))
  refine aX (au (au (aC (aa (ae (aj (Cm Z (Cn Z (Cp ?_)))))))))
  refine aa (aD (cJ (t:=6) (i:=0) Z Z ?_))
  refine aO Tryz.results126 (.tmp Z H)
theorem oH (n m:Nat) (a:Nat→Rat) (hm:m≤1048576) (hn:n≤m):Ok Tryz.prog 91 [fY m a,one (.int .i64 (n:Nat))] (one (.int .i64 ((cu a n:Nat):Int))):=by
 unfold fY
 refine Ok.enter Tryz.func91 Z Tryz.ntmps91 Z (fun w O => ?_)
 refine ae (aj (Cn Z (Cp (aa (ae (aj (Cn Z (Cp (aa ?_)))))))))
 refine ae (av (cx (Γ' := [(0,_),(1,_),(4,_),(5,_)]) Cg (SubM.refl _) ?_))
 refine bE (σ:=Nat) (Γk := [(0,_),(1,_),(4,_)]) Cg (fun i => [(5,one (.int .i64 (i:Nat)))]) (fun i M0=>M0) (fun i=>i≤n ∧ ∀ q,q<i→a q=0) (fun i=>n - i) (0) (⟨Nat.zero_le _,fun q h=>absurd h (Nat.not_lt_zero _)⟩) Ch (.nil) (fun i hi => ?_)
 refine bY (Γ' := [(5,_),(0,_),(1,_),(4,_)]) (M' := []) Z Z ?_
 obtain ⟨hi1,hi2⟩:=hi
 by_cases hi:i<n
 ·have hs:=fK (a i).num
  by_cases h0:a i=0
  ·have hs0:=hs.2 (Rat.num_eq_zero.2 h0)
   refine ae (ae (aj (Cm Z (Cm Z (Cl (sT Y (a9 Z Z)) (Cm Z (Co (ab Z) (Co (ab Z) (Co (ax Z Z Y) ?_)))))))))
   refine Co (aG Z) ?_
   refine Co (am (mj _) Z ⟨H,Cq⟩) ?_
   refine Co (sT (by assumption) (cN Z Z)) (Cl (a6 Z Z) (Cp (aa (aI Z (aw (aa (av (aj (Cm Z ?_)))))))))
   refine Cl (bC _ 1 Z Z Y) (Cn Z (Cp (aA ?_)))
   refine aS (i+1) (⟨hi,fun q h=>by by_cases h3:q=i;exact h3▸h0;exact hi2 q Y⟩) Y Ch (.nil)
  ·have hs0:dQ (a i).num≠0:=fun h=>h0 (Rat.num_eq_zero.1 (hs.1 h))
   rw [pI hi hi2 h0]
   refine ae (ae (aj (Cm Z (Cm Z (Cl (sT Y (a9 Z Z)) (Cm Z (Co (ab Z) (Co (ab Z) (Co (ax Z Z Y) ?_)))))))))
   refine Co (aG Z) ?_
   refine Co (am (mj _) Z ⟨H,Cq⟩) ?_
   refine Co (sF (by assumption) (cN Z Z)) (Cl (a6 Z Z) (Cp (aa (az Z (aX (au (au (aC (aa ?_)))))))))
   refine ae (aj (Cm Z (Cn Z (Cp (aa (aD ?_))))))
   refine aO Tryz.results91 (.tmp Z H)
 ·rw [mK (fun q h=>hi2 q Y),show n=i by omega]
  refine ae (ae (aj (Cm Z (Cm Z (Cl (sF Y (a9 Z Z)) (Cm Z (sn0 Z Z Z Z Z (sn0 Z Z Z Z Z (sn0 Z Z Z Z Z ?_)))))))))
  refine sn0 Z Z Z Z Z (sn0 Z Z Z Z Z (sn0 Z Z Z Z Z (Cl (bj Z Z) (Cp (aa (az Z (aX (au (au ?_)))))))))
  refine aC (aa (ae (aj (Cm Z (Cn Z (Cp (aa (aD ?_))))))))
  refine aO Tryz.results91 (.tmp Z H)
theorem qS (n m k:Nat) (a:Nat→Rat) (B:Nat→Nat→Rat) (sv:Option Nat) (cap:Nat) (α β:Nat) (hm:m≤1048576) (hn:n≤m) (hk:k≤1048576) (ha : ∀ j,qz α (a j)) (hB : ∀ i,i<k→(cu (B i) n<n) ∧ ∀ j,qz β (B i j)) (hz:jh α β k≤1099511627700) :
  OkR Tryz.prog 90 [fY m a,one (slV sv k cap),one (.int .i64 (n:Nat))] [aN sv 31 .one cap k (fun i=>fY m (B i))] (fY m (gu B n a k)):=by
 intro g0
 show OkI _ _ _ [xO g0 (aN sv 31 .one cap k (fun i=>fY m (B i)))] _ (fun _ => [xO g0 (aN sv 31 .one cap k (fun i=>fY m (B i)))])
 refine OkI.enter Tryz.func90 Z Tryz.ntmps90 Z (fun w O => ?_)
 refine jO (i:=0) (F:=sv=none→k=0) Z (fun g h hp he=>zp hp he) (fun hsv => ?_)
 refine ae (aj (Cn Z (Cp (aa (ae (ae (aj (Cn Z (Cp ?_)))))))))
 refine aa (av (cx (Γ' := [(0,_),(1,_),(2,_),(6,_),(7,_)]) Cg (SubM.refl _) ?_))
 refine bE (σ:=Nat) (Γk := [(1,_),(2,_),(6,_)]) Cg (fun i => [(7,one (.int .i64 (i:Nat))),(0,fY m (gu B n a i))]) (fun i M0=>M0) (fun i=>i≤k) (fun i=>k - i) (0) (Nat.zero_le _) Ch (.keep Ck (.nil)) (fun i hi => ?_)
 refine bY (Γ' := [(7,_),(0,_),(1,_),(2,_),(6,_)]) (M' := [_]) Z Z ?_
 by_cases hi:i<k
 ·obtain ⟨bs,rfl⟩:=e9 hsv Y
  obtain ⟨hf,hq⟩:=hB i hi
  have hf0:=(iO hf).1
  have hfi:=oH n m (B i) hm hn
  have hr:=tF k ha hB i Y
  have hm1:jh α β (i+1)≤1099511627700:=Nat.le_trans (vI Y) hz
  have hm2:jh α β (i+1)=2*jh α β i+2*β+1:=rfl
  have ho:=pB (gu B n a i (cu (B i) n)) (B i (cu (B i) n)) (jh α β i) β (hr _) (hq _) Y hf0
  have hl:=vJ m m (gu B n a i) (B i) (gu B n a i (cu (B i) n) / B i (cu (B i) n)) (jh α β i) β (jh α β i+β) hm (Nat.le_refl _) (fun j _=>hr j) (fun j _=>hq j) (lF (hr _) (hq _) hf0) Y
  unfold fY at *
  refine ae (ae (aj (Cm Z (Cm Z (Cl (f6 Z) (Cl (sT Y (a9 Z Z)) (Cp (aa (aI Z ?_)))))))))
  refine aw (aa (ae (av (ae (aj (Cm Z (Cm Z (Cl (an Z Z Y) (Cl (nM 0 Z Z Y) ?_)))))))))
  refine Cm Z ?_
  refine Cl (am (hfi) Z ⟨H,H,Cq⟩) ?_
  refine Cn Z (Cp (aa (a4 18 aU X W (Cm Z (Cm Z (Cm Z (Cl (an Z Z Y) (Cl (nM 0 Z Z Y) (Cm Z ?_)))))))))
  refine Cm Z (Cl (ax Z Z Y) (Cl (aG Z) (Cm Z (Cm Z (Cl (an Z Z Y) (Cl (nM 0 Z Z Y) (Cm Z (Cl (ax Z Z Y) (Cl (aG Z) ?_)))))))))
  refine Cl (am (ho) Z ⟨H,H,Cq⟩) ?_
  refine Cl (am (hl) Z ⟨H,H,H,Cq⟩) ?_
  refine Cp (Cn Z (Cp (aA (aa (aj (Cm Z (Cl (bC _ 1 Z Z Y) (Cn Z (Cp ?_)))))))))
  refine aS (i+1) (hi) Y Ch (.keep Ck (.nil))
 ·have he:i=k:=by omega
  subst he
  refine ae (ae (aj (Cm Z (Cm Z (Cl (f6 Z) (Cl (sF Y (a9 Z Z)) (Cp (aa (az Z ?_)))))))))
  refine aX (au (au (aC (aa (ae (aj (Cm Z (Cn Z (Cp ?_)))))))))
  refine aa (aD ?_)
  exact wn (σ:=Unit) () Tryz.results90 (.tmp Z H) (SubM.refl _)
end Tor
end
section
namespace Tor
open Go Go.RowKit Go.Proofs
abbrev dS (l:List (Nat→Rat)):Nat→Nat→Rat:=fun k=>l.getD k (fun _=>0)
def fl (c:Nat) (F:Nat→Nat→Int):Nat→List Nat × List (Nat→Rat)
 | 0 => ([], [])
 | i + 1 => if cu (gu (dS (fl c F i).2) c (fun j => (F i j : Rat)) (fl c F i).2.length) c < c then ((fl c F i).1 ++ [i], (fl c F i).2 ++ [gu (dS (fl c F i).2) c (fun j => (F i j : Rat)) (fl c F i).2.length]) else fl c F i
def kf (α:Nat):Nat→Nat
 | 0 => α
 | k + 1 => jh α (kf α k) k
theorem pJ (α k:Nat):kf α k≤kf α (k+1):=by
 show kf α k≤jh α (kf α k) k
 cases k with
 | zero => exact Nat.le_refl _
 | succ k =>
  show kf α (k+1)≤2*jh α (kf α (k+1)) k+2*kf α (k+1)+1
  omega
theorem vK {α i k:Nat} (h:i≤k):kf α i≤kf α k:=by
  induction k with
  | zero => have : i = 0 := by omega
            subst this;exact Nat.le_refl _
  | succ k ih =>
    by_cases e:i=k+1
    · rw [e]; exact Nat.le_refl _
    · exact Nat.le_trans (ih Y) (pJ α k)
structure NewI (α c i:Nat) (s:List Nat × List (Nat→Rat)):Prop where
 l1:s.1.length=s.2.length
 l2:s.2.length≤i
 b : ∀ k,k<s.2.length→cu (dS s.2 k) c<c ∧ ∀ j,qz (kf α s.2.length) (dS s.2 k j)
theorem ji {l:List (Nat→Rat)} {r:Nat→Rat} {k:Nat} (h:k<l.length):dS (l ++ [r]) k=dS l k:=by
 unfold dS;simp [List.getD,List.getElem?_append_left h]
theorem iP (l:List (Nat→Rat)) (r:Nat→Rat):dS (l ++ [r]) l.length=r:=by
 unfold dS;simp [List.getD]
theorem xG {α c:Nat} {F:Nat→Nat→Int} (hF : ∀ i j,lz α (F i j)) (hα:1≤α) : ∀ i,NewI α c i (fl c F i)
 | 0 => ⟨rfl, Nat.zero_le _, fun k h => absurd h (Nat.not_lt_zero _)⟩
 | i + 1 => by
  have ih:=xG (c:=c) hF hα i
  have hr:=tF (n:=c) (fl c F i).2.length (fun j=>oi (a:=F i j) hα (hF i j)) ih.b (fl c F i).2.length (Nat.le_refl _)
  show NewI α c (i+1) (if _ then _ else fl c F i)
  split
  ·rename_i h
   generalize gu (dS (fl c F i).2) c (fun j=>(F i j:Rat)) (fl c F i).2.length=r at *
   generalize fl c F i=Ce at *
   refine ⟨by simp [ih.l1],by have:=ih.l2;simp;omega,fun k hk => ?_⟩
   have hl:(Ce.2 ++ [r]).length=Ce.2.length+1:=by simp
   have hk:k<(Ce.2 ++ [r]).length:=hk
   rw [hl] at hk
   show cu (dS (Ce.2 ++ [r]) k) c<c ∧ ∀ j,qz (kf α (Ce.2 ++ [r]).length) (dS (Ce.2 ++ [r]) k j)
   rw [hl]
   by_cases h1:k<Ce.2.length
   ·rw [ji h1]
    exact ⟨(ih.b k h1).1,fun j=>((ih.b k h1).2 j).mono (pJ _ _)⟩
   ·rw [show k=Ce.2.length by omega,iP]
    exact ⟨h,hr⟩
  ·exact ⟨ih.l1,by have:=ih.l2;omega,ih.b⟩
theorem xH {sv:Option Nat} {T:TypeId} {cap:Nat} {l m:List Nat} (h:m=l):Own.le (aN sv T .one cap l.length (rW l)) (aN sv T .one cap m.length (rW m)):=h▸Own.le_refl _
theorem xI {sv:Option Nat} {T:TypeId} {cap c:Nat} {l m:List Nat} (h:m=l ++ [c]):Own.le (aN sv T .one cap (l.length+1) (fun q=>if q<l.length then rW l q else one (.int .i64 (c:Nat)))) (aN sv T .one cap m.length (rW m)):=by subst h;exact xe
theorem xJ {sv:Option Nat} {T:TypeId} {cap c:Nat} {l m:List (Nat→Rat)} {r:Nat→Rat} (h:m=l ++ [r]):Own.le (aN sv T .one cap (l.length+1) (fun q=>if q<l.length then fY c (dS l q) else fY c r)) (aN sv T .one cap m.length (fun q=>fY c (dS m q))):=by
 subst h
 refine fU (by simp) (fun q hq => ?_)
 by_cases h1:q<l.length
 ·rw [if_pos h1,ji h1]
 ·have:q=l.length:=by omega
  subst this;rw [if_neg h1,iP]
theorem xK {sv:Option Nat} {T:TypeId} {cap c:Nat} {l m:List (Nat→Rat)} (h:m=l):Own.le (aN sv T .one cap l.length (fun q=>fY c (dS l q))) (aN sv T .one cap m.length (fun q=>fY c (dS m q))):=h▸Own.le_refl _
attribute [local irreducible] J PJ aJ one slT cv bB bL exT cp eP aW aN slV VT.le Ret bK xO
attribute [local irreducible] aK bD fY cH
theorem xL (r c:Nat) (F:Nat→Nat→Int) (α:Nat) (hr:r≤1024) (hc:c≤1024) (hα:1≤α) (hF : ∀ i j,lz α (F i j)) (hz:kf α r≤1099511627700):Ok Tryz.prog 54 [cg r c F] (B4 (fl c F r).1):=by
 unfold cg
 refine Ok.enter Tryz.func54 Z Tryz.ntmps54 Z (fun w O => ?_)
 refine ae (aj ?_)
 refine aQ Z Z (ltN Z) (fun b1 => ?_)
 refine Cn Z (Cp (aa (ae (aj (kb (n:=0) Z Z Z Z Z ?_)))))
 refine PartsK.nil (fun bl => ?_)
 refine kb (n:=0) Z Z Z Z Z ?_
 refine PartsK.nil (fun bl => ?_)
 refine Cn Z (Cn Z (Cp (aa (ae (ae (aj (Cn Z (Cp (aa ?_)))))))))
 refine av ?_
 rename_i blo
 generalize hQ:fl c F=Q at *
 have hQ0:Q 0=([], []):=by rw [← hQ]; rfl
 refine cx (Γ' := [(1,_),(2,_),(3,_),(4,_),(5,_)]) Cg (SubM.refl _) ?_
 refine bE (σ:=Nat × Option Nat × Nat × Option Nat × Nat) (Γk := [(1,_),(2,_)]) Cg (fun s => [(5,one (.int .i64 (s.1:Nat))),(3,one (slV s.2.1 (Q s.1).1.length s.2.2.1)),(4,one (slV s.2.2.2.1 (Q s.1).2.length s.2.2.2.2))]) (fun s M0=>((M0.set 1 (aN s.2.1 3 .one s.2.2.1 (Q s.1).1.length (rW (Q s.1).1))).set 0 (aN s.2.2.2.1 31 .one s.2.2.2.2 (Q s.1).2.length (fun q=>fY c (dS (Q s.1).2 q))))) (fun s=>s.1≤r) (fun s=>r - s.1) ((0,some blo,0,some bl,0)) (Nat.zero_le _) (by (repeat (first | exact fp.nil | refine fp.cons Z H ?_ | refine fp.cons Z (iZ (by dsimp only;rw [hQ0]; rfl)) ?_))) (.keep (fU (by dsimp only;rw [hQ0]; rfl) (fun q hq=>absurd hq (Nat.not_lt_zero _))) (.keep (fU (by dsimp only;rw [hQ0]; rfl) (fun q hq=>absurd hq (Nat.not_lt_zero _))) (.keep Ck (.nil)))) (fun s hs => ?_)
 refine bY (Γ' := [(5,_),(3,_),(4,_),(1,_),(2,_)]) (M' := [_,_,_]) Z Z ?_
 obtain ⟨i,svo,capo,svb,capb⟩:=s
 dsimp only at hs ⊢
 have hI:NewI α c i (Q i):=by rw [← hQ]; exact xG (c:=c) hF hα i
 have hsucc:Q (i+1)=if cu (gu (dS (Q i).2) c (fun j=>(F i j:Rat)) (Q i).2.length) c<c then ((Q i).1 ++ [i],(Q i).2 ++ [gu (dS (Q i).2) c (fun j=>(F i j:Rat)) (Q i).2.length]) else Q i:=by rw [← hQ]; rfl
 generalize hS:Q i=Ce at *
 have hl1:=hI.l1
 have hl2:=hI.l2
 by_cases hi:i<r
 ·have hrat:=jJ c (F i) Y
  have hz1:kf α (Ce.2.length+1)≤1099511627700:=Nat.le_trans (vK Y) hz
  have hred:=qS c c Ce.2.length (fun j=>(F i j:Rat)) (dS Ce.2) svb capb α (kf α Ce.2.length) Y (Nat.le_refl _) Y (fun j=>oi hα (hF i j)) hI.b hz1
  have hfi:=oH c c (gu (dS Ce.2) c (fun j=>(F i j:Rat)) Ce.2.length) Y (Nat.le_refl _)
  generalize gu (dS Ce.2) c (fun j=>(F i j:Rat)) Ce.2.length=R at *
  refine ae (ae (aj (Cm Z (Cl (ai Z) (Cl (ak 2 Z Z Z) (Cl (sT Y (a9 Z Z)) (Cp (aa (aI Z ?_)))))))))
  refine aw (aa (ae (av (ae (a4 10 aU X W (Cl (ai Z) (Cl (ak 2 Z Z Z) (Cm Z (Cl (ax Z Z Y) ?_)))))))))
  refine Cl (aG Z) ?_
  refine Cl (am (hrat) Z ⟨H,Cq⟩) ?_
  refine Cm Z (Cl (ai Z) (Cl (ak 2 Z Z Z) ?_))
  refine Cl (yp (Min := [_]) (Kp := [_,_]) hred Z ⟨H,H,H,Cq⟩ (List.Perm.refl _)) ?_
  by_cases hf:cu R c<c
  ·rw [if_pos hf] at hsucc
   have e1:=congrArg Prod.fst hsucc
   have e2:=congrArg Prod.snd hsucc
   have l1:(Q (i+1)).1.length=Ce.1.length+1:=by rw [e1]; simp
   have l2:(Q (i+1)).2.length=Ce.2.length+1:=by rw [e2]; simp
   refine Cp (Cn Z (Cp (aa (ae (a4 7 aU X W (Cm Z (Cl (ai Z) (Cl (ak 2 Z Z Z) ?_))))))))
   refine Cl (am (hfi) Z ⟨H,H,Cq⟩) ?_
   refine Cl (ai Z) (Cl (ak 2 Z Z Z) (Cl (sT Y (a9 Z Z)) (Cp (Cp (aa (aI Z (ae (aj (Cm Z ?_)))))))))
   refine Cm Z (iX Z Z Z Z ?_)
   (refine cV 1 Z Z Z (leN Z) ?_ ?_ Z (ltN Z) (fun sv35 cap35 => ?_);omega;omega)
   refine Cn Z (Cp (aa (aj (Cm Z (Cm Z (iX Z Z Z Z ?_))))))
   (refine cV 0 Z Z Z (leN Z) ?_ ?_ Z (ltN Z) (fun sv39 cap39 => ?_);omega;omega)
   refine Cn Z (Cp (aA (aa (aj (Cm Z (Cl (bC _ 1 Z Z Y) (Cn Z (Cp ?_))))))))
   refine aS ((i+1,sv35,cap35,sv39,cap39)) (hi) Y (by (repeat (first | exact fp.nil | refine fp.cons Z H ?_ | refine fp.cons Z (iZ (by dsimp only;omega)) ?_))) (.keep (xJ e2) (.keep (xI e1) (.keep Ck (.nil))))
  ·rw [if_neg hf] at hsucc
   have e1:=congrArg Prod.fst hsucc
   have e2:=congrArg Prod.snd hsucc
   have l1:=congrArg List.length e1
   have l2:=congrArg List.length e2
   refine Cp (Cn Z (Cp (aa (ae (a4 7 aU X W (Cm Z (Cl (ai Z) (Cl (ak 2 Z Z Z) ?_))))))))
   refine Cl (am (hfi) Z ⟨H,H,Cq⟩) ?_
   refine Cl (ai Z) (Cl (ak 2 Z Z Z) (Cl (sF Y (a9 Z Z)) (Cp (Cp (aa (az Z (aw (aA (aa ?_)))))))))
   refine aj (Cm Z (Cl (bC _ 1 Z Z Y) (Cn Z (Cp ?_))))
   refine aS ((i+1,svo,capo,svb,capb)) (hi) Y (by (repeat (first | exact fp.nil | refine fp.cons Z H ?_ | refine fp.cons Z (iZ (by dsimp only;omega)) ?_))) (.keep (xK e2) (.keep (xH e1) (.keep Ck (.nil))))
 ·have he:i=r:=by omega
  subst he
  rw [hS]
  refine ae (ae (aj (Cm Z (Cl (ai Z) (Cl (ak 2 Z Z Z) (Cl (sF Y (a9 Z Z)) (Cp (aa (az Z ?_)))))))))
  refine aX (au (au (aC (aa (ae (aj (Cm Z (Cn Z (Cp ?_)))))))))
  refine aa (aD (cJ (t:=2) (i:=1) Z Z ?_))
  refine aO Tryz.results54 (.tmp Z H)
end Tor
end
