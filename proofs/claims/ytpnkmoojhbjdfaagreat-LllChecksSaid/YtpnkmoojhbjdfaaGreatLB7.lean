/-
  Theorems that the proofs of laws of this seat rest on.
  No condition.
-/
import Derived.Test.YtpnkmoojhbjdfaaGreatLB6
set_option maxHeartbeats 16000000
set_option linter.unusedVariables false
set_option linter.unusedSimpArgs false
section
set_option linter.unusedSectionVars false
namespace Tor
open Go Go.RowKit
theorem nu {α:Type} {n i:Nat} {DQ:Nat→Bool} (B:Nat→α) (hi:i<n) (hS:DQ i=false) :
  (((List.range n).filter fun q => !DQ q).map B).Perm (B i :: ((List.range n).filter fun q => !(if q=i then true else DQ q)).map B):=by
 have h1:i∈(List.range n).filter fun q => !DQ q:=List.mem_filter.2 ⟨List.mem_range.2 hi,by simp [hS]⟩
 refine ((List.perm_cons_erase h1).map B).trans ?_
 rw [List.map_cons]
 refine List.Perm.cons _ ?_
 have hnd:((List.range n).filter fun q => !DQ q).Nodup:=List.Pairwise.filter _ List.nodup_range
 rw [hnd.erase_eq_filter,List.filter_filter]
 refine List.Perm.of_eq (congrArg _ (List.filter_congr fun q _ => ?_))
 by_cases e:q=i <;> simp [e]
theorem ConvM.cons {a:Own} {A B:Mem} (h:ConvM A B):ConvM (a :: A) (a :: B):=⟨h.pm.append_left _,fun g k DS o ho=>by
 rcases List.mem_cons.1 ho with rfl | ho
 ·exact DS _ List.mem_cons_self
 ·exact h.mem g k (fun o ho=>DS o (List.mem_cons_of_mem _ ho)) o ho⟩
theorem ConvM.le {a b:Own} {M:Mem} (h:Own.le a b):ConvM (a :: M) (b :: M):=⟨by show (a.bl ++ a5 M).Perm (b.bl ++ a5 M);rw [h.1],fun g k DS o ho=>by
 rcases List.mem_cons.1 ho with rfl | ho
 ·exact h.2 _ _ (DS _ List.mem_cons_self)
 ·exact DS o (List.mem_cons_of_mem _ ho)⟩
section
variable {P:Program} {E:Env} {D:List Deferred} {Γ:Ctx} {M:Mem} {Q:Exit→Act→World→Prop}
variable {i:Nat} {ty:TypeId} {pos:String} {af:Array Edge} {d:Option Tmp} {gd:Option (Nat × Bool)}
theorem tt {e:Exit} {i:Nat} {o:Own} {F:Prop} (hM:M[i]? = some o) (hF : ∀ g h,o.p g h→F) (h:F→PJ E D Γ M e Q):PJ E D Γ M e Q :=
 fun a w hS=>h (hF _ _ (hS.base.mem o (List.mem_of_getElem? hM))) a w hS
end
end Tor
end
section
set_option linter.unusedSectionVars false
namespace Tor
open Go Go.RowKit
def rvO (T:TypeId) (L:Lay) (c:Nat→Nat) (n:Nat) (B C:Nat→Nat) (φ:Nat→Nat→VT) (DQ:Nat→Bool):Own where
 bl:=((List.range n).filter fun q => !DQ q).map B
 p g h := ∀ i,i<n→DQ i=false→(aU (some (B i)) T L (C i) (c i) (φ i)).p g h
 loc:=fun he DS hp i hi hS=>(aU (some (B i)) T L (C i) (c i) (φ i)).loc (fun b' hb'=>he b' (by
  have:b'=B i:=by simpa [aU] using hb'
  rw [this]; exact List.mem_map.2 ⟨i,List.mem_filter.2 ⟨List.mem_range.2 hi,by simp [hS]⟩,rfl⟩)) DS (hp i hi hS)
theorem du {T:TypeId} {L:Lay} {n:Nat} {c B C B' C':Nat→Nat} {φ ψ:Nat→Nat→VT} {DQ S':Nat→Bool} (hS : ∀ i,i<n→DQ i=S' i) (hB : ∀ i,i<n→DQ i=false→B i=B' i∧C i=C' i) (DS : ∀ i j,i<n→DQ i=false→j<c i→VT.le (φ i j) (ψ i j)):Own.le (rvO T L c n B C φ DQ) (rvO T L c n B' C' ψ S'):=by
 refine ⟨?_,fun g h hp i hi hs => ?_⟩
 ·show ((List.range n).filter fun q => !DQ q).map B=((List.range n).filter fun q => !S' q).map B'
  rw [List.filter_congr (q:=fun q => !S' q) (fun q hq=>by rw [hS q (List.mem_range.1 hq)])]
  refine List.map_congr_left fun q hq => ?_
  obtain ⟨h1,h2⟩:=List.mem_filter.1 hq
  have h1:=List.mem_range.1 h1
  exact (hB q h1 (by rw [hS q h1]; simpa using h2)).1
 ·have hs':DQ i=false:=by rw [hS i hi]; exact hs
  obtain ⟨e1,e2⟩:=hB i hi hs'
  rw [← e1, ← e2]
  exact (gW (fun q hq=>DS i q hi hs' hq)).2 g h (hp i hi hs')
theorem kr {T:TypeId} {L:Lay} {n:Nat} {c B C:Nat→Nat} {φ:Nat→Nat→VT} {DQ:Nat→Bool} {M:Mem} (hS : ∀ i,i<n→DQ i=true):ConvM M (rvO T L c n B C φ DQ :: M):=by
 have e:((List.range n).filter fun q => !DQ q) = []:=List.filter_eq_nil_iff.2 fun q hq=>by simp [hS q (List.mem_range.1 hq)]
 refine ⟨?_,fun g h DS o ho => ?_⟩
 ·show (a5 M).Perm ((((List.range n).filter fun q => !DQ q).map B) ++ a5 M)
  rw [e]; exact List.Perm.refl _
 ·rcases List.mem_cons.1 ho with rfl | ho
  ·intro i hi hs;rw [hS i hi] at hs;cases hs
  ·exact DS o ho
theorem tu {T:TypeId} {L:Lay} {n i:Nat} {c B C:Nat→Nat} {φ:Nat→Nat→VT} {DQ:Nat→Bool} {M:Mem} (hi:i<n) (hS:DQ i=false) :
  ConvM (rvO T L c n B C φ DQ :: M) (aU (some (B i)) T L (C i) (c i) (φ i) :: rvO T L c n B C φ (fun q=>if q=i then true else DQ q) :: M):=by
 refine ⟨?_,fun g h DS o ho => ?_⟩
 ·show ((((List.range n).filter fun q => !DQ q).map B) ++ a5 M).Perm (B i :: ((((List.range n).filter fun q => !(if q=i then true else DQ q)).map B) ++ a5 M))
  exact (nu B hi hS).append_right _
 ·have h0:=DS _ List.mem_cons_self
  rcases List.mem_cons.1 ho with rfl | ho
  ·exact h0 i hi hS
  ·rcases List.mem_cons.1 ho with rfl | ho
   ·intro q hq hs
    dsimp only at hs
    by_cases e:q=i
    ·rw [if_pos e] at hs;cases hs
    ·rw [if_neg e] at hs;exact h0 q hq hs
   ·exact DS o (List.mem_cons_of_mem _ ho)
theorem jP {T:TypeId} {L:Lay} {n i b cap:Nat} {c B C:Nat→Nat} {φ:Nat→Nat→VT} {ψ:Nat→VT} {DQ:Nat→Bool} {M:Mem} (hi:i<n) (hS:DQ i=true) :
  ConvM (aU (some b) T L cap (c i) ψ :: rvO T L c n B C φ DQ :: M) (rvO T L c n (fun q=>if q=i then b else B q) (fun q=>if q=i then cap else C q) (fun q=>if q=i then ψ else φ q) (fun q=>if q=i then false else DQ q) :: M):=by
 refine ⟨?_,fun g h DS o ho => ?_⟩
 ·show (b :: ((((List.range n).filter fun q => !DQ q).map B) ++ a5 M)).Perm ((((List.range n).filter fun q => !(if q=i then false else DQ q)).map (fun q=>if q=i then b else B q)) ++ a5 M)
  have hp:=nu (DQ:=fun q=>if q=i then false else DQ q) (fun q=>if q=i then b else B q) hi (if_pos Z)
  have e:(((List.range n).filter fun q => !(if q=i then true else (if q=i then false else DQ q))).map (fun q=>if q=i then b else B q))=(((List.range n).filter fun q => !DQ q).map B):=by
   rw [List.filter_congr (q:=fun q => !DQ q) (fun q hq=>by by_cases e:q=i <;> simp [e,hS])]
   refine List.map_congr_left fun q hq => ?_
   have h2:=(List.mem_filter.1 hq).2
   by_cases e:q=i
   ·rw [e,hS] at h2;cases h2
   ·rw [if_neg e]
  rw [e,if_pos Z] at hp
  exact (hp.append_right _).symm
 ·have h0:=DS _ List.mem_cons_self
  have h1:=DS _ (List.mem_cons_of_mem _ List.mem_cons_self)
  rcases List.mem_cons.1 ho with rfl | ho
  ·intro q hq hs
   by_cases e:q=i
   ·subst e
    show (aU (some (if q=q then b else B q)) T L (if q=q then cap else C q) (c q) (if q=q then ψ else φ q)).p g h
    rw [if_pos Z,if_pos Z,if_pos Z]; exact h0
   ·dsimp only at hs
    rw [if_neg e] at hs
    show (aU (some (if q=i then b else B q)) T L (if q=i then cap else C q) (c q) (if q=i then ψ else φ q)).p g h
    rw [if_neg e,if_neg e,if_neg e]; exact h1 q hq hs
  ·exact DS o (List.mem_cons_of_mem _ (List.mem_cons_of_mem _ ho))
theorem Ent.rvo {Ms:Mem} {T:TypeId} {L:Lay} {n i:Nat} {c B C:Nat→Nat} {φ:Nat→Nat→VT} {DQ:Nat→Bool} (hm:rvO T L c n B C φ DQ∈Ms) (hi:i<n) (hS:DQ i=false):Ent Ms (one (slV (some (B i)) (c i) (C i))) (slT L (c i) (φ i)):=by
 intro g h h' v ho hv
 have hv:v=slV (some (B i)) (c i) (C i):=hv
 subst hv
 obtain ⟨h1,h2,h3,h4⟩:=ho.mem _ hm i hi hS
 obtain ⟨x,hc,hs,he⟩:=h4 (B i) Z
 refine ⟨some ⟨B i,0,none⟩,C i,rfl,h1,h2,fun j hj => ?_⟩
 obtain ⟨y,hy,hp⟩:=he j hj
 exact ⟨B i,0,x,T,(0,0),y,rfl,by rw [← ho.eq (B i) (dH hm (List.mem_map.2 ⟨i,List.mem_filter.2 ⟨List.mem_range.2 hi,by simp [hS]⟩,rfl⟩))]; exact hc,by rw [Nat.zero_add]; exact hy,(φ i j).mono ho.le hp⟩
theorem pn {T:TypeId} {L:Lay} {c n i k:Nat} {B C:Nat→Nat} {φ:Nat→Nat→VT} {M:Mem} (hi:i<n) (hk:k<n):ConvM (rvO T L (fun _=>c) n B C φ (fun _=>false) :: M) (rvO T L (fun _=>c) n (swp i k B) (swp i k C) (swp i k φ) (fun _=>false) :: M):=by
 by_cases e:i=k
 ·subst e;rw [pa,pa,pa]; exact .ofPerm (List.Perm.refl _)
 ·refine (tu hi Z).trans (.trans (ConvM.cons (tu hk (if_neg (Ne.symm e)))) (.trans (ConvM.cons (jP (c:=fun _=>c) (i:=i) hi (by rw [if_neg e,if_pos Z]))) (.trans (jP (c:=fun _=>c) (i:=k) hk (by rw [if_neg (Ne.symm e),if_pos Z])) (ConvM.le (du (fun q _ => ?_) (fun q _ _=>⟨?_,?_⟩) (fun q j _ _ _ => ?_))))))
  ·by_cases h1:q=k
   ·simp [h1]
   ·by_cases h2:q=i
    ·simp [h1,h2]
    ·simp [h1,h2]
  ·unfold swp;by_cases h1:q=k
   ·subst h1;rw [if_pos Z,if_neg (Ne.symm e),if_pos Z]
   ·by_cases h2:q=i
    ·rw [if_neg h1,if_pos h2,if_pos h2]
    ·rw [if_neg h1,if_neg h2,if_neg h2,if_neg h1]
  ·unfold swp;by_cases h1:q=k
   ·subst h1;rw [if_pos Z,if_neg (Ne.symm e),if_pos Z]
   ·by_cases h2:q=i
    ·rw [if_neg h1,if_pos h2,if_pos h2]
    ·rw [if_neg h1,if_neg h2,if_neg h2,if_neg h1]
  ·unfold swp;by_cases h1:q=k
   ·subst h1;rw [if_pos Z,if_neg (Ne.symm e),if_pos Z]; exact VT.le_refl _
   ·by_cases h2:q=i
    ·rw [if_neg h1,if_pos h2,if_pos h2]; exact VT.le_refl _
    ·rw [if_neg h1,if_neg h2,if_neg h2,if_neg h1]; exact VT.le_refl _
section
variable {P:Program} {E:Env} {D:List Deferred} {Γ:Ctx} {M:Mem} {Q:Exit→Act→World→Prop}
variable {ops:Array Oper} {i:Nat} {ty:TypeId} {pos:String} {af:Array Edge} {os:List Oper} {K:List Deferred→Ctx→Mem→Prop} {d:Option Tmp} {gd:Option (Nat × Bool)}
theorem d9 {T T':TypeId} {L:Lay} [LayOf P T L] {x:Operand} {i' j n:Nat} {c B C:Nat→Nat} {φ:Nat→Nat→VT} {DQ:Nat→Bool} (k:Nat) (hx:aQ Γ x=some (eP (B i') j L.sz)) (hM:M[k]? = some (rvO T' L c n B C φ DQ)) (hi:i'<n) (hS:DQ i'=false) (hj:j<c i') :
  aP P E Γ M ⟨d, .load T x,ty,pos,af,gd⟩ (φ i' j) :=
 aP.ofRun fun a w hb hf=>by
  have h1:a.eval x = .pointer (some ⟨B i',j*L.sz,none⟩):=hf x _ (by simp [Op.operands]) hx
  obtain ⟨_,_,_,h4⟩:=eh hb hM i' hi hS
  obtain ⟨c,hc,_,he⟩:=h4 (B i') Z
  obtain ⟨v,hx',hp⟩:=he j hj
  refine ⟨v,?_,hp⟩
  simp only [execOp,h1,Instr.loadAt,Instr.sureAddr,Sem.run_bind,Sem.run_pure,Result.andThen_ok,dB hc hx']
theorem AF {T:TypeId} {L:Lay} {n i q:Nat} {c B C:Nat→Nat} {φ:Nat→Nat→VT} {DQ:Nat→Bool} (hn:(rvO T L c n B C φ DQ).bl.Nodup) (hi:i<n) (hS:DQ i=false) (hq:q<n) (hSq:DQ q=false) (e:B q=B i):q=i:=by
 by_cases h:q=i
 ·exact h
 ·exfalso
  have h1:=(nu B hi hS).nodup_iff.1 hn
  rw [List.nodup_cons] at h1
  exact h1.1 (List.mem_map.2 ⟨q,List.mem_filter.2 ⟨List.mem_range.2 hq,by simp [h,hSq]⟩,e⟩)
theorem dq {T T':TypeId} {x y:Operand} {i' k n:Nat} {c B C:Nat→Nat} {φ:Nat→Nat→VT} {DQ:Nat→Bool} {L:Lay} {ψ:VT} [hL:LayOf P T L] [hF:Flat ψ L] (j:Nat) (hx:aQ Γ x=some (eP (B i') k L.sz)) (hy:aQ Γ y=some ψ)
  (hM:M[j]? = some (rvO T' L c n B C φ DQ)) (hi':i'<n) (hS':DQ i'=false) (hk:k<c i') (hi:ops[i]? = some ⟨none, .store T x y,ty,pos,af,none⟩)
  (h:Run P E ops false (i+1) D Γ (M.set j (rvO T' L c n B C (dT φ i' k ψ) DQ)) os K):Run P E ops false i D Γ M (⟨none, .store T x y,ty,pos,af,none⟩ :: os) K:=by
 refine Run.one (K':=fun D' Γ' M'=>D'=D∧Γ'=Γ∧M'=M.set j (rvO T' L c n B C (dT φ i' k ψ) DQ)) Z (fun a w hS => ?_) (fun D' Γ' M' ⟨h1,h2,h3⟩=>by subst h1 h2 h3;exact h) hi
 have h1:a.eval x = .pointer (some ⟨B i',k*L.sz,none⟩):=dw hS hx
 have h2:=dw hS hy
 obtain ⟨f1,f2,f3⟩:=hF.ok _ _ h2
 have hnd:=p9 hS.base.nd hM
 have hall:=eh hS.base hM
 obtain ⟨g1,g2,g3,g4⟩:=hall i' hi' hS'
 obtain ⟨cc,hc,hs,he⟩:=g4 (B i') Z
 have hkc:k<C i':=Nat.lt_of_lt_of_le hk g1
 have hmul : ∀ q,q<C i'→q*L.sz+L.sz≤C i'*L.sz:=fun q hq=>by
  have:=Nat.mul_le_mul_right L.sz (show q+1≤C i' by omega);rwa [Nat.succ_mul] at this
 have hfit:k*L.sz+L.sz≤cc.size:=by rw [hs]; exact hmul k hkc
 have hst:=dC (P:=P) (T:=T) (L:=L) (o:=k*L.sz) hc f1 hfit f2
 refine ⟨.ok .skip (w.setRow (B i') (cz cc (k*L.sz) (a.eval y).cells)),?_,D, Γ,_,⟨rfl,rfl,rfl⟩,?_⟩
 ·simp only [execOp,h1,Instr.storeAt,Instr.sureAddr,Sem.run_bind,Sem.run_pure,Result.andThen_ok,hst]
 ·show St E D Γ _ a _
  have hbm:B i'∈(rvO T' L c n B C φ DQ).bl:=List.mem_map.2 ⟨i',List.mem_filter.2 ⟨List.mem_range.2 hi',by simp [hS']⟩,rfl⟩
  refine hS.own hM Z (fun k' hk'=>db _ _ _ _ (by intro e;exact hk' (by rw [e]; exact hbm))) (dW _ _ _) Z Z Z ?_
  intro q hq hSq
  by_cases e:q=i'
  ·subst e
   refine ⟨g1,g2,g3,fun b'' hb'' => ?_⟩
   cases hb''
   refine ⟨_,dV hc,by rw [cW Y]; exact hs,fun q' hq' => ?_⟩
   show ∃ x,_∧(dT φ q k ψ q q').p x _
   unfold dT
   by_cases e:q'=k
   ·subst e;rw [if_pos ⟨rfl,rfl⟩]; exact ⟨_,dS hfit f1 f3,h2⟩
   ·rw [if_neg (fun h=>e h.2)]
    obtain ⟨v,hv,hp⟩:=he q' hq'
    refine ⟨v,?_,hp⟩
    rw [dN Y]; · exact hv
    rw [f1]
    rcases Nat.lt_or_ge q' k with h' | h'
    ·left
     have:=Nat.mul_le_mul_right L.sz (show q'+1≤k by omega);rwa [Nat.succ_mul] at this
    ·right
     have:=Nat.mul_le_mul_right L.sz (show k+1≤q' by omega);rwa [Nat.succ_mul] at this
  ·have hne:B q≠B i':=fun eb=>e (AF hnd hi' hS' hq hSq eb)
   have hrow:=hall q hq hSq
   have e2 : ∀ j',dT φ i' k ψ q j'=φ q j':=fun j'=>by unfold dT;rw [if_neg (fun h=>e h.1)]
   have e3:(dT φ i' k ψ q)=φ q:=funext e2
   rw [e3]
   refine (aU (some (B q)) T' L (C q) (c q) (φ q)).loc (fun b'' hb'' => ?_) (Hp.le_refl _) hrow
   have:b''=B q:=by simpa [aU] using hb''
   subst this
   exact (gK (db _ _ _ _ hne)).symm
end
end Tor
end
section
namespace Tor
def gP (k r:Nat) (q:Int) (F:Nat→Nat→Int):Nat→Nat→Int:=fun i j=>if i=k then F i j - q*F r j else F i j
def k9 (r k:Nat) (q:Int) (F:Nat→Nat→Int):Nat→Nat→Int:=fun i j=>if j=r then F i j+q*F i k else F i j
def rF (i r:Nat) (F:Nat→Nat→Int):Nat→Nat→Int:=fun a=>swp i r (F a)
end Tor
end
section
namespace Tor
theorem mC (n:Nat) (f g:Nat→Int):cS n (fun k=>f k+g k)=cS n f+cS n g:=by
 induction n with
 | zero => rfl
 | succ n ih => rw [eS, eS, eS, ih]; omega
theorem qC (n:Nat) (f:Nat→Int) (c:Int):cS n (fun k=>f k*c)=cS n f*c:=by
 induction n with
 | zero => simp [cS]
 | succ n ih => rw [eS, eS, ih, Int.add_mul]
theorem jo (n:Nat) (f:Nat→Int) (c:Int):cS n (fun k=>c*f k)=c*cS n f:=by
 induction n with
 | zero => simp [cS]
 | succ n ih => rw [eS, eS, ih, Int.mul_add]
theorem xc (n:Nat):cS n (fun _=>0)=0:=by
 induction n with
 | zero => rfl
 | succ n ih => rw [eS, ih]; rfl
def EqP (n m:Nat) (M U A:Nat→Nat→Int):Prop := ∀ i j,i<n→j<m→M i j=cS n (fun k=>U i k*A k j)
def trS (i r a:Nat):Nat:=if a=i then r else if a=r then i else a
theorem nv {α:Type} (i r:Nat) (F:Nat→α) (a:Nat):swp i r F a=F (trS i r a):=by
 unfold swp trS;split
 ·rfl
 ·split <;> rfl
theorem uK {n i r a:Nat} (hi:i<n) (hr:r<n) (ha:a<n):trS i r a<n:=by
 unfold trS;split
 ·exact hr
 ·split
  ·exact hi
  ·exact ha
theorem DF {i r a b:Nat} : trS i r a=trS i r b↔a=b:=by
 unfold trS
 constructor
 ·intro h
  by_cases h1:a=i <;> by_cases h2:b=i <;> by_cases h3:a=r <;> by_cases h4:b=r <;> simp_all
 ·rintro rfl;rfl
theorem EqP.swap {n m i r:Nat} {M U A:Nat→Nat→Int} (h:EqP n m M U A) (hi:i<n) (hr:r<n):EqP n m (swp i r M) (swp i r U) A:=fun a j ha hj=>by
 rw [nv,nv]; exact h _ j (uK hi hr ha) hj
theorem EqP.sub {n m k r:Nat} {q:Int} {M U A:Nat→Nat→Int} (h:EqP n m M U A) (hr:r<n):EqP n m (gP k r q M) (gP k r q U) A:=fun a j ha hj=>by
 unfold gP
 by_cases e:a=k
 ·simp only [if_pos e]
  rw [h a j ha hj,h r j hr hj,dj (f:=fun t=>(U a t - q*U r t)*A t j) (g:=fun t=>U a t*A t j + -q*(U r t*A t j)) (fun t _=>by
   rw [Int.sub_mul,Int.neg_mul,Int.mul_assoc]; rfl),mC,jo,Int.neg_mul]
  rfl
 ·simp only [if_neg e]; exact h a j ha hj
def jZ (n:Nat) (U V:Nat→Nat→Int):Prop := ∀ i j,i<n→j<n→cS n (fun k=>U i k*V k j)=if i=j then 1 else 0
theorem jZ.swap {n i r:Nat} {U V:Nat→Nat→Int} (h:jZ n U V) (hi:i<n) (hr:r<n):jZ n (swp i r U) (rF i r V):=fun a b ha hb=>by
 have:=h _ _ (uK hi hr ha) (uK hi hr hb)
 rw [dj (g:=fun k=>U (trS i r a) k*V k (trS i r b)) (fun k _=>by rw [nv]; unfold rF;rw [nv]),this]
 by_cases e:a=b
 ·rw [if_pos e,if_pos (DF.2 e)]
 ·rw [if_neg e,if_neg (fun h2=>e (DF.1 h2))]
theorem jZ.sub {n k r:Nat} {q:Int} {U V:Nat→Nat→Int} (h:jZ n U V) (hk:k<n) (hr:r<n) (hne:k≠r):jZ n (gP k r q U) (k9 r k q V):=fun a b ha hb=>by
 have key : ∀ DR:Nat→Int,cS n (fun t=>gP k r q U a t*DR t)=cS n (fun t=>U a t*DR t) - if a=k then q*cS n (fun t=>U r t*DR t) else 0:=fun DR=>by
  unfold gP
  by_cases e:a=k
  ·simp only [if_pos e]
   rw [dj (g:=fun t=>U a t*DR t + -q*(U r t*DR t)) (fun t _=>by rw [Int.sub_mul,Int.neg_mul,Int.mul_assoc]; rfl),mC,jo,Int.neg_mul]
   rfl
  ·simp only [if_neg e]; omega
 by_cases eb:b=r
 ·have e2 : ∀ i,i<n→cS n (fun t=>U i t*k9 r k q V t b)=(if i=r then 1 else 0)+q*(if i=k then 1 else 0):=fun i hi=>by
   have h1:=h i r hi hr
   have h2:=h i k hi hk
   unfold k9
   simp only [if_pos eb]
   rw [eb,dj (g:=fun t=>U i t*V t r+q*(U i t*V t k)) (fun t _=>by rw [Int.mul_add,Int.mul_left_comm]),mC,jo,h1,h2]
  rw [key,e2 a ha,e2 r hr,if_pos Z,if_neg (show ¬ r=k from fun e=>hne e.symm),eb]
  by_cases e:a=k
  ·rw [if_pos e,if_pos e,if_neg (show ¬ a=r by omega)]; omega
  ·rw [if_neg e,if_neg e]; omega
 ·have e2 : ∀ i,i<n→cS n (fun t=>U i t*k9 r k q V t b)=if i=b then 1 else 0:=fun i hi=>by
   have h1:=h i b hi hb
   unfold k9
   simp only [if_neg eb]
   exact h1
  rw [key,e2 a ha,e2 r hr,if_neg (show ¬ r=b from fun e=>eb e.symm)]
  by_cases e:a=k
  ·rw [if_pos e]; omega
  ·rw [if_neg e]; omega
end Tor
end
section
namespace Tor
theorem nx {n:Nat} {f:Nat→Int} (h : ∀ i,i<n→f i=0):cS n f=0:=by
 rw [dj (g:=fun _=>0) h,xc]
theorem kS {f:Nat→Int} {k:Nat} : ∀ {n:Nat},k<n→(∀ i,i<n→i≠k→f i=0)→cS n f=f k
 | n + 1, hk, h => by
  rw [cS]
  rcases Nat.lt_or_eq_of_le (Nat.lt_succ_iff.1 hk) with h1 | h1
  ·rw [kS h1 (fun i hi hne=>h i Y hne),h n Y Y]; omega
  ·subst h1
   rw [nx fun i hi=>h i Y Y]; omega
end Tor
end
section
namespace Tor
theorem jp {f:Nat→Int} {k:Nat} {y:Int} : ∀ {n:Nat},k<n→cS n (fun i=>if i=k then y else f i)=cS n f+y - f k
 | n + 1, hk => by
  rw [cS,cS]
  rcases Nat.lt_or_eq_of_le (Nat.lt_succ_iff.1 hk) with h1 | h1
  ·rw [jp h1,if_neg Y]; omega
  ·subst h1
   rw [if_pos Z,dj (f:=fun i=>if i=k then y else f i) (g:=f) (fun i hi=>by rw [if_neg Y])]; omega
theorem AG {f:Nat→Int} {i r n:Nat} (hi:i<n) (hr:r<n):cS n (fun k=>f (trS i r k))=cS n f:=by
 by_cases e:i=r
 ·subst e
  refine dj fun k _ => ?_
  unfold trS;split
  ·rename_i h;rw [h]
  ·rfl
 ·have h1:(fun k=>f (trS i r k))=fun k=>if k=i then f r else (fun k=>if k=r then f i else f k) k:=by
   funext k;unfold trS
   by_cases h2:k=i
   ·rw [if_pos h2,if_pos h2]
   ·rw [if_neg h2,if_neg h2]
    by_cases h3:k=r
    ·rw [if_pos h3]; exact (if_pos h3).symm
    ·rw [if_neg h3]; exact (if_neg h3).symm
  rw [h1,jp hi,jp hr,if_neg e]
  omega
theorem jZ.swap' {n i r:Nat} {U V:Nat→Nat→Int} (h:jZ n V U) (hi:i<n) (hr:r<n):jZ n (rF i r V) (swp i r U):=fun a b ha hb=>by
 rw [← h a b ha hb, ← AG (f:=fun k=>V a k*U k b) hi hr]
 refine dj fun k _ => ?_
 unfold rF
 rw [nv,nv]
theorem jZ.sub' {n k r:Nat} {q:Int} {U V:Nat→Nat→Int} (h:jZ n V U) (hk:k<n) (hr:r<n) (hne:k≠r):jZ n (k9 r k q V) (gP k r q U):=fun a b ha hb=>by
 rw [← h a b ha hb]
 have e1:(fun t=>k9 r k q V a t*gP k r q U t b)=fun t=>if t=k then V a k*U k b - V a k*(q*U r b) else (fun t=>if t=r then V a r*U r b+q*V a k*U r b else V a t*U t b) t:=by
  funext t
  unfold k9 gP
  by_cases h1:t=k
  ·rw [if_pos h1,if_pos h1,if_neg Y,h1,Int.mul_sub]
  ·rw [if_neg h1,if_neg h1]
   by_cases h2:t=r
   ·rw [if_pos h2,h2,Int.add_mul]; exact (if_pos Z).symm
   ·rw [if_neg h2]; exact (if_neg h2).symm
 rw [e1,jp hk,jp hr,if_neg hne]
 have:q*V a k*U r b=V a k*(q*U r b):=by rw [Int.mul_comm q,Int.mul_assoc]
 omega
theorem qD (n m:Nat) (f:Nat→Nat→Int):cS n (fun i=>cS m (fun j=>f i j))=cS m (fun j=>cS n (fun i=>f i j)):=by
 induction n with
 | zero => exact (nx fun j _ => rfl).symm
 | succ n ih => rw [cS, ih, ← mC]; rfl
theorem EqP.back {n m:Nat} {M U A V:Nat→Nat→Int} (h:EqP n m M U A) (hv:jZ n V U):EqP n m A V M:=fun i j hi hj=>by
 rw [dj (g:=fun k=>cS n (fun t=>V i k*U k t*A t j)) (fun k hk=>by
  rw [h k j hk hj, ← jo]; exact dj fun t _=>(Int.mul_assoc _ _ _).symm),qD,dj (g:=fun t=>(if i=t then 1 else 0)*A t j) (fun t ht=>by
  rw [qC,hv i t hi ht]),kS (k:=i) hi (fun t _ hne=>by rw [if_neg (fun e=>hne e.symm),Int.zero_mul]),if_pos Z,Int.one_mul]
end Tor
end
section
namespace Tor
def idF:Nat→Nat→Int:=fun i j=>if i=j then 1 else 0
/-! ### Sizes -/
theorem gG {x:Int} {t k:Nat} (h:x.natAbs≤2^t) (hk:t<32*k):(aL x.natAbs).length≤k:=cG (by
 rw [show (4294967296:Nat)=2^32 from rfl, ← Nat.pow_mul]
 exact Nat.lt_of_le_of_lt h (Nat.pow_lt_pow_right S hk))
/-! ### Rows and columns do not go back; the first finished state -/
end Tor
end
section
namespace Tor
open Go Go.RowKit Go.Proofs
abbrev gH (bz cap n:Nat) (c B C:Nat→Nat):Own:=aU (some bz) 50 .one cap n (fun q=>one (slV (some (B q)) (c q) (C q)))
abbrev ff (F:Nat→Nat→Int):Nat→Nat→VT:=fun i j=>aO (F i j)
abbrev cT (c:Nat→Nat) (n:Nat) (B C:Nat→Nat) (F:Nat→Nat→Int):Own:=rvO 43 (.agg 2) c n B C (ff F) (fun _=>false)
def adP (i j:Nat) (f:Int) (x:Nat) (F:Nat→Nat→Int):Nat→Nat→Int:=fun a b=>if a=i∧b<x then F a b+f*F j b else F a b
def adF (i j:Nat) (f:Int) (F:Nat→Nat→Int):Nat→Nat→Int:=fun a b=>if a=i then F a b+f*F j b else F a b
theorem yG {i j x b:Nat} {f:Int} {F:Nat→Nat→Int} (hne:i≠j):adP i j f x F j b=F j b:=if_neg fun h=>hne h.1.symm
theorem Bw {i j x:Nat} {f:Int} {F:Nat→Nat→Int} : adP i j f x F i x=F i x:=if_neg fun h=>Nat.lt_irrefl _ h.2
theorem DJ {i j n:Nat} {c B C:Nat→Nat} {f:Int} {F:Nat→Nat→Int} : Own.le (cT c n B C F) (cT c n B C (adP i j f 0 F)):=du (fun _ _=>rfl) (fun _ _ _=>⟨rfl,rfl⟩) fun a b _ _ _=>by
 show VT.le (aO _) (aO (adP i j f 0 F a b))
 rw [show adP i j f 0 F a b=F a b from if_neg fun h=>Nat.not_lt_zero _ h.2]; exact VT.le_refl _
theorem DK {i j x n:Nat} {c B C:Nat→Nat} {f:Int} {F:Nat→Nat→Int} (hne:i≠j):Own.le (rvO 43 (.agg 2) c n B C (dT (ff (adP i j f x F)) i x (aO (adP i j f x F i x+f*adP i j f x F j x))) (fun _=>false)) (cT c n B C (adP i j f (x+1) F)):=du (fun _ _=>rfl) (fun _ _ _=>⟨rfl,rfl⟩) fun a b _ _ _=>by
 show VT.le (dT _ _ _ _ a b) (aO (adP i j f (x+1) F a b))
 unfold dT
 by_cases h:a=i∧b=x
 ·rw [if_pos h,h.1,h.2,yG hne,Bw,show adP i j f (x+1) F i x=F i x+f*F j x from if_pos ⟨rfl,Nat.lt_succ_self x⟩]; exact VT.le_refl _
 ·rw [if_neg h]
  show VT.le (aO _) _
  unfold adP
  by_cases h1:a=i∧b<x
  ·rw [if_pos h1,if_pos ⟨h1.1,by omega⟩]; exact VT.le_refl _
  ·rw [if_neg h1,if_neg Y]; exact VT.le_refl _
theorem DL {i j n:Nat} {c B C:Nat→Nat} {f:Int} {F:Nat→Nat→Int} : Own.le (cT c n B C (adP i j f (c i) F)) (cT c n B C (adF i j f F)):=du (fun _ _=>rfl) (fun _ _ _=>⟨rfl,rfl⟩) fun a b _ _ hb=>by
 show VT.le (aO (adP i j f (c i) F a b)) (aO (adF i j f F a b))
 unfold adP adF
 by_cases h:a=i
 ·rw [if_pos h,if_pos ⟨h,by rw [← h]; exact hb⟩]; exact VT.le_refl _
 ·rw [if_neg h,if_neg (fun e=>h e.1)]; exact VT.le_refl _
theorem oa {T:TypeId} {bz cap n i b:Nat} {c B C:Nat→Nat} {z:VT} : Own.le (aU (some bz) T .one cap n (upd (fun q=>if q<i then one (slV (some (B q)) (c q) (C q)) else z) i (one (slV (some b) (c i) (C i))))) (aU (some bz) T .one cap n (fun q=>if q<i+1 then one (slV (some (if q=i then b else B q)) (c q) (C q)) else z)):=bQ fun q _=>by
 unfold upd
 by_cases h:q=i
 ·subst h;rw [if_pos Z,if_pos (Nat.lt_succ_self q),if_pos Z]
 ·rw [if_neg h]
  dsimp only
  by_cases h2:q<i
  ·rw [if_pos h2,if_pos Y,if_neg h]
  ·rw [if_neg h2,if_neg Y]
theorem mD {T:TypeId} {L:Lay} {n i b:Nat} {c B C:Nat→Nat} {φ χ:Nat→Nat→VT} {ψ:Nat→VT} (h1 : ∀ j,j<c i→VT.le (ψ j) (χ i j)) (h2 : ∀ q j,q<i→j<c q→VT.le (φ q j) (χ q j)):Own.le (rvO T L c n (fun q=>if q=i then b else B q) (fun q=>if q=i then C i else C q) (fun q=>if q=i then ψ else φ q) (fun q=>if q=i then false else decide (i≤q))) (rvO T L c n (fun q=>if q=i then b else B q) C χ (fun q=>decide (i+1≤q))):=du (fun q _=>by
  by_cases h:q=i
  ·rw [if_pos h,decide_eq_false Y]
  ·rw [if_neg h]; exact decide_eq_decide.2 Y) (fun q _ _=>⟨rfl,by
  by_cases h:q=i
  ·rw [if_pos h,h]
  ·rw [if_neg h]⟩) (fun q j _ hs hj=>by
  by_cases h:q=i
  ·rw [if_pos h]; subst h;exact h1 j hj
  ·rw [if_neg h] at hs ⊢; exact h2 q j (by have:=of_decide_eq_false hs;omega) hj)
theorem Cn {i:Nat} (j:Nat):VT.le (upd (fun _=>one (.agg #[.bool false, .slice none 0 0])) i (aO 1) j) (ff idF i j):=by
 unfold upd
 show VT.le _ (aO (if i=j then 1 else 0))
 by_cases h:j=i
 ·rw [if_pos h,if_pos h.symm]; exact VT.le_refl _
 ·rw [if_neg h,if_neg (Ne.symm h)]; exact jj
theorem xd {a b a' b':Own} (h1:Own.le a a') (h2:Own.le b b'):ConvM [a,b] [b',a']:=by
 refine ⟨?_,fun g h DS o ho => ?_⟩
 ·show (a.bl ++ (b.bl ++ [])).Perm (b'.bl ++ (a'.bl ++ []))
  rw [← h1.1, ← h2.1,List.append_nil,List.append_nil]; exact List.perm_append_comm
 ·rcases List.mem_cons.1 ho with rfl | ho
  ·exact h2.2 _ _ (DS _ (List.mem_cons_of_mem _ List.mem_cons_self))
  ·rcases List.mem_singleton.1 ho with rfl
   exact h1.2 _ _ (DS _ List.mem_cons_self)
attribute [local irreducible] J PJ aP one slT cv bA bM exT cq eP aW aU slV VT.le Ret bO xO
theorem xe (c:Nat) (f:Nat→Int) (hc0:0<c) (hc:c≤1048576):OkM (σ:=Nat × Nat) Tryz.prog 61 [cu c f] (fun s=>one (slV (some s.1) c s.2)) (fun s => [aU (some s.1) 43 (.agg 2) s.2 c (fun j=>aO (f j))]):=by
 unfold cu
 refine OkM.enter Tryz.func61 Z Tryz.ntmps61 Z (fun w O => ?_)
 refine ae (aj (Ea Z (Ec (aa (ae (ae (aj (DZ Z (DY (vn Z) ?_)))))))))
 refine Ec (aa ?_)
 refine zU (t:=4) Z (fun b => ?_)
 refine vf (t:=4) Z (fun hb => ?_)
 refine a4 Z (fun hc => ?_) (fun hc => ?_)
 ·exact absurd (hb hc) Y
 ·refine av (aa (ae (aj (kZ (n:=0) Z Z Z Z Z ?_))))
  refine PartsK.nil (fun bl => ?_)
  refine DZ Z ?_
  (refine de 0 Z Z Z (leN Z) ?_ ?_ Z (ltN Z) (fun sv7 cap7 => ?_);omega;omega)
  refine Ea Z (Ec (aa (aD ?_)))
  refine tt (i:=0) (F:=sv7=none→0+c=0) Z (fun g h hp he=>fN hp he) (fun hsv => ?_)
  obtain ⟨bo,rfl⟩:=eG hsv Y
  exact l7 (bo,cap7) Tryz.results61 (.tmp Z (jD (Nat.zero_add c))) (.keep (gC (Nat.zero_add c) (fun q hq=>by rw [if_neg (Nat.not_lt_zero q),Nat.sub_zero])) .nil)
theorem gI (a b:Int) (hb:b≠0) (ha:bJ a) (hbs:bJ b):Ok Tryz.prog 81 [aO a,aO b] (aO (a / b)):=by
 have h1:=ib a b hb ha hbs
 refine Ok.enter Tryz.func81 Z Tryz.ntmps81 Z (fun w O => ?_)
 refine ae (aj ?_)
 refine aM Z Z (ltN Z) (fun b2 => ?_)
 refine aM Z Z (ltN Z) (fun b3 => ?_)
 refine aX (T:=43) Z (ltN Z) (fun b4 => ?_)
 refine Ec (aa (ae (aj (DY (ay 2 Z Z) (DY (ay 1 Z Z) ?_)))))
 refine DY (am (h1) Z ⟨H,H,Ed⟩) ?_
 refine DZ Z (DY (aq Z Z) (DY (aq Z Z) (DY (aq Z Z) ?_)))
 refine aX (T:=43) Z (ltN Z) (fun b5 => ?_)
 refine aX (T:=43) Z (ltN Z) (fun b6 => ?_)
 refine aC 1 Z Z Z Z Z (leN Z) Z (aC 0 Z Z Z Z Z (leN Z) Z (Ea Z (Ec (aa (ae (aj (DY (ak 1 Z Z Z) (aC 2 Z Z Z Z Z (leN Z) Z (Ec ?_)))))))))
 refine aa (aD ?_)
 refine aK Tryz.results81 (.cellB 2 Z Z Z H)
attribute [local irreducible] rvO aO
theorem rG (bz cap n:Nat) (c B C:Nat→Nat) (F:Nat→Nat→Int) (i j:Nat) (f:Int) (hn:n≤1048576) (hc:c j≤1048576) (hi:i<n) (hj:j<n) (hcc:c i=c j) (hne:i≠j) (hf:dA f) (hF : ∀ a b,dA (F a b)) :
  OkI Tryz.prog 100 [one (slV (some bz) n cap),one (.int .i64 (i:Nat)),one (.int .i64 (j:Nat)),aO f] [gH bz cap n c B C,cT c n B C F]
   (fun _:Unit=>bM []) (fun _ => [gH bz cap n c B C,cT c n B C (adF i j f F)]):=by
 refine OkI.enter Tryz.func100 Z Tryz.ntmps100 Z (fun w O => ?_)
 refine ae (aj ?_)
 refine lW Z Z (ltN Z) (fun b7 => ?_)
 refine Ec (aa (ae (aj (DZ Z (DZ Z (DY (an Z Z Y) (DY (bk 1 Z Z Y) (DY (gL Z) (DZ Z ?_)))))))))
 refine Ec (aa (ar (cm (Γ' := [(0,_),(1,_),(7,_),(13,_),(14,_),(15,_)]) DT (SubM.refl _) ?_)))
 refine bw (σ:=Nat) (Γk := [(0,_),(1,_),(7,_),(13,_),(14,_)]) DT (fun x => [(15,one (.int .i64 (x:Nat)))]) (fun x M0=>(M0.set 2 (cT c n B C (adP i j f x F)))) (fun x=>x≤c j) (fun x=>c j - x) (0) (Nat.zero_le _) DU (.keep DX (.keep DX (.keep (DJ) (.nil)))) (fun x hx => ?_)
 refine bN (Γ' := [(15,_),(0,_),(1,_),(7,_),(13,_),(14,_)]) (M' := [_,_,_]) Z Z ?_
 have hs1 : ∀ a b,bJ (F a b):=fun a b=>cI (hF a b)
 by_cases h:x<c j
 ·have hxi:x<c i:=by omega
  have hm:bJ (f*adP i j f x F j x):=by rw [yG hne]; exact jk hf (hF _ _)
  have hp1:bJ (adP i j f x F j x):=by rw [yG hne]; exact hs1 _ _
  have hp2:bJ (adP i j f x F i x):=by rw [Bw]; exact hs1 _ _
  have hf1:=cI hf
  refine ae (aj (DY (sT Y (a7 Z Z)) (Ec (aa (ae (aG Z (av (aa (ae ?_)))))))))
  refine ar (ae (aj (DZ Z (DY (an Z Z Y) (DY (d9 2 Z Z Y Z Y) ?_)))))
  refine aX (T:=43) Z (ltN Z) (fun b9 => ?_)
  refine Ea Z (aC 0 Z Z Z Z Z (leN Z) Z (Ec (aa (aT 16 aS X S (DZ Z (DZ Z (DY (an Z Z Y) (DY (bk 2 Z Z Y) (DZ Z ?_)))))))))
  refine DZ Z (DZ Z (DY (an Z Z Y) (DY (bk 2 Z Z Y) (DZ Z (DY (an Z Z Y) (DY (d9 3 Z Z Y Z Y) (DY (ak 1 Z Z Z) (DY (ak 0 Z Z Z) ?_))))))))
  refine DY (am (dM _ _ (by assumption) (by assumption)) Z ⟨H,H,Ed⟩) ?_
  refine DY (am (gv _ _ (by assumption) (by assumption)) Z ⟨H,H,Ed⟩) ?_
  refine Ec (DY (an Z Z Y) ?_)
  (refine dq 3 Z Z Z ?_ Z ?_ Z ?_;omega;omega)
  refine Ec (aB (aa (aj (DY (bn _ 1 Z Z Y) (DZ Z (Ec ?_))))))
  refine aN (x+1) (h) Y DU (.drop (.keep DX (.keep DX (.keep (DK hne) (.nil)))))
 ·have he:x=c i:=by omega
  subst he
  refine ae (aj (DY (sF Y (a7 Z Z)) (Ec (aa (ae (az Z (aY (aw (aw ?_)))))))))
  refine aE (q8 ?_)
  exact xV (σ:=Unit) (ψ:=fun _=>bM []) () Tryz.results100 H (.drop (.keep DX (.keep DL .nil)))
theorem vT (n:Nat) (hn:n≤1048576):OkM (σ:=Nat × (Nat→Nat)) Tryz.prog 62 [one (.int .i64 (n:Nat))] (fun s=>one (slV (some s.1) n n)) (fun s => [gH s.1 n n (fun _=>n) s.2 (fun _=>n),cT (fun _=>n) n s.2 (fun _=>n) idF]):=by
 refine OkM.enter Tryz.func62 Z Tryz.ntmps62 Z (fun w O => ?_)
 refine ae (aj (Ea Z (Ec (aa (ae (aj (DZ Z ?_)))))))
 refine ci n n Z Z Z Z (Nat.le_refl _) Z Z Y Z Z (fun bz => ?_)
 refine Ea Z (Ec (aa (ae (ae (aj (DZ Z (DY (gL Z) (DZ Z (Ec ?_)))))))))
 refine aa (ar ?_)
 refine et (kr (T:=43) (L := .agg 2) (c:=fun _=>n) (n:=n) (B:=fun _=>0) (C:=fun _=>n) (φ:=ff idF) (DQ:=fun q=>decide (0≤q)) (fun i _=>decide_eq_true (Nat.zero_le i))) ?_
 refine cm (Γ' := [(0,_),(2,_),(3,_),(8,_),(9,_)]) DT (SubM.refl _) ?_
 refine bw (σ:=Nat × (Nat→Nat)) (Γk := [(0,_),(2,_),(3,_),(8,_)]) DT (fun s => [(9,one (.int .i64 (s.1:Nat)))]) (fun s M0=>((M0.set 1 (aU (some bz) 50 .one n n (fun q=>if q<s.1 then one (slV (some (s.2 q)) n n) else one (.slice none 0 0)))).set 0 (rvO 43 (.agg 2) (fun _=>n) n s.2 (fun _=>n) (ff idF) (fun q=>decide (s.1≤q))))) (fun s=>s.1≤n) (fun s=>n - s.1) ((0,fun _=>0)) (Nat.zero_le _) DU (.keep DX (.keep DX (.nil))) (fun s hs => ?_)
 refine bN (Γ' := [(9,_),(0,_),(2,_),(3,_),(8,_)]) (M' := [_,_]) Z Z ?_
 obtain ⟨i,B⟩:=s
 dsimp only at hs ⊢
 by_cases hi:i<n
 ·refine ae (aj (DY (sT Y (a7 Z Z)) (Ec (aa (ae (aG Z (av (aa (ae ?_)))))))))
  refine ar (ae (aj (DZ Z (Ea Z (Ec (aa (ae (aj (DZ Z ?_)))))))))
  refine DZ Z (DZ Z ?_)
  refine ci n n Z Z Z Z (Nat.le_refl _) Z Z Y Z Z (fun b => ?_)
  refine DY (an Z Z Y) ?_
  (refine aA 2 Z Z Z ?_ Z ?_;omega)
  refine Ec (aa (aT 6 aS X S (DZ Z (DZ Z (DY (an Z Z Y) (DY (bk 2 Z Z Y) (DZ Z ?_)))))))
  refine DY (am (ql _ Y Y) Z ⟨H,Ed⟩) ?_
  refine Ec (lM (t:=20) (ψ:=one (slV (some b) n n)) Z (by unfold upd;rw [if_pos Z]; exact VT.le_refl _) (DY (an Z Z Y) ?_))
  (refine aA 0 Z Z Z ?_ Z ?_;omega)
  refine Ec (aB (aa (aj (DY (bn _ 1 Z Z Y) (DZ Z (Ec ?_))))))
  refine gq (jP (c:=fun _=>n) (i:=i) hi (decide_eq_true (Nat.le_refl i))) ?_
  refine aN ((i+1,fun q=>if q=i then b else B q)) Y Y DU (.keep (mD (C:=fun _=>n) (fun j hj=>Cn j) (fun q j _ _=>VT.le_refl _)) (.keep (oa (c:=fun _=>n) (C:=fun _=>n)) (.nil)))
 ·have he:i=n:=by omega
  subst he
  refine ae (aj (DY (sF Y (a7 Z Z)) (Ec (aa (ae (az Z (aY (aw (aw ?_)))))))))
  refine aE (aa (ae (aj (DZ Z (Ea Z (Ec (aa (aD ?_))))))))
  refine gq (xd (a':=cT (fun _=>i) i B (fun _=>i) idF) (b':=gH bz i i (fun _=>i) B (fun _=>i)) (du (fun q hq=>decide_eq_false Y) (fun q _ _=>⟨rfl,rfl⟩) (fun q j _ _ _=>VT.le_refl _)) (bQ fun q hq=>by rw [if_pos hq])) ?_
  exact l7 ((bz,B):Nat × (Nat→Nat)) Tryz.results62 (.tmp Z H) (SubM.refl _)
end Tor
end
section
namespace Tor.Lin
theorem kT (x:Rat):0≤x*x:=by
 rcases Rat.le_total (a:=0) (b:=x) with h | h
 ·exact Rat.mul_nonneg h h
 ·have:=Rat.mul_nonneg (a := -x) (b := -x) (by grind) (by grind)
  grind
theorem yH {a b c d:Rat} (h:0≤a) (h1:a≤b) (h2:0≤c) (h3:c≤d):a*c≤b*d:=by
 have e1:=Rat.mul_le_mul_of_nonneg_left (c:=c) h1 h2
 have e2:=Rat.mul_le_mul_of_nonneg_left (c:=b) h3 (Rat.le_trans h h1)
 grind
theorem kU {n:Nat} {f:Nat→Rat} (h : ∀ i,i<n→0≤f i):0≤sm n f:=by
 induction n with
 | zero => exact Rat.le_refl
 | succ n ih =>
  have h1:=ih (fun i hi=>h i Y)
  have h2:=h n Y
  rw [sm]; grind
theorem tv {n:Nat} {f:Nat→Rat} (h : ∀ i,i<n→0≤f i) (h0:sm n f=0) : ∀ i,i<n→f i=0:=by
 induction n with
 | zero => intro i hi; omega
 | succ n ih =>
  have h1:=kU (fun i hi=>h i (show i<n+1 by omega)) (n:=n)
  have h2:=h n Y
  rw [sm] at h0
  intro i hi
  by_cases e:i=n
  ·subst e;grind
  ·exact ih (fun i hi=>h i Y) (by grind) i Y
theorem qE {n m:Nat} {f:Nat→Rat} (h:m≤n) (h0 : ∀ j,m≤j→j<n→f j=0):sm n f=sm m f:=by
  induction n with
  | zero => have : m = 0 := by omega
            rw [this]
  | succ n ih =>
    by_cases e:m=n+1
    · rw [e]
    · rw [sm,ih Y (fun j h1 h2=>h0 j h1 Y),h0 n Y Y,Rat.add_zero]
def dot (m:Nat) (u v:Nat→Rat):Rat:=sm m (fun k=>u k*v k)
theorem eK (m:Nat) (u v:Nat→Rat):dot m u v=dot m v u:=be fun k _=>Rat.mul_comm _ _
theorem mE (m:Nat) (u:Nat→Rat):0≤dot m u u:=kU fun k _=>kT _
theorem po {m:Nat} {u:Nat→Rat} (h:dot m u u=0) : ∀ k,k<m→u k=0:=fun k hk=>by
 have:=tv (fun i _=>kT (u i)) h k hk
 grind
def gsT (m:Nat) (A:Nat→Nat→Rat):Nat→Nat→Nat→Rat
 | 0 => fun _ _ => 0
 | i + 1 => fun j => if j = i then (fun k => A i k - sm i (fun t => dot m (A i) (gsT m A i t) / dot m (gsT m A i t) (gsT m A i t) * gsT m A i t k)) else gsT m A i j
def gsB (m:Nat) (A:Nat→Nat→Rat) (i:Nat):Nat→Rat:=gsT m A (i+1) i
def gsM (m:Nat) (A:Nat→Nat→Rat) (i t:Nat):Rat:=dot m (A i) (gsB m A t) / dot m (gsB m A t) (gsB m A t)
theorem yI {m:Nat} {A:Nat→Nat→Rat} : ∀ i j,j<i→gsT m A i j=gsB m A j
 | 0, j, h => absurd h (Nat.not_lt_zero _)
 | i + 1, j, h => by
  by_cases e:j=i
  ·rw [e]; rfl
  ·show (if j=i then _ else gsT m A i j)=_
   rw [if_neg e]; exact yI i j Y
theorem lO (m:Nat) (A:Nat→Nat→Rat) (i k:Nat):gsB m A i k=A i k - sm i (fun t=>gsM m A i t*gsB m A t k):=by
 show (if i=i then (fun k=>A i k - sm i (fun t=>dot m (A i) (gsT m A i t) / dot m (gsT m A i t) (gsT m A i t)*gsT m A i t k)) else gsT m A i i) k=_
 rw [if_pos Z]
 show A i k - _=_
 congr 1
 exact be fun t ht=>by rw [yI i t ht]; rfl
theorem ks {m n:Nat} {u v w:Nat→Rat} {f:Nat→Rat} {b:Nat→Nat→Rat} (h : ∀ k,k<m→w k=v k - sm n (fun t=>f t*b t k)):dot m u w=dot m u v - sm n (fun t=>f t*dot m u (b t)):=by
 unfold dot
 rw [be (g:=fun k=>u k*v k - sm n (fun t=>f t*(u k*b t k))) (fun k hk=>by
  rw [h k hk]
  have:sm n (fun t=>f t*(u k*b t k))=sm n (fun t=>f t*b t k)*u k:=by
   rw [← jJ]; exact be fun t _=>by grind
  rw [this]; grind),kq,n8]
 congr 1
 exact be fun t _=>by
  rw [Rat.mul_comm, ← jJ]; exact be fun k _=>by grind
theorem rH (m:Nat) (A:Nat→Nat→Rat) (i t:Nat):gsM m A i t*dot m (gsB m A t) (gsB m A t)=dot m (A i) (gsB m A t):=by
 by_cases h:dot m (gsB m A t) (gsB m A t)=0
 ·have h0:=po h
  have e:dot m (A i) (gsB m A t)=0:=gw fun k hk=>by rw [h0 k hk]; exact Rat.mul_zero _
  rw [h,e]; exact Rat.mul_zero _
 ·unfold gsM;exact Rat.div_mul_cancel h
theorem iV (m:Nat) (A:Nat→Nat→Rat) : ∀ i j,j<i→dot m (gsB m A i) (gsB m A j)=0:=by
 intro i
 induction i using Nat.strongRecOn with
 | _ i ih =>
  intro j hj
  rw [eK,ks (v:=A i) (f:=fun t=>gsM m A i t) (b:=gsB m A) (n:=i) (fun k _=>lO m A i k)]
  rw [ja hj (fun t ht hne=>by
   rcases Nat.lt_trichotomy t j with h | h | h
   ·rw [ih j hj t h]; exact Rat.mul_zero _
   ·exact absurd h hne
   ·rw [eK,ih t ht j h]; exact Rat.mul_zero _),rH,eK]
  grind
theorem Co (m:Nat) (A:Nat→Nat→Rat) (i k:Nat):A i k=gsB m A i k+sm i (fun t=>gsM m A i t*gsB m A t k):=by
 rw [lO]; grind
theorem AH (m:Nat) (A:Nat→Nat→Rat) (i:Nat):dot m (A i) (A i)=dot m (gsB m A i) (gsB m A i)+sm i (fun t=>gsM m A i t*gsM m A i t*dot m (gsB m A t) (gsB m A t)):=by
 have e1:=ks (m:=m) (u:=gsB m A i) (v:=A i) (w:=gsB m A i) (n:=i) (f:=fun t=>gsM m A i t) (b:=gsB m A) (fun k _=>lO m A i k)
 rw [gw (n:=i) (fun t ht=>by rw [iV m A i t ht]; exact Rat.mul_zero _)] at e1
 have e2:=ks (m:=m) (u:=A i) (v:=A i) (w:=gsB m A i) (n:=i) (f:=fun t=>gsM m A i t) (b:=gsB m A) (fun k _=>lO m A i k)
 have e3:dot m (gsB m A i) (A i)=dot m (A i) (gsB m A i):=eK _ _ _
 have e4:sm i (fun t=>gsM m A i t*dot m (A i) (gsB m A t))=sm i (fun t=>gsM m A i t*gsM m A i t*dot m (gsB m A t) (gsB m A t)):=be fun t _=>by rw [← rH]; grind
 rw [e4] at e2
 grind
def pr:Nat→(Nat→Rat)→Rat
 | 0, _ => 1
 | n + 1, f => pr n f * f n
theorem pp {n:Nat} {f g:Nat→Rat} (h : ∀ i,i<n→f i=g i):pr n f=pr n g:=by
 induction n with
 | zero => rfl
 | succ n ih => rw [pr, pr, ih (fun i hi => h i Y), h n Y]
theorem yJ (n:Nat) (f:Nat→Rat):pr (n+1) f=f 0*pr n (fun i=>f (i+1)):=by
 induction n with
 | zero => show 1 * f 0 = f 0 * 1; grind
 | succ n ih => rw [pr, ih, pr]; grind
theorem qG {n:Nat} {f:Nat→Rat} (h : ∀ i,i<n→0≤f i):0≤pr n f:=by
 induction n with
 | zero => show (0 : Rat) ≤ 1; decide
 | succ n ih => exact Rat.mul_nonneg (ih fun i hi => h i Y) (h n Y)
theorem rI : ∀ {n:Nat} {F:Nat→Nat→Rat},(∀ i j,i<j→j<n→F i j=0)→det n F=pr n (fun i=>F i i)
 | 0, _, _ => rfl
 | n + 1, F, h => by
  rw [det,ja (Nat.succ_pos n) (fun j hj hne=>by rw [h 0 j Y hj]; grind),rI (n:=n) (fun i j hij hj=>h _ _ (by unfold skip;split <;> omega) (by unfold skip;split <;> omega)),yJ]
  have:sgn 0=1:=rfl
  rw [this,Rat.one_mul]
  congr 1
end Tor.Lin
end
section
namespace Tor.Lin
variable {m:Nat} {A:Nat→Nat→Rat}
def qq (m:Nat) (A:Nat→Nat→Rat) (i:Nat):Rat:=dot m (gsB m A i) (gsB m A i)
def cf (m:Nat) (A:Nat→Nat→Rat) (i s:Nat):Rat:=if s<i then gsM m A i s else if s=i then 1 else 0
theorem kt {i s:Nat} (h:s<i):cf m A i s=gsM m A i s:=if_pos h
theorem eH {i:Nat} : cf m A i i=1:=by unfold cf;rw [if_neg (Nat.lt_irrefl i),if_pos Z]
theorem pq {i s:Nat} (h:i<s):cf m A i s=0:=by unfold cf;rw [if_neg Y,if_neg Y]
theorem Cp (u:Nat→Rat) (i:Nat):dot m u (gsB m A i)=dot m u (A i) - sm i (fun t=>gsM m A i t*dot m u (gsB m A t)) :=
 ks (v:=A i) (f:=fun t=>gsM m A i t) (b:=gsB m A) (n:=i) (fun k _=>lO m A i k)
theorem gQ (i s:Nat):dot m (A i) (gsB m A s)=cf m A i s*qq m A s:=by
 rcases Nat.lt_trichotomy s i with h | h | h
 ·rw [kt h]; exact (rH m A i s).symm
 ·subst h
  rw [eH,Rat.one_mul,eK]
  have h1:=Cp (m:=m) (A:=A) (gsB m A s) s
  rw [gw (fun t ht=>by rw [iV m A s t ht]; exact Rat.mul_zero _)] at h1
  unfold qq
  grind
 ·rw [pq h,Rat.zero_mul,eK]
  have h1:=Cp (m:=m) (A:=A) (gsB m A s) i
  rw [iV m A s i h,gw (fun t ht=>by rw [iV m A s t Y]; exact Rat.mul_zero _)] at h1
  grind
theorem rJ (a b N:Nat) (h:b<N):dot m (A a) (A b)=sm N (fun s=>cf m A b s*cf m A a s*qq m A s):=by
 rw [qE (m:=b+1) Y (fun j h1 _=>by rw [pq (show b<j by omega)]; grind),sm,eH]
 have h1:=Cp (m:=m) (A:=A) (A a) b
 rw [gQ] at h1
 have h2:sm b (fun t=>gsM m A b t*dot m (A a) (gsB m A t))=sm b (fun s=>cf m A b s*cf m A a s*qq m A s):=be fun t ht=>by rw [gQ,kt ht]; grind
 rw [h2] at h1
 grind
def DD (m:Nat) (A:Nat→Nat→Rat) (k:Nat):Rat:=pr k (qq m A)
def ww (m:Nat) (A:Nat→Nat→Rat) (i j t:Nat):Rat:=dot m (A i) (A j) - sm t (fun s=>cf m A i s*cf m A j s*qq m A s)
def uu (m:Nat) (A:Nat→Nat→Rat) (i j t:Nat):Rat:=DD m A t*ww m A i j t
theorem C3 (i t:Nat):ww m A i t t=cf m A i t*qq m A t:=by
 unfold ww
 rw [rJ i t (t+1) Y,sm,eH,be (f:=fun s=>cf m A t s*cf m A i s*qq m A s) (g:=fun s=>cf m A i s*cf m A t s*qq m A s) (fun s _=>by grind)]
 grind
theorem dx (k:Nat):DD m A (k+1)=DD m A k*qq m A k:=rfl
theorem vU (i t:Nat):uu m A i t t=DD m A (t+1)*cf m A i t:=by
 unfold uu;rw [C3,dx]; grind
theorem AI (i j t:Nat):uu m A i j (t+1)*DD m A t=DD m A (t+1)*uu m A i j t - uu m A i t t*uu m A j t t:=by
 rw [vU,vU]
 unfold uu
 have h:ww m A i j (t+1)=ww m A i j t - cf m A i t*cf m A j t*qq m A t:=by unfold ww;rw [sm]; grind
 rw [h,dx]; grind
/-! ### They are integers -/
def rr (t i a:Nat):Nat:=if a<t then a else i
theorem vV {t i a:Nat} (h:a<t):rr t i a=a:=if_pos h
theorem Bx {t i:Nat} : rr t i t=i:=if_neg (Nat.lt_irrefl t)
theorem Cq {n:Nat} {f:Nat→Rat} (h : ∀ i,i<n→f i=1):pr n f=1:=by
 induction n with
 | zero => rfl
 | succ n ih => rw [pr, ih (fun i hi => h i Y), h n Y]; grind
def PP (m:Nat) (A:Nat→Nat→Rat) (t i a s:Nat):Rat:=if s<t then cf m A (rr t i a) s else if a=t then 1 else 0
theorem yK (t i:Nat):det (t+1) (PP m A t i)=1:=by
 rw [rI (fun a s h1 h2=>by
  unfold PP
  by_cases hs:s<t
  ·rw [if_pos hs,vV (show a<t by omega),pq h1]
  ·rw [if_neg hs,if_neg Y])]
 exact Cq fun a ha=>by
  unfold PP
  by_cases hs:a<t
  ·rw [if_pos hs,vV hs,eH]
  ·rw [if_neg hs,if_pos Y]
theorem Cr (i j t:Nat):det (t+1) (fun a b=>dot m (A (rr t i a)) (A (rr t j b)))=uu m A i j t:=by
 have e:det (t+1) (fun a b=>dot m (A (rr t i a)) (A (rr t j b)))=det (t+1) (o7 (t+1) (o7 (t+1) (PP m A t i) (fun s b=>if s=b then (if s<t then qq m A s else ww m A i j t) else 0)) (fun s b=>PP m A t j b s)):=dm fun a b ha hb=>by
  show _=sm (t+1) (fun k=>sm (t+1) (fun l=>PP m A t i a l*(if l=k then (if l<t then qq m A l else ww m A i j t) else 0))*PP m A t j b k)
  rw [be (g:=fun k=>PP m A t i a k*(if k<t then qq m A k else ww m A i j t)*PP m A t j b k) (fun k hk=>by
   rw [ja hk (fun l _ hne=>by rw [if_neg hne]; exact Rat.mul_zero _),if_pos Z])]
  rw [sm,if_neg (Nat.lt_irrefl t),be (n:=t) (g:=fun s=>cf m A (rr t i a) s*cf m A (rr t j b) s*qq m A s) (fun k hk=>by
   unfold PP
   rw [if_pos hk,if_pos hk,if_pos hk]; grind)]
  unfold PP
  rw [if_neg (Nat.lt_irrefl t),if_neg (Nat.lt_irrefl t)]
  by_cases hbt:b<t
  ·rw [if_neg (show ¬ b=t by omega),vV hbt,rJ _ b t hbt,be (g:=fun s=>cf m A (rr t i a) s*cf m A b s*qq m A s) (fun s _=>by grind)]
   grind
  ·obtain rfl:b=t:=by omega
   rw [if_pos Z,Bx]
   by_cases hat:a<b
   ·rw [if_neg (show ¬ a=b by omega),vV hat,eK,rJ _ a b hat]
    grind
   ·obtain rfl:a=b:=by omega
    rw [if_pos Z,Bx]
    unfold ww
    grind
 rw [e,rp,rp,yK,Cc (t+1) rs (PP m A t j),yK,rI (fun a b h1 h2=>if_neg Y)]
 unfold uu DD
 rw [pr]
 have h1:pr t (fun i_1=>if i_1=i_1 then (if i_1<t then qq m A i_1 else ww m A i j t) else 0)=pr t (qq m A):=pp fun s hs=>by rw [if_pos Z,if_pos hs]
 rw [h1,if_pos Z,if_neg (Nat.lt_irrefl t)]
 grind
end Tor.Lin
end
section
namespace Tor.Lin
variable {m:Nat} {A:Nat→Nat→Rat}
theorem ie {u u' v v':Nat→Rat} (h : ∀ k,k<m→u k=u' k) (h2 : ∀ k,k<m→v k=v' k):dot m u v=dot m u' v':=be fun k hk=>by rw [h k hk,h2 k hk]
theorem vW {n:Nat} {A' B:Nat→Nat→Rat} (C:Nat→Nat→Rat) (ho : ∀ i j,i<n→j<i→dot m (B i) (B j)=0) (hr : ∀ i,i<n → ∀ k,k<m→A' i k=B i k+sm i (fun t=>C i t*B t k)) :
  ∀ i,i<n → ∀ k,k<m→gsB m A' i k=B i k:=by
 intro i
 induction i using Nat.strongRecOn with
 | _ i ih =>
  intro hi
  have hw : ∀ k,k<m→gsB m A' i k - B i k=0 - sm i (fun t=>(gsM m A' i t - C i t)*B t k):=fun k hk=>by
   rw [lO,hr i hi k hk,be (f:=fun t=>gsM m A' i t*gsB m A' t k) (g:=fun t=>gsM m A' i t*B t k) (fun t ht=>by rw [ih t ht Y k hk])]
   have:=kq i (fun t=>gsM m A' i t*B t k) (fun t=>C i t*B t k)
   rw [be (f:=fun t=>(gsM m A' i t - C i t)*B t k) (g:=fun t=>gsM m A' i t*B t k - C i t*B t k) (fun t _=>by grind),this]
   grind
  have hs : ∀ s,s<i→dot m (fun k=>gsB m A' i k - B i k) (B s)=0:=fun s hs=>by
   have h1:dot m (gsB m A' i) (B s)=0:=by
    rw [ie (u':=gsB m A' i) (v':=gsB m A' s) (fun _ _=>rfl) (fun k hk=>(ih s hs Y k hk).symm)]
    exact iV m A' i s hs
   have h2:=ho i s hi hs
   have h3:dot m (fun k=>gsB m A' i k - B i k) (B s)=dot m (gsB m A' i) (B s) - dot m (B i) (B s):=by
    unfold dot
    rw [← kq]; exact be fun k _=>by grind
   rw [h3,h1,h2]; grind
  have h0:dot m (fun k=>gsB m A' i k - B i k) (fun k=>gsB m A' i k - B i k)=0:=by
   rw [ks (v:=fun _=>0) (f:=fun t=>gsM m A' i t - C i t) (b:=B) (n:=i) hw,gw (fun t ht=>by rw [hs t ht]; exact Rat.mul_zero _)]
   have:dot m (fun k=>gsB m A' i k - B i k) (fun _=>0)=0:=gw fun k _=>Rat.mul_zero _
   rw [this]; grind
  intro k hk
  have:=po h0 k hk
  grind
theorem pt (i N k:Nat) (h:i<N):A i k=sm N (fun t=>cf m A i t*gsB m A t k):=by
 rw [qE (m:=i+1) Y (fun j h1 _=>by rw [pq (show i<j by omega),Rat.zero_mul]),sm,eH,be (n:=i) (g:=fun t=>gsM m A i t*gsB m A t k) (fun t ht=>by rw [kt ht])]
 have:=Co m A i k
 grind
theorem rK {n:Nat} {A' B:Nat→Nat→Rat} (h : ∀ i,i<n → ∀ k,k<m→gsB m A' i k=B i k) {i s:Nat} (hs:s<n):qq m A' s=dot m (B s) (B s)∧cf m A' i s*dot m (B s) (B s)=dot m (A' i) (B s):=by
 have e:qq m A' s=dot m (B s) (B s):=ie (h s hs) (h s hs)
 refine ⟨e,?_⟩
 rw [← e, ← gQ]
 exact ie (fun _ _=>rfl) (h s hs)
/-! ### A multiple of a row is taken off another -/
def sbR (k j:Nat) (c:Rat) (A:Nat→Nat→Rat):Nat→Nat→Rat:=fun a b=>if a=k then A a b - c*A j b else A a b
theorem By (n k j:Nat) (c:Rat) (hj:j<k) : ∀ i,i<n → ∀ q,q<m→gsB m (sbR k j c A) i q=gsB m A i q :=
 vW (fun i t=>if i=k then cf m A k t - c*cf m A j t else cf m A i t) (fun i s _ hs=>iV m A i s hs) fun i hi q hq=>by
  unfold sbR
  have e1:=pt (m:=m) (A:=A) i (i+1) q Y
  rw [sm,eH] at e1
  by_cases h:i=k
  ·subst h
   rw [if_pos Z]
   have e2:=pt (m:=m) (A:=A) j i q hj
   rw [be (g:=fun t=>cf m A i t*gsB m A t q - c*(cf m A j t*gsB m A t q)) (fun t _=>by rw [if_pos Z]; grind),kq,kN, ← e2]
   grind
  ·rw [if_neg h,be (g:=fun t=>cf m A i t*gsB m A t q) (fun t _=>by rw [if_neg h])]
   grind
theorem yL (k j:Nat) (c:Rat) (hj:j<k) (s:Nat):qq m (sbR k j c A) s=qq m A s:=(rK (i:=0) (By (s+1) k j c hj) (Nat.lt_succ_self s)).1
theorem AJ {u v w:Nat→Rat} (c:Rat):dot m (fun b=>u b - c*v b) w=dot m u w - c*dot m v w:=by
 unfold dot
 rw [← kN, ← kq]; exact be fun k _=>by grind
theorem vX (k j:Nat) (c:Rat) (hj:j<k) {i s:Nat} (h0:qq m A s≠0):cf m (sbR k j c A) i s=if i=k then cf m A k s - c*cf m A j s else cf m A i s:=by
 have h:=(rK (m:=m) (A':=sbR k j c A) (B:=gsB m A) (i:=i) (By (s+1) k j c hj) (Nat.lt_succ_self s)).2
 have h0':dot m (gsB m A s) (gsB m A s)≠0:=h0
 by_cases hi:i=k
 ·subst hi
  rw [if_pos Z]
  have e:dot m (sbR i j c A i) (gsB m A s)=dot m (A i) (gsB m A s) - c*dot m (A j) (gsB m A s):=by
   rw [← AJ]; exact ie (fun q _=>by unfold sbR;rw [if_pos Z]) (fun _ _=>rfl)
  rw [e,gQ,gQ] at h
  unfold qq at h
  grind
 ·rw [if_neg hi]
  have e:dot m (sbR k j c A i) (gsB m A s)=dot m (A i) (gsB m A s):=ie (fun q _=>by unfold sbR;rw [if_neg hi]) (fun _ _=>rfl)
  rw [e,gQ] at h
  unfold qq at h
  grind
end Tor.Lin
end
section
namespace Tor.Lin
variable {m:Nat} {A:Nat→Nat→Rat}
theorem jQ (a b:Rat) (u v w:Nat→Rat):dot m (fun q=>a*u q+b*v q) w=a*dot m u w+b*dot m v w:=by
 unfold dot
 rw [← kN, ← kN, ← yp]; exact be fun k _=>by grind
theorem eL (a b:Rat) (u v w:Nat→Rat):dot m w (fun q=>a*u q+b*v q)=a*dot m w u+b*dot m w v:=by
 rw [eK,jQ,eK m w u,eK m w v]
theorem iG {i j:Nat} (h:i≠j):dot m (gsB m A i) (gsB m A j)=0:=by
 rcases Nat.lt_or_gt_of_ne h with h | h
 ·rw [eK]; exact iV m A j i h
 ·exact iV m A i j h
def exR (p:Nat) (A:Nat→Nat→Rat):Nat→Nat→Rat:=fun a=>if a=p then A (p+1) else if a=p+1 then A p else A a
def exQ (m:Nat) (A:Nat→Nat→Rat) (p:Nat):Rat:=qq m A (p+1)+cf m A (p+1) p*cf m A (p+1) p*qq m A p
def exN (m:Nat) (A:Nat→Nat→Rat) (p:Nat):Rat:=cf m A (p+1) p*qq m A p / exQ m A p
def exB (m:Nat) (A:Nat→Nat→Rat) (p i:Nat):Nat→Rat :=
 if i=p then (fun q=>1*gsB m A (p+1) q+cf m A (p+1) p*gsB m A p q)
 else if i=p+1 then (fun q=>(-exN m A p)*gsB m A (p+1) q+(1 - exN m A p*cf m A (p+1) p)*gsB m A p q) else gsB m A i
theorem nM {p:Nat} : exB m A p p=fun q=>1*gsB m A (p+1) q+cf m A (p+1) p*gsB m A p q:=if_pos Z
theorem qH {p:Nat} : exB m A p (p+1)=fun q=>(-exN m A p)*gsB m A (p+1) q+(1 - exN m A p*cf m A (p+1) p)*gsB m A p q:=by unfold exB;rw [if_neg Y,if_pos Z]
theorem ku {p i:Nat} (h:i≠p) (h2:i≠p+1):exB m A p i=gsB m A i:=by unfold exB;rw [if_neg h,if_neg h2]
theorem lQ (i:Nat):dot m (gsB m A i) (gsB m A i)=qq m A i:=rfl
theorem rL {p:Nat} (h:exQ m A p≠0):exN m A p*exQ m A p=cf m A (p+1) p*qq m A p:=Rat.div_mul_cancel h
theorem AK {p:Nat} (h:exQ m A p≠0) : ∀ i j,j<i→dot m (exB m A p i) (exB m A p j)=0:=by
 have hN:=rL h
 unfold exQ at hN
 have h1:=iG (m:=m) (A:=A) (show p≠p+1 by omega)
 have h2:=iG (m:=m) (A:=A) (show p+1≠p by omega)
 intro i j hj
 by_cases hip:i=p
 ·subst hip
  rw [nM,ku Y Y,jQ,iG Y,iG Y]; grind
 ·by_cases hik:i=p+1
  ·subst hik
   rw [qH]
   by_cases hjp:j=p
   ·subst hjp
    rw [nM,jQ,eL,eL,h1,h2,lQ,lQ]
    grind
   ·rw [ku hjp Y,jQ,iG Y,iG Y]; grind
  ·rw [ku hip hik]
   by_cases hjp:j=p
   ·subst hjp
    rw [nM,eL,iG Y,iG Y]; grind
   ·by_cases hjk:j=p+1
    ·subst hjk
     rw [qH,eL,iG Y,iG Y]; grind
    ·rw [ku hjp hjk,iG Y]
def exC (m:Nat) (A:Nat→Nat→Rat) (p i t:Nat):Rat :=
 if i=p then cf m A (p+1) t else if i=p+1 then (if t=p then exN m A p else cf m A p t)
 else if t=p then (if i<p then cf m A i t else cf m A i (p+1)*(1 - cf m A (p+1) p*exN m A p)+cf m A i p*exN m A p) else if t=p+1 then (if i<p then cf m A i t else cf m A i p - cf m A (p+1) p*cf m A i (p+1)) else cf m A i t
theorem AL (p:Nat) : ∀ i q,exR p A i q=exB m A p i q+sm i (fun t=>exC m A p i t*exB m A p t q):=by
 intro i q
 by_cases hip:i=p
 ·subst hip
  have e:=pt (m:=m) (A:=A) (i+1) (i+1+1) q Y
  rw [sm,sm,eH] at e
  unfold exR
  rw [if_pos Z,nM,be (g:=fun t=>cf m A (i+1) t*gsB m A t q) (fun t ht=>by
   rw [ku Y Y]; unfold exC;rw [if_pos Z])]
  grind
 ·by_cases hik:i=p+1
  ·subst hik
   have e:=pt (m:=m) (A:=A) p (p+1) q Y
   rw [sm,eH] at e
   unfold exR
   rw [if_neg Y,if_pos Z,qH,sm,nM,be (n:=p) (g:=fun t=>cf m A p t*gsB m A t q) (fun t ht=>by
    rw [ku Y Y]; unfold exC;rw [if_neg Y,if_pos Z,if_neg Y])]
   have:exC m A p (p+1) p=exN m A p:=by unfold exC;rw [if_neg Y,if_pos Z,if_pos Z]
   rw [this]
   grind
  ·have e:=pt (m:=m) (A:=A) i (i+1) q Y
   rw [sm,eH] at e
   unfold exR
   rw [if_neg hip,if_neg hik,ku hip hik]
   by_cases hlt:i<p
   ·rw [be (n:=i) (g:=fun t=>cf m A i t*gsB m A t q) (fun t ht=>by
     rw [ku Y Y]; unfold exC;rw [if_neg hip,if_neg hik,if_neg Y,if_neg Y])]
    grind
   ·have d:sm i (fun t=>exC m A p i t*exB m A p t q - cf m A i t*gsB m A t q)=0:=by
     rw [yl (p:=p) (q:=p+1) Y Y (fun t ht h1 h2=>by
      rw [ku h1 h2]; unfold exC;rw [if_neg hip,if_neg hik,if_neg h1,if_neg h2]; grind)]
     have c1:exC m A p i p=cf m A i (p+1)*(1 - cf m A (p+1) p*exN m A p)+cf m A i p*exN m A p:=by unfold exC;rw [if_neg hip,if_neg hik,if_pos Z,if_neg hlt]
     have c2:exC m A p i (p+1)=cf m A i p - cf m A (p+1) p*cf m A i (p+1):=by unfold exC;rw [if_neg hip,if_neg hik,if_neg Y,if_pos Z,if_neg hlt]
     rw [c1,c2,nM,qH]
     grind
    rw [kq] at d
    grind
theorem C4 {p:Nat} (h:exQ m A p≠0) (n:Nat) : ∀ i,i<n → ∀ q,q<m→gsB m (exR p A) i q=exB m A p i q :=
 vW (exC m A p) (fun i j _ hj=>AK h i j hj) (fun i _ q _=>AL p i q)
theorem iW {p:Nat} (h:exQ m A p≠0) (i s:Nat):qq m (exR p A) s=dot m (exB m A p s) (exB m A p s)∧cf m (exR p A) i s*dot m (exB m A p s) (exB m A p s)=dot m (exR p A i) (exB m A p s) :=
 rK (C4 h (s+1)) (Nat.lt_succ_self s)
def exI (p i:Nat):Nat:=if i=p then p+1 else if i=p+1 then p else i
theorem vY (p i:Nat):exR p A i=A (exI p i):=by unfold exR exI;split;rfl;split <;> rfl
theorem rM {p s:Nat} (h:exQ m A p≠0) (h1:s≠p) (h2:s≠p+1):qq m (exR p A) s=qq m A s:=by
 rw [(iW h 0 s).1,ku h1 h2]; rfl
theorem rN {p:Nat} (h:exQ m A p≠0):qq m (exR p A) p=exQ m A p:=by
 rw [(iW h 0 p).1,nM,jQ,eL,eL,iG (show p≠p+1 by omega),iG (show p+1≠p by omega),lQ,lQ]
 unfold exQ;grind
theorem ob {p:Nat} (h:exQ m A p≠0):qq m (exR p A) (p+1)*exQ m A p=qq m A p*qq m A (p+1):=by
 have hN:=rL h
 rw [(iW h 0 (p+1)).1,qH,jQ,eL,eL,iG (show p≠p+1 by omega),iG (show p+1≠p by omega),lQ,lQ]
 unfold exQ at hN ⊢
 grind
theorem AM {p i s:Nat} (h:exQ m A p≠0) (h1:s≠p) (h2:s≠p+1) (h0:qq m A s≠0):cf m (exR p A) i s=cf m A (exI p i) s:=by
 have h3:=(iW (m:=m) (A:=A) h i s).2
 rw [ku h1 h2,vY,gQ,lQ] at h3
 grind
theorem vZ {p i:Nat} (h:exQ m A p≠0):cf m (exR p A) i p*exQ m A p=cf m A (exI p i) (p+1)*qq m A (p+1)+cf m A (p+1) p*(cf m A (exI p i) p*qq m A p):=by
 have h3:=(iW (m:=m) (A:=A) h i p).2
 rw [← (iW h i p).1,rN h,nM,vY,eL,gQ,gQ] at h3
 grind
theorem v5 {p i:Nat} (h:exQ m A p≠0):cf m (exR p A) i (p+1)*qq m (exR p A) (p+1)=(-exN m A p)*(cf m A (exI p i) (p+1)*qq m A (p+1))+(1 - exN m A p*cf m A (p+1) p)*(cf m A (exI p i) p*qq m A p):=by
 have h3:=(iW (m:=m) (A:=A) h i (p+1)).2
 rw [← (iW h i (p+1)).1,qH,vY,eL,gQ,gQ] at h3
 exact h3
end Tor.Lin
end
section
namespace Tor.Lin
variable {m:Nat} {F:Nat→Nat→Int}
def cO (m:Nat) (u v:Nat→Int):Int:=smZ m (fun k=>u k*v k)
def qF (F:Nat→Nat→Int):Nat→Nat→Rat:=fun i j=>(F i j:Rat)
theorem fu (m:Nat) (F:Nat→Nat→Int) (i j:Nat):((cO m (F i) (F j):Int):Rat)=dot m (qF F i) (qF F j):=by
 unfold cO dot
 rw [o8]; exact be fun k _=>Rat.intCast_mul _ _
def uZ (m:Nat) (F:Nat→Nat→Int) (i j t:Nat):Int:=rq (t+1) (fun a b=>cO m (F (rr t i a)) (F (rr t j b)))
theorem jR (i j t:Nat):((uZ m F i j t:Int):Rat)=uu m (qF F) i j t:=by
 unfold uZ
 rw [qv, ← Cr]; exact dm fun a b _ _=>fu _ _ _ _
def dZ (m:Nat) (F:Nat→Nat→Int):Nat→Int
 | 0 => 1
 | k + 1 => uZ m F k k k
theorem cp : ∀ k,((dZ m F k:Int):Rat)=DD m (qF F) k
 | 0 => rfl
 | k + 1 => by show ((uZ m F k k k : Int) : Rat) = _; rw [jR, vU, eH, Rat.mul_one]
def lZ (m:Nat) (F:Nat→Nat→Int) (i j:Nat):Int:=uZ m F i j j
theorem cU (i j:Nat):((lZ m F i j:Int):Rat)=DD m (qF F) (j+1)*cf m (qF F) i j:=by unfold lZ;rw [jR,vU]
theorem rO (i j:Nat):uZ m F i j 0=cO m (F i) (F j):=by
 refine Rat.intCast_inj.1 ?_
 rw [jR,fu]
 unfold uu ww DD
 rw [pr,sm]; grind
theorem AN (i j t:Nat):uZ m F i j (t+1)*dZ m F t=dZ m F (t+1)*uZ m F i j t - lZ m F i t*lZ m F j t:=by
 refine Rat.intCast_inj.1 ?_
 rw [Rat.intCast_sub,Rat.intCast_mul,Rat.intCast_mul,Rat.intCast_mul]
 unfold lZ
 rw [jR,jR,jR,jR,cp,cp,AI]
theorem yM {i j t:Nat} (h:dZ m F t≠0):(dZ m F (t+1)*uZ m F i j t - lZ m F i t*lZ m F j t) / dZ m F t=uZ m F i j (t+1):=by
 rw [← AN]; exact Int.mul_ediv_cancel _ h
theorem cV {A:Nat→Nat→Rat} (i:Nat):0≤qq m A i:=mE _ _
theorem ig (k:Nat):0≤dZ m F k:=by
 have h:(0:Rat)≤((dZ m F k:Int):Rat):=by rw [cp]; exact qG fun i _=>cV i
 exact_mod_cast h
theorem v6 {x:Int} (h:x≠0):(x:Rat)≠0:=fun e=>h (by exact_mod_cast e)
theorem AO {x:Int} (h:(x:Rat)≠0):x≠0:=fun e=>h (by rw [e]; rfl)
theorem cx {n:Nat} (h:dZ m F n≠0) : ∀ {k},k≤n→dZ m F k≠0:=by
  induction n with
  | zero => intro k hk; obtain rfl : k = 0 := by omega
            exact h
  | succ n ih =>
    intro k hk
    rcases Nat.lt_or_eq_of_le hk with h1 | h1
    · refine ih (fun e=>h (Rat.intCast_inj.1 ?_)) Y
      rw [cp,dx, ← cp,e]; show (0:Rat)*_=0;exact Rat.zero_mul _
    · rw [h1]; exact h
theorem jS {k:Nat} (h:dZ m F k≠0):0<dZ m F k:=by have:=ig (m:=m) (F:=F) k;omega
theorem jq {k:Nat} (h:dZ m F (k+1)≠0):qq m (qF F) k≠0:=fun e=>h (Rat.intCast_inj.1 (by rw [cp,dx,e,Rat.mul_zero]; rfl))
theorem yN {k:Nat} (h:dZ m F k≠0):DD m (qF F) k≠0:=by rw [← cp]; exact v6 h
/-! ### A multiple of a row is taken off another -/
def shZ (k j:Nat) (c:Int) (F:Nat→Nat→Int):Nat→Nat→Int:=fun a b=>if a=k then F a b - c*F j b else F a b
theorem pu (k j:Nat) (c:Int):qF (shZ k j c F)=sbR k j (c:Rat) (qF F):=by
 funext a b
 unfold qF shZ sbR
 split
 ·rw [Rat.intCast_sub,Rat.intCast_mul]
 ·rfl
theorem tw {k j:Nat} {c:Int} (hj:j<k) (s:Nat):DD m (qF (shZ k j c F)) s=DD m (qF F) s:=by
 unfold DD;rw [pu]; exact pp fun i _=>yL k j c hj i
theorem v7 {k j:Nat} {c:Int} (hj:j<k) (s:Nat):dZ m (shZ k j c F) s=dZ m F s:=Rat.intCast_inj.1 (by rw [cp,cp,tw hj])
theorem rP {k j i s:Nat} {c:Int} (hj:j<k) (hi:i≠k) (h:dZ m F (s+1)≠0):lZ m (shZ k j c F) i s=lZ m F i s:=Rat.intCast_inj.1 (by
 rw [cU,cU,tw hj,pu,vX k j c hj (jq h),if_neg hi])
theorem pv {k j s:Nat} {c:Int} (hj:j<k) (hs:s<j) (h:dZ m F (s+1)≠0):lZ m (shZ k j c F) k s=lZ m F k s - c*lZ m F j s:=Rat.intCast_inj.1 (by
 rw [Rat.intCast_sub,Rat.intCast_mul,cU,cU,cU,tw hj,pu,vX k j c hj (jq h),if_pos Z]; grind)
theorem mG {k j:Nat} {c:Int} (hj:j<k) (h:dZ m F (j+1)≠0):lZ m (shZ k j c F) k j=lZ m F k j - c*dZ m F (j+1):=Rat.intCast_inj.1 (by
 rw [Rat.intCast_sub,Rat.intCast_mul,cU,cU,cp,tw hj,pu,vX k j c hj (jq h),if_pos Z,eH]; grind)
theorem mH {k j s:Nat} {c:Int} (hj:j<k) (hs:j<s) (h:dZ m F (s+1)≠0):lZ m (shZ k j c F) k s=lZ m F k s:=Rat.intCast_inj.1 (by
 rw [cU,cU,tw hj,pu,vX k j c hj (jq h),if_pos Z,pq hs]; grind)
/-! ### Two neighbours are exchanged -/
def exZ (p:Nat) (F:Nat→Nat→Int):Nat→Nat→Int:=fun a=>if a=p then F (p+1) else if a=p+1 then F p else F a
theorem ll (p:Nat):qF (exZ p F)=exR p (qF F):=by
 funext a b
 unfold qF exZ exR
 split
 ·rfl
 ·split <;> rfl
theorem Cs (D a b u x y c:Rat) (h:c*(b+u*u*a)=y*b+u*(x*a)):D*(b+u*u*a)*c*(D*a*b)=D*(b+u*u*a)*(D*a*b*y)+D*a*u*(D*a*b*(x - u*y)):=by
 have e:D*(b+u*u*a)*c*(D*a*b)=D*(c*(b+u*u*a))*(D*a*b):=by grind
 rw [e,h]; grind
section
variable {p:Nat} (DS:dZ m F (p+2)≠0)
include DS
theorem v8:0<exQ m (qF F) p:=by
 have h1:=jq (show dZ m F (p+1+1)≠0 from DS)
 have h2:=cV (m:=m) (A:=qF F) (p+1)
 have h3:=cV (m:=m) (A:=qF F) p
 have h4:0≤cf m (qF F) (p+1) p*cf m (qF F) (p+1) p*qq m (qF F) p:=Rat.mul_nonneg (kT _) h3
 unfold exQ
 grind
theorem eW:exQ m (qF F) p≠0:=by have:=v8 DS;grind
theorem tx {j:Nat} (hj:j≤p):DD m (qF (exZ p F)) j=DD m (qF F) j:=by
 unfold DD;rw [ll]; exact pp fun i hi=>rM (eW DS) Y Y
theorem mJ:DD m (qF (exZ p F)) (p+1)=DD m (qF F) p*exQ m (qF F) p:=by rw [dx,tx DS (Nat.le_refl p),ll,rN (eW DS)]
theorem yO (d:Nat):DD m (qF (exZ p F)) (p+2+d)=DD m (qF F) (p+2+d):=by
 induction d with
 | zero =>
  have h:=ob (eW DS)
  show DD m (qF (exZ p F)) (p+1+1)=DD m (qF F) (p+1+1)
  rw [dx,mJ DS,dx,dx,ll]
  grind
 | succ d ih =>
  show DD m (qF (exZ p F)) (p+2+d+1)=DD m (qF F) (p+2+d+1)
  rw [dx,dx,ih,ll,rM (eW DS) Y Y]
theorem oc {j:Nat} (hj:j≠p+1):DD m (qF (exZ p F)) j=DD m (qF F) j:=by
 rcases Nat.lt_or_ge p j with h | h
 ·obtain ⟨d,rfl⟩ : ∃ d,j=p+2+d:=⟨j - (p+2),by omega⟩
  exact yO DS d
 ·exact tx DS h
theorem od {j:Nat} (hj:j≠p+1):dZ m (exZ p F) j=dZ m F j:=Rat.intCast_inj.1 (by rw [cp,cp,oc DS hj])
theorem v9:dZ m (exZ p F) (p+1)*dZ m F (p+1)=dZ m F p*dZ m F (p+2)+lZ m F (p+1) p*lZ m F (p+1) p:=Rat.intCast_inj.1 (by
 rw [Rat.intCast_add,Rat.intCast_mul,Rat.intCast_mul,Rat.intCast_mul,cp,cp,cp,cp,cU,mJ DS,show DD m (qF F) (p+2)=DD m (qF F) p*qq m (qF F) p*qq m (qF F) (p+1) from rfl,dx]
 unfold exQ
 grind)
theorem rQ {i s:Nat} (h1:s≠p) (h2:s≠p+1) (h:dZ m F (s+1)≠0):lZ m (exZ p F) i s=lZ m F (exI p i) s:=Rat.intCast_inj.1 (by
 rw [cU,cU,oc DS Y,ll,AM (eW DS) h1 h2 (jq h)])
theorem yP:lZ m (exZ p F) (p+1) p=lZ m F (p+1) p:=Rat.intCast_inj.1 (by
 have h:=vZ (i:=p+1) (eW DS)
 have e:exI p (p+1)=p:=by unfold exI;rw [if_neg Y,if_pos Z]
 rw [e,pq (show p<p+1 by omega),eH] at h
 rw [cU,cU,mJ DS,ll,dx]
 grind)
theorem wa {i:Nat} (hi:p+1<i):lZ m (exZ p F) i (p+1)*dZ m F (p+1)=dZ m F (p+2)*lZ m F i p - lZ m F (p+1) p*lZ m F i (p+1):=Rat.intCast_inj.1 (by
 have h:=v5 (i:=i) (eW DS)
 have h2:=ob (eW DS)
 have hN:=rL (eW DS)
 have hQ:=eW DS
 have h3:=jq (show dZ m F (p+1+1)≠0 from DS)
 have h4:=jq (cx DS (show p+1≤p+2 by omega))
 have e:exI p i=i:=by unfold exI;rw [if_neg Y,if_neg Y]
 rw [e] at h
 rw [Rat.intCast_sub,Rat.intCast_mul,Rat.intCast_mul,Rat.intCast_mul,cU,cU,cU,cU,cp,cp,oc DS (show p+1+1≠p+1 by omega),ll,show DD m (qF F) (p+2)=DD m (qF F) (p+1+1) from rfl]
 have key:cf m (exR p (qF F)) i (p+1)=cf m (qF F) i p - cf m (qF F) (p+1) p*cf m (qF F) i (p+1):=by
  unfold exQ at hN h2 hQ
  have h5:(qq m (qF F) p*qq m (qF F) (p+1))*(cf m (exR p (qF F)) i (p+1) - (cf m (qF F) i p - cf m (qF F) (p+1) p*cf m (qF F) i (p+1)))=0:=by grind
  grind
 rw [key]; grind)
theorem wb {i:Nat} (hi:p+1<i):lZ m (exZ p F) i p*dZ m F (p+2)=dZ m (exZ p F) (p+1)*lZ m F i (p+1)+lZ m F (p+1) p*lZ m (exZ p F) i (p+1):=Rat.intCast_inj.1 (by
 have h:=v5 (i:=i) (eW DS)
 have hp:=vZ (i:=i) (eW DS)
 have h2:=ob (eW DS)
 have hN:=rL (eW DS)
 have hQ:=eW DS
 have h3:=jq (show dZ m F (p+1+1)≠0 from DS)
 have h4:=jq (cx DS (show p+1≤p+2 by omega))
 have e:exI p i=i:=by unfold exI;rw [if_neg Y,if_neg Y]
 rw [e] at h hp
 rw [Rat.intCast_add,Rat.intCast_mul,Rat.intCast_mul,Rat.intCast_mul,cU,cU,cU,cU,cp,cp,oc DS (show p+1+1≠p+1 by omega),mJ DS,ll,show DD m (qF F) (p+2)=DD m (qF F) (p+1+1) from rfl]
 have key:cf m (exR p (qF F)) i (p+1)=cf m (qF F) i p - cf m (qF F) (p+1) p*cf m (qF F) i (p+1):=by
  unfold exQ at hN h2 hQ
  have h5:(qq m (qF F) p*qq m (qF F) (p+1))*(cf m (exR p (qF F)) i (p+1) - (cf m (qF F) i p - cf m (qF F) (p+1) p*cf m (qF F) i (p+1)))=0:=by grind
  grind
 rw [key,dx (p+1),dx p]
 unfold exQ at hp ⊢
 exact Cs _ _ _ _ _ _ _ hp)
end
end Tor.Lin
end
section
namespace Tor.Lin
variable {m:Nat} {F:Nat→Nat→Int}
theorem mK {A:Nat→Nat→Rat} (i:Nat):dot m (A i) (A i)=qq m A i+sm i (fun t=>cf m A i t*cf m A i t*qq m A t):=by
 rw [AH,be (f:=fun t=>gsM m A i t*gsM m A i t*dot m (gsB m A t) (gsB m A t)) (g:=fun t=>cf m A i t*cf m A i t*qq m A t) (fun t ht=>by rw [kt ht]; rfl)]
 rfl
theorem C5 {n:Nat} {f g:Nat→Rat} (h : ∀ i,i<n→f i≤g i):sm n f≤sm n g:=by
 induction n with
 | zero => exact Rat.le_refl
 | succ n ih =>
  have h1:=ih fun i hi=>h i Y
  have h2:=h n Y
  rw [sm,sm]; grind
theorem AP {n i:Nat} {f:Nat→Rat} (h : ∀ t,t<n→0≤f t) (hi:i<n):f i≤sm n f:=by
 induction n with
 | zero => omega
 | succ n ih =>
  rw [sm]
  have h0:=h n Y
  rcases Nat.lt_or_eq_of_le (Nat.lt_succ_iff.1 hi) with h1 | h1
  ·have:=ih (fun t ht=>h t Y) h1;grind
  ·subst h1
   have:0≤sm i f:=kU fun t ht=>h t Y
   grind
theorem sqq {x q:Rat} (h:0≤q):0≤x*x*q:=Rat.mul_nonneg (kT _) h
theorem AQ {A:Nat→Nat→Rat} {i t:Nat} (h:t<i):cf m A i t*cf m A i t*qq m A t≤dot m (A i) (A i):=by
 rw [mK]
 have h1:=AP (f:=fun t=>cf m A i t*cf m A i t*qq m A t) (fun t _=>sqq (cV t)) h
 have h2:=cV (m:=m) (A:=A) i
 grind
theorem AR {A:Nat→Nat→Rat} (i:Nat):qq m A i≤dot m (A i) (A i):=by
 rw [mK]
 have h1:0≤sm i (fun t=>cf m A i t*cf m A i t*qq m A t):=kU fun t _=>sqq (cV t)
 grind
theorem yQ {A:Nat→Nat→Rat} {i:Nat} {Q:Rat} (hi:i≤3) (h : ∀ t,t<i→4*(cf m A i t*cf m A i t)≤1) (hq : ∀ t,t≤i→2*qq m A t≤Q):dot m (A i) (A i)≤Q:=by
 rw [mK]
 have hQ:0≤Q:=by have:=hq i (Nat.le_refl _);have:=cV (m:=m) (A:=A) i;grind
 have h1:sm i (fun t=>cf m A i t*cf m A i t*qq m A t)≤sm i (fun _=>Q / 8):=C5 fun t ht=>by
  have a:=h t ht
  have b:=hq t Y
  have c:=cV (m:=m) (A:=A) t
  have d:0≤(1 - 4*(cf m A i t*cf m A i t))*qq m A t:=Rat.mul_nonneg (by grind) c
  grind
 have h2:sm i (fun _=>Q / 8)≤3*(Q / 8):=by
  have hQ8:0≤Q / 8:=by grind
  rcases (show i=0∨i=1∨i=2∨i=3 by omega) with rfl | rfl | rfl | rfl <;> simp only [sm] <;> grind
 have h3:=hq i (Nat.le_refl _)
 grind
theorem ii {A:Nat→Nat→Rat} (k:Nat):0≤DD m A k:=qG fun i _=>cV i
theorem tz {n N:Nat} (h : ∀ s,s<n→qq m (qF F) s≤(N:Rat)) : ∀ {k},k≤n→dZ m F k≤((N^k:Nat):Int)
 | 0, _ => by rw [Nat.pow_zero]; exact Int.le_refl 1
 | k + 1, hk => by
  have ih:=tz h (k:=k) Y
  have h0:=ig (m:=m) (F:=F) k
  have h1:((dZ m F (k+1):Int):Rat)≤((dZ m F k*(N:Int):Int):Rat):=by
   rw [Rat.intCast_mul,cp,cp,dx]
   exact Rat.mul_le_mul_of_nonneg_left (h k Y) (ii k)
  have h2:dZ m F (k+1)≤dZ m F k*(N:Int):=by exact_mod_cast h1
  refine Int.le_trans h2 ?_
  rw [Nat.pow_succ,Int.natCast_mul]
  exact Int.mul_le_mul_of_nonneg_right ih (Int.natCast_nonneg N)
theorem xf {x:Int} {B:Nat} (h:x*x≤(B:Int)*B):x.natAbs≤B:=by
 rw [← Int.natAbs_mul_self] at h
 have h2:x.natAbs*x.natAbs≤B*B:=by exact_mod_cast h
 exact Nat.mul_self_le_mul_self_iff.1 h2
theorem C6 {n N i j:Nat} (hq : ∀ s,s<n→qq m (qF F) s≤(N:Rat)) (hn:dot m (qF F i) (qF F i)≤(N:Rat)) (hj:j<i) (hjn:j<n):(lZ m F i j).natAbs≤N^(j+1):=by
 refine xf ?_
 have h1:((lZ m F i j*lZ m F i j:Int):Rat)≤((dZ m F (j+1)*dZ m F j*(N:Int):Int):Rat):=by
  rw [Rat.intCast_mul,Rat.intCast_mul,Rat.intCast_mul,cU,cp,cp]
  have e:DD m (qF F) (j+1)*cf m (qF F) i j*(DD m (qF F) (j+1)*cf m (qF F) i j)=DD m (qF F) (j+1)*DD m (qF F) j*(cf m (qF F) i j*cf m (qF F) i j*qq m (qF F) j):=by rw [dx]; grind
  rw [e]
  exact Rat.mul_le_mul_of_nonneg_left (Rat.le_trans (AQ hj) hn) (Rat.mul_nonneg (ii _) (ii _))
 have h2:lZ m F i j*lZ m F i j≤dZ m F (j+1)*dZ m F j*(N:Int):=by exact_mod_cast h1
 refine Int.le_trans h2 ?_
 have d1:=tz hq (k:=j+1) Y
 have d2:=tz hq (k:=j) Y
 have p1:=ig (m:=m) (F:=F) j
 have p2:=ig (m:=m) (F:=F) (j+1)
 have h3:dZ m F (j+1)*dZ m F j≤((N^(j+1):Nat):Int)*((N^j:Nat):Int):=Int.mul_le_mul d1 d2 p1 (Int.natCast_nonneg _)
 refine Int.le_trans (Int.mul_le_mul_of_nonneg_right h3 (Int.natCast_nonneg N)) ?_
 rw [Int.mul_assoc, ← Int.natCast_mul (N^j) N, ← Nat.pow_succ]
 exact Int.le_refl _
end Tor.Lin
end
section
namespace Tor.Lin
variable {m:Nat} {F:Nat→Nat→Int}
def ec (m:Nat) (F:Nat→Nat→Int) (p:Nat):Prop:=3*(dZ m F (p+1)*dZ m F (p+1))≤4*(dZ m F (p+2)*dZ m F p+lZ m F (p+1) p*lZ m F (p+1) p)
instance {m:Nat} {F:Nat→Nat→Int} {p:Nat} : Decidable (ec m F p):=by unfold ec;infer_instance
def dK (m:Nat) (F:Nat→Nat→Int) (i j:Nat):Prop:=2*((lZ m F i j).natAbs:Int)≤dZ m F (j+1)
instance {m:Nat} {F:Nat→Nat→Int} {i j:Nat} : Decidable (dK m F i j):=by unfold dK;infer_instance
theorem AS (D a b u:Rat):D*a*b*D+D*a*u*(D*a*u)=D*D*a*(b+u*u*a)∧D*a*(D*a)=D*D*a*a:=⟨by grind,by grind⟩
theorem tA {p:Nat} (DS:dZ m F (p+1)≠0):ec m F p↔3*qq m (qF F) p≤4*exQ m (qF F) p:=by
 have hD:0<DD m (qF F) p:=by
  have h1:=ii (m:=m) (A:=qF F) p
  have h2:=yN (cx DS (show p≤p+1 by omega))
  grind
 have hq:0<qq m (qF F) p:=by
  have h1:=cV (m:=m) (A:=qF F) p
  have h2:=jq DS
  grind
 have hE:0<DD m (qF F) p*DD m (qF F) p*qq m (qF F) p:=Rat.mul_pos (Rat.mul_pos hD hD) hq
 have hc:ec m F p↔((3*(dZ m F (p+1)*dZ m F (p+1)):Int):Rat)≤((4*(dZ m F (p+2)*dZ m F p+lZ m F (p+1) p*lZ m F (p+1) p):Int):Rat):=by
  unfold ec
  exact (Rat.intCast_le_intCast).symm
 rw [hc,Rat.intCast_mul,Rat.intCast_mul,Rat.intCast_mul,Rat.intCast_add,Rat.intCast_mul,Rat.intCast_mul,cp,cp,cp,cU,show DD m (qF F) (p+2)=DD m (qF F) p*qq m (qF F) p*qq m (qF F) (p+1) from rfl,dx]
 obtain ⟨e1,e2⟩:=AS (DD m (qF F) p) (qq m (qF F) p) (qq m (qF F) (p+1)) (cf m (qF F) (p+1) p)
 rw [e1,e2]
 unfold exQ
 generalize DD m (qF F) p*DD m (qF F) p*qq m (qF F) p=E at hE
 generalize qq m (qF F) (p+1)+cf m (qF F) (p+1) p*cf m (qF F) (p+1) p*qq m (qF F) p=Q
 generalize qq m (qF F) p=a
 show (3:Rat)*(E*a)≤(4:Rat)*(E*Q)↔3*a≤4*Q
 constructor
 ·intro h
  have h2:E*(3*a)≤E*(4*Q):=by grind
  exact Rat.le_of_mul_le_mul_left h2 hE
 ·intro h
  have h2:E*(3*a)≤E*(4*Q):=Rat.mul_le_mul_of_nonneg_left h (by grind)
  grind
theorem pw {i j:Nat} (h:dK m F i j) (h0:dZ m F (j+1)≠0):4*(cf m (qF F) i j*cf m (qF F) i j)≤1:=by
 have hp:=jS h0
 have h1:(2*lZ m F i j)*(2*lZ m F i j)≤dZ m F (j+1)*dZ m F (j+1):=by
  unfold dK at h
  rw [← Int.natAbs_mul_self' (2*lZ m F i j),Int.natAbs_mul]
  have h2:(((2:Int).natAbs*(lZ m F i j).natAbs:Nat):Int)≤dZ m F (j+1):=by rw [Int.natCast_mul]; exact h
  exact Int.mul_le_mul h2 h2 (Int.natCast_nonneg _) Y
 have h2:(((2*lZ m F i j)*(2*lZ m F i j):Int):Rat)≤((dZ m F (j+1)*dZ m F (j+1):Int):Rat):=Rat.intCast_le_intCast.2 h1
 rw [Rat.intCast_mul,Rat.intCast_mul,Rat.intCast_mul,cU,cp] at h2
 have hD:0<DD m (qF F) (j+1):=by
  have h1:=ii (m:=m) (A:=qF F) (j+1)
  have h2:=yN h0
  grind
 have hDD:=Rat.mul_pos hD hD
 generalize DD m (qF F) (j+1)=D at *
 generalize cf m (qF F) i j=c at *
 have h3:D*D*(4*(c*c))≤D*D*1:=by
  have:((2:Int):Rat)=2:=rfl
  rw [this] at h2;grind
 exact Rat.le_of_mul_le_mul_left h3 hDD
section
variable {p:Nat} (DS:dZ m F (p+2)≠0) (hno : ¬ ec m F p)
include DS hno
theorem Bz:4*exQ m (qF F) p<3*qq m (qF F) p:=by
 rw [tA (cx DS Y)] at hno
 grind
theorem AT:4*dZ m (exZ p F) (p+1)<3*dZ m F (p+1):=by
 have h:=Bz DS hno
 have hD:0<DD m (qF F) p:=by
  have h1:=ii (m:=m) (A:=qF F) p
  have h2:=yN (cx DS (show p≤p+2 by omega))
  grind
 have h2:((4*dZ m (exZ p F) (p+1):Int):Rat)<((3*dZ m F (p+1):Int):Rat):=by
  rw [Rat.intCast_mul,Rat.intCast_mul,cp,cp,mJ DS,dx]
  have:=Rat.mul_lt_mul_of_pos_left h hD
  show (4:Rat)*_<(3:Rat)*_
  grind
 exact Rat.intCast_lt_intCast.1 h2
theorem yR {n:Nat} {B:Rat} (hB : ∀ s,s<n→qq m (qF F) s≤B) (hp:p+1<n) : ∀ s,s<n→qq m (qF (exZ p F)) s≤B:=fun s hs=>by
 have h:=Bz DS hno
 have hQ:=v8 DS
 rw [ll]
 by_cases h1:s=p
 ·subst h1
  rw [rN (eW DS)]
  have:=hB s hs
  grind
 ·by_cases h2:s=p+1
  ·subst h2
   have h3:=ob (eW DS)
   have h4:=hB p Y
   have h5:qq m (qF F) (p+1)≤exQ m (qF F) p:=by
    unfold exQ
    have:=sqq (x:=cf m (qF F) (p+1) p) (cV (m:=m) (A:=qF F) p)
    grind
   have h6:qq m (qF F) p*qq m (qF F) (p+1)≤qq m (qF F) p*exQ m (qF F) p:=Rat.mul_le_mul_of_nonneg_left h5 (cV p)
   have h7:qq m (exR p (qF F)) (p+1)≤qq m (qF F) p:=by
    refine Rat.le_of_mul_le_mul_left (c:=exQ m (qF F) p) ?_ hQ
    grind
   exact Rat.le_trans h7 h4
  ·rw [rM (eW DS) h1 h2]; exact hB s hs
end
/-! ### The product of the determinants -/
def prN:Nat→(Nat→Nat)→Nat
 | 0, _ => 1
 | n + 1, f => prN n f * f n
theorem qI {n:Nat} {f g:Nat→Nat} (h : ∀ i,i<n→f i=g i):prN n f=prN n g:=by
 induction n with
 | zero => rfl
 | succ n ih => rw [prN, prN, ih (fun i hi => h i Y), h n Y]
theorem AU {n:Nat} {f:Nat→Nat} (h : ∀ i,i<n→0<f i):0<prN n f:=by
 induction n with
 | zero => exact Nat.one_pos
 | succ n ih => exact Nat.mul_pos (ih fun i hi => h i Y) (h n Y)
theorem yS {n p:Nat} {f g:Nat→Nat} (hp:p<n) (h : ∀ i,i<n→i≠p→g i=f i) (h1:4*g p≤3*f p):4*prN n g≤3*prN n f:=by
 induction n with
 | zero => omega
 | succ n ih =>
  rw [prN,prN]
  rcases Nat.lt_or_eq_of_le (Nat.lt_succ_iff.1 hp) with h2 | h2
  ·have:=ih h2 (fun i hi=>h i Y)
   rw [h n Y Y, ← Nat.mul_assoc, ← Nat.mul_assoc]
   exact Nat.mul_le_mul_right _ this
  ·subst h2
   rw [qI (fun i hi=>h i Y Y),Nat.mul_left_comm,Nat.mul_left_comm 3]
   exact Nat.mul_le_mul_left _ h1
def j5 (m n:Nat) (F:Nat→Nat→Int):Nat:=prN n (fun i=>(dZ m F (i+1)).toNat)
theorem yT {n:Nat} (h:dZ m F n≠0):0<j5 m n F:=AU fun i hi=>by
 have:=jS (cx h (show i+1≤n by omega));omega
theorem AV {n p:Nat} (hp:p+1<n) (DS:dZ m F n≠0) (hno : ¬ ec m F p):4*j5 m n (exZ p F)≤3*j5 m n F:=by
 have H2:=cx DS (show p+2≤n by omega)
 refine yS (p:=p) Y (fun i _ hne=>by rw [od H2 Y]) ?_
 have:=AT H2 hno
 have:=ig (m:=m) (F:=exZ p F) (p+1)
 omega
theorem wc {n N:Nat} (h : ∀ s,s<n→qq m (qF F) s≤(N:Rat)) : ∀ {k},k≤n→j5 m k F≤N^(k*(k+1))
 | 0, _ => by rw [Nat.zero_mul, Nat.pow_zero]; exact Nat.le_refl 1
 | k + 1, hk => by
  have ih:=wc h (k:=k) Y
  have h1:=tz h hk
  have h2:(dZ m F (k+1)).toNat≤N^(k+1):=by omega
  show prN k _*_≤_
  refine Nat.le_trans (Nat.mul_le_mul ih h2) ?_
  rw [← Nat.pow_add]
  rcases Nat.eq_zero_or_pos N with h0 | h0
  ·subst h0
   rw [Nat.zero_pow (show 0<k*(k+1)+(k+1) by omega)]; exact Nat.zero_le _
  ·refine Nat.pow_le_pow_right h0 ?_
   rw [Nat.add_mul,Nat.mul_add k (k+1) 1]; omega
end Tor.Lin
end
section
namespace Tor
open Lin (dZ lZ shZ exZ dK ec qq cf qF dot j5)
structure LS where
 R:Nat→Nat→Int
 U:Nat→Nat→Int
 V:Nat→Nat→Int
def px (x d:Int):Int:=(2*x+d) / (2*d)
theorem tB {x d:Int} (hd:0<d):(px x d).natAbs≤x.natAbs+1:=by
 unfold px
 have h1:=Int.emod_nonneg (2*x+d) (show 2*d≠0 by omega)
 have h2:=Int.emod_lt_of_pos (2*x+d) (show 0<2*d by omega)
 have h3:=Int.emod_add_mul_ediv (2*x+d) (2*d)
 generalize (2*x+d) / (2*d)=q at *
 have h4:2*d*q≤2*x+d:=by omega
 have h5:2*x - d<2*d*q:=by omega
 have e:2*d*q=2*(d*q):=by rw [Int.mul_assoc]
 have ha:1*(x.natAbs:Int)≤d*(x.natAbs:Int):=Int.mul_le_mul_of_nonneg_right Y Y
 have hb:d*((x.natAbs:Int)+2)=d*(x.natAbs:Int)+d*2:=Int.mul_add _ _ _
 have hle : ∀ y:Int,(x.natAbs:Int)+2≤y→d*((x.natAbs:Int)+2)≤d*y:=fun y hy=>Int.mul_le_mul_of_nonneg_left hy Y
 rcases Nat.lt_or_ge (x.natAbs+1) q.natAbs with h | h
 ·rcases Int.lt_or_le q 0 with hq | hq
  ·have h6:=hle (-q) Y
   rw [Int.mul_neg] at h6
   omega
  ·have h6:=hle q Y
   omega
 ·exact h
theorem tC {x d:Int} (hd:0<d):2*((x - px x d*d).natAbs:Int)≤d:=by
 unfold px
 have h1:=Int.emod_nonneg (2*x+d) (show 2*d≠0 by omega)
 have h2:=Int.emod_lt_of_pos (2*x+d) (show 0<2*d by omega)
 have h3:=Int.emod_add_mul_ediv (2*x+d) (2*d)
 generalize (2*x+d) / (2*d)=q at *
 have e:2*d*q=2*(q*d):=by rw [Int.mul_assoc,Int.mul_comm d]
 omega
def stJ (m k j:Nat) (s:LS):LS :=
 if dK m s.R k j then s else ⟨gP k j (px (lZ m s.R k j) (dZ m s.R (j+1))) s.R,gP k j (px (lZ m s.R k j) (dZ m s.R (j+1))) s.U,k9 j k (px (lZ m s.R k j) (dZ m s.R (j+1))) s.V⟩
def stA (m k:Nat) (s:LS):Nat→LS
 | 0 => s
 | i + 1 => stJ m k (k - 1 - i) (stA m k s i)
def exL (p:Nat) (s:LS):LS:=⟨swp p (p+1) s.R,swp p (p+1) s.U,rF p (p+1) s.V⟩
structure BndL (DP:Nat) (s:LS):Prop where
 r : ∀ i j,(s.R i j).natAbs≤DP
 u : ∀ i j,(s.U i j).natAbs≤DP
 v : ∀ i j,(s.V i j).natAbs≤DP
theorem BndL.mono {DP DO:Nat} {s:LS} (h:BndL DP s) (hY:DP≤DO):BndL DO s:=⟨fun i j=>Nat.le_trans (h.r i j) hY,fun i j=>Nat.le_trans (h.u i j) hY,fun i j=>Nat.le_trans (h.v i j) hY⟩
theorem tD {x y q:Int} {DP Q:Nat} (hx:x.natAbs≤DP) (hy:y.natAbs≤DP) (hq:q.natAbs≤Q):(x+q*y).natAbs≤(Q+1)*DP:=by
 have h1:(x+q*y).natAbs≤x.natAbs+(q*y).natAbs:=Int.natAbs_add_le _ _
 rw [Int.natAbs_mul] at h1
 have h2:q.natAbs*y.natAbs≤Q*DP:=Nat.mul_le_mul hq hy
 rw [Nat.add_mul,Nat.one_mul]; omega
theorem tE {x y q:Int} {DP Q:Nat} (hx:x.natAbs≤DP) (hy:y.natAbs≤DP) (hq:q.natAbs≤Q):(x - q*y).natAbs≤(Q+1)*DP:=by
 have:=tD (q := -q) hx hy (by rw [Int.natAbs_neg]; exact hq)
 rwa [Int.neg_mul, ← Int.sub_eq_add_neg] at this
theorem BndL.sub {DP Q k j:Nat} {q:Int} {s:LS} (h:BndL DP s) (hq:q.natAbs≤Q):BndL ((Q+1)*DP) ⟨gP k j q s.R,gP k j q s.U,k9 j k q s.V⟩:=by
 have hX:DP≤(Q+1)*DP:=Nat.le_mul_of_pos_left DP Y
 refine ⟨fun a b => ?_,fun a b => ?_,fun a b => ?_⟩
 ·show (gP k j q s.R a b).natAbs≤_
  unfold gP;split
  ·exact tE (h.r _ _) (h.r _ _) hq
  ·exact Nat.le_trans (h.r _ _) hX
 ·show (gP k j q s.U a b).natAbs≤_
  unfold gP;split
  ·exact tE (h.u _ _) (h.u _ _) hq
  ·exact Nat.le_trans (h.u _ _) hX
 ·show (k9 j k q s.V a b).natAbs≤_
  unfold k9;split
  ·exact tD (h.v _ _) (h.v _ _) hq
  ·exact Nat.le_trans (h.v _ _) hX
theorem BndL.ex {DP p:Nat} {s:LS} (h:BndL DP s):BndL DP (exL p s):=by
 refine ⟨fun a b => ?_,fun a b => ?_,fun a b => ?_⟩
 ·show (swp p (p+1) s.R a b).natAbs≤_
  unfold swp;split
  ·exact h.r _ _
  ·split <;> exact h.r _ _
 ·show (swp p (p+1) s.U a b).natAbs≤_
  unfold swp;split
  ·exact h.u _ _
  ·split <;> exact h.u _ _
 ·show (swp p (p+1) (s.V a) b).natAbs≤_
  unfold swp;split
  ·exact h.v _ _
  ·split <;> exact h.v _ _
end Tor
end
section
namespace Tor
open Lin (dZ lZ shZ exZ dK ec qq cf qF dot j5 cx v7 rP pv mG mH jS yL pu)
structure ShI (m n k L DP:Nat) (s:LS) (i:Nat) (t:LS):Prop where
 row : ∀ a,a≠k→t.R a=s.R a
 dz : ∀ a,dZ m t.R a=dZ m s.R a
 qz : ∀ a,qq m (qF t.R) a=qq m (qF s.R) a
 lo : ∀ a b,a≠k→b<a→b<n→lZ m t.R a b=lZ m s.R a b
 sh : ∀ j,j<k→k≤j+i→dK m t.R k j
 lb : ∀ b,b<k→(lZ m t.R k b).natAbs≤(L+2)^(i+1)
 bnd:BndL (((L+2)^4)^i*DP) t
theorem ShI.start {m n k L DP:Nat} {s:LS} (hl : ∀ b,b<k→(lZ m s.R k b).natAbs≤L) (hb:BndL DP s):ShI m n k L DP s 0 s :=
 ⟨fun _ _=>rfl,fun _=>rfl,fun _=>rfl,fun _ _ _ _ _=>rfl,fun j h1 h2=>absurd h2 Y,fun b hb=>by have:=hl b hb;rw [Nat.zero_add,Nat.pow_one]; omega,by rw [Nat.pow_zero,Nat.one_mul]; exact hb⟩
theorem uL {L i:Nat} : (L+2)^(i+1)+2≤(L+2)^(i+2):=by
 have h1:(L+2)^(i+2)=(L+2)^(i+1)*(L+2):=Nat.pow_succ ..
 have h2:2≤(L+2)^(i+1):=by
  have:(L+2)^1≤(L+2)^(i+1):=Nat.pow_le_pow_right Y Y
  rw [Nat.pow_one] at this;omega
 have h3:(L+2)^(i+1)*2≤(L+2)^(i+1)*(L+2):=Nat.mul_le_mul_left _ Y
 omega
theorem C7 {G i DP:Nat} (h:1≤G):G^i*DP≤G^(i+1)*DP:=Nat.mul_le_mul_right _ (Nat.pow_le_pow_right h Y)
theorem BA {a G i DP:Nat} (h:a≤G):a*(G^i*DP)≤G^(i+1)*DP:=by
 rw [Nat.pow_succ',Nat.mul_assoc]; exact Nat.mul_le_mul_right _ h
theorem ShI.step {m n k L DP i:Nat} {s t:LS} (hk:k<n) (hn:n≤4) (DS:dZ m s.R n≠0) (hl : ∀ a b,a<n→b<a→(lZ m s.R a b).natAbs≤L) (hi:i<k) (h:ShI m n k L DP s i t):ShI m n k L DP s (i+1) (stJ m k (k - 1 - i) t):=by
 obtain ⟨j,hj⟩ : ∃ j,k - 1 - i=j:=⟨_,rfl⟩
 rw [hj]
 have hjk:j<k:=by omega
 have Ht : ∀ b,b<n→dZ m t.R (b+1)≠0:=fun b hb=>by rw [h.dz]; exact cx DS Y
 have hp4:(L+2)^(i+2)≤(L+2)^4:=Nat.pow_le_pow_right Y Y
 have hp:=uL (L:=L) (i:=i)
 unfold stJ
 by_cases hs:dK m t.R k j
 ·rw [if_pos hs]
  refine ⟨h.row,h.dz,h.qz,h.lo,fun b h1 h2 => ?_,fun b hb => ?_,h.bnd.mono ?_⟩
  ·by_cases hbj:b=j
   ·rw [hbj]; exact hs
   ·exact h.sh b h1 Y
  ·have:=h.lb b hb
   show _≤(L+2)^(i+2)
   omega
  ·exact C7 (Nat.pow_pos Y)
 ·rw [if_neg hs]
  have hd:=jS (Ht j Y)
  have hq:=tB (x:=lZ m t.R k j) hd
  have hlj:=h.lb j hjk
  generalize hQ:px (lZ m t.R k j) (dZ m t.R (j+1))=q at *
  have hqb:q.natAbs≤(L+2)^(i+1)+1:=by omega
  refine ⟨fun a ha => ?_,fun a => ?_,fun a => ?_,fun a b ha hb hbn => ?_,fun b h1 h2 => ?_,fun b hb => ?_,?_⟩
  ·funext b
   show gP k j q t.R a b=_
   rw [show gP k j q t.R a b=t.R a b from if_neg ha,h.row a ha]
  ·show dZ m (shZ k j q t.R) a=_
   rw [v7 hjk,h.dz]
  ·show qq m (qF (shZ k j q t.R)) a=_
   rw [pu,yL k j _ hjk,h.qz]
  ·show lZ m (shZ k j q t.R) a b=_
   rw [rP hjk ha (Ht b hbn),h.lo a b ha hb hbn]
  ·show dK m (shZ k j q t.R) k b
   by_cases hbj:b=j
   ·subst hbj
    unfold Lin.dK
    rw [mG hjk (Ht b Y),v7 hjk, ← hQ]
    exact tC hd
   ·have:=h.sh b h1 Y
    unfold Lin.dK at this ⊢
    rw [mH hjk Y (Ht b Y),v7 hjk]
    exact this
  ·show (lZ m (shZ k j q t.R) k b).natAbs≤_
   rcases Nat.lt_trichotomy b j with hbj | hbj | hbj
   ·rw [pv hjk hbj (Ht b Y),h.lo j b Y hbj Y]
    have h1:=h.lb b hb
    have h2:=hl j b Y hbj
    have h3:(lZ m t.R k b - q*lZ m s.R j b).natAbs≤(lZ m t.R k b).natAbs+(q*lZ m s.R j b).natAbs:=Int.natAbs_sub_le _ _
    rw [Int.natAbs_mul] at h3
    have h4:q.natAbs*(lZ m s.R j b).natAbs≤((L+2)^(i+1)+1)*L:=Nat.mul_le_mul hqb h2
    have e:(L+2)^(i+1+1)=(L+2)^(i+1)*(L+2):=Nat.pow_succ ..
    rw [e]
    rw [Nat.add_mul,Nat.one_mul] at h4
    rw [Nat.mul_add]
    have h5:L≤(L+2)^(i+1):=by
     have:(L+2)^1≤(L+2)^(i+1):=Nat.pow_le_pow_right Y Y
     rw [Nat.pow_one] at this;omega
    omega
   ·subst hbj
    rw [mG hjk (Ht b Y), ← hQ]
    have h1:=tC (x:=lZ m t.R k b) hd
    have h2:(lZ m t.R k b - px (lZ m t.R k b) (dZ m t.R (b+1))*dZ m t.R (b+1)).natAbs≤(lZ m t.R k b).natAbs:=by
     have h3:dZ m t.R (b+1)<2*((lZ m t.R k b).natAbs:Int):=by
      unfold Lin.dK at hs;omega
     omega
    have h3:(L+2)^(i+1)≤(L+2)^(i+1+1):=Nat.pow_le_pow_right Y Y
    omega
   ·rw [mH hjk hbj (Ht b Y)]
    have:=h.lb b hb
    have h3:(L+2)^(i+1)≤(L+2)^(i+1+1):=Nat.pow_le_pow_right Y Y
    omega
  ·have:=h.bnd.sub (k:=k) (j:=j) hqb
   refine this.mono ?_
   exact BA Y
theorem ShI.all {m n k L DP:Nat} {s:LS} (hk:k<n) (hn:n≤4) (DS:dZ m s.R n≠0) (hl : ∀ a b,a<n→b<a→(lZ m s.R a b).natAbs≤L) (hb:BndL DP s) : ∀ i,i≤k→ShI m n k L DP s i (stA m k s i)
 | 0, _ => ShI.start (fun b hbk => hl k b hk hbk) hb
 | i + 1, hi => ShI.step hk hn DS hl hi (ShI.all hk hn DS hl hb i Y)
theorem wd {m n k M:Nat} {A:Nat→Nat→Int} {s:LS} (hk:k<n) (h1:EqP n M s.R s.U A) (h2:jZ n s.U s.V) : ∀ i,i≤k→EqP n M (stA m k s i).R (stA m k s i).U A∧jZ n (stA m k s i).U (stA m k s i).V
 | 0, _ => ⟨h1, h2⟩
 | i + 1, hi => by
  obtain ⟨g1,g2⟩:=wd (m:=m) (k:=k) hk h1 h2 i Y
  have e:stA m k s (i+1)=stJ m k (k - 1 - i) (stA m k s i):=rfl
  rw [e]
  obtain ⟨j,hj⟩ : ∃ j,k - 1 - i=j:=⟨_,rfl⟩
  rw [hj]
  unfold stJ
  split
  ·exact ⟨g1,g2⟩
  ·exact ⟨g1.sub Y,g2.sub hk Y Y⟩
end Tor
end
section
namespace Tor
open Lin (dZ lZ shZ exZ dK ec qq cf qF dot j5 cx jS exI)
structure LInv (m n N DP P:Nat) (A:Nat→Nat→Int) (s:LS) (e t k:Nat):Prop where
 ua:EqP n m s.R s.U A
 uv:jZ n s.U s.V
 dn:dZ m s.R n≠0
 nrm : ∀ a,a<n→dot m (qF s.R a) (qF s.R a)≤(N:Rat)
 qn : ∀ a,a<n→2*qq m (qF s.R) a≤(N:Rat)
 pot:4^e*j5 m n s.R≤3^e*P
 bnd:BndL ((((N^4+2)^4)^3)^t*DP) s
 red : ∀ a b,a<k→b<a→dK m s.R a b
 ord : ∀ p,p+1<k→ec m s.R p
section
variable {m n N DP P e t k:Nat} {A:Nat→Nat→Int} {s:LS}
theorem LInv.qq_le (h:LInv m n N DP P A s e t k) : ∀ a,a<n→qq m (qF s.R) a≤(N:Rat):=fun a ha=>by
 have h1:=h.qn a ha
 have h2:=Lin.cV (m:=m) (A:=qF s.R) a
 grind
theorem LInv.n1 (h:LInv m n N DP P A s e t k) (hk:0<n):1≤N:=by
 have h1:=h.qq_le 0 hk
 have h2:=Lin.jq (cx h.dn (show 0+1≤n by omega))
 have h3:=Lin.cV (m:=m) (A:=qF s.R) 0
 rcases Nat.eq_zero_or_pos N with h0 | h0
 ·exfalso
  subst h0
  have:((0:Nat):Rat)=0:=rfl
  rw [this] at h1;grind
 ·exact h0
theorem LInv.lz (h:LInv m n N DP P A s e t k) (hn:n≤4) : ∀ a b,a<n→b<a→(lZ m s.R a b).natAbs≤N^4:=fun a b ha hb=>by
 have h1:=Lin.C6 (n:=n) h.qq_le (h.nrm a ha) hb Y
 exact Nat.le_trans h1 (Nat.pow_le_pow_right (h.n1 Y) Y)
theorem LInv.dz (h:LInv m n N DP P A s e t k) (hn:n≤4) (h0:0<n) : ∀ a,a≤n→dZ m s.R a≤((N^4:Nat):Int):=fun a ha =>
 Int.le_trans (Lin.tz (n:=n) h.qq_le ha) (Int.ofNat_le.2 (Nat.pow_le_pow_right (h.n1 h0) Y))
theorem LInv.sh (h:LInv m n N DP P A s e t k) (hk:k<n) (hn:n≤4) : ∀ i,i≤k→ShI m n k (N^4) ((((N^4+2)^4)^3)^t*DP) s i (stA m k s i) :=
 ShI.all hk hn h.dn (h.lz hn) h.bnd
theorem LInv.short (h:LInv m n N DP P A s e t k) (hk:k<n) (hn:n≤4):LInv m n N DP P A (stA m k s k) e (t+1) k ∧ ∀ b,b<k→dK m (stA m k s k).R k b:=by
 have g:=h.sh hk hn k (Nat.le_refl k)
 obtain ⟨e1,e2⟩:=wd (m:=m) (k:=k) hk h.ua h.uv k (Nat.le_refl k)
 have hd : ∀ a,a≤n→dZ m (stA m k s k).R a≠0:=fun a ha=>by rw [g.dz]; exact cx h.dn ha
 have hsh : ∀ b,b<k→dK m (stA m k s k).R k b:=fun b hb=>g.sh b hb Y
 have hq : ∀ a,a<n→2*qq m (qF (stA m k s k).R) a≤(N:Rat):=fun a ha=>by rw [g.qz]; exact h.qn a ha
 refine ⟨⟨e1,e2,hd n (Nat.le_refl n),fun a ha => ?_,hq,?_,?_,fun a b ha hb => ?_,fun p hp => ?_⟩,hsh⟩
 ·by_cases hak:a=k
  ·rw [hak]
   exact Lin.yQ Y (fun b hb=>Lin.pw (hsh b hb) (hd (b+1) Y)) (fun b hb=>hq b Y)
  ·have e:qF (stA m k s k).R a=qF s.R a:=by unfold Lin.qF;rw [g.row a hak]
   rw [e]; exact h.nrm a ha
 ·have e:j5 m n (stA m k s k).R=j5 m n s.R:=Lin.qI fun i _=>by rw [g.dz]
  rw [e]; exact h.pot
 ·refine g.bnd.mono ?_
  exact BA (Nat.pow_le_pow_right (Nat.pow_pos Y) Y)
 ·have:=h.red a b ha hb
  unfold Lin.dK at this ⊢
  rw [g.lo a b Y hb Y,g.dz]; exact this
 ·have:=h.ord p hp
  unfold Lin.ec at this ⊢
  rw [g.lo (p+1) p Y Y Y,g.dz,g.dz,g.dz]; exact this
theorem LInv.adv (h:LInv m n N DP P A s e t k) (hsh : ∀ b,b<k→dK m s.R k b) (ho:ec m s.R (k - 1)):LInv m n N DP P A s e t (k+1) :=
 ⟨h.ua,h.uv,h.dn,h.nrm,h.qn,h.pot,h.bnd,fun a b ha hb=>by
  rcases Nat.lt_or_eq_of_le (Nat.lt_succ_iff.1 ha) with h1 | h1
  ·exact h.red a b h1 hb
  ·subst h1;exact hsh b hb,fun p hp=>by
  rcases Nat.lt_or_eq_of_le (show p+1≤k by omega) with h1 | h1
  ·exact h.ord p h1
  ·rw [show p=k - 1 by omega]; exact ho⟩
theorem LInv.ex (h:LInv m n N DP P A s e t k) (hk:k<n) (hk1:1≤k) (hno : ¬ ec m s.R (k - 1)):LInv m n N DP P A (exL (k - 1) s) (e+1) t (max (k - 1) 1):=by
 obtain ⟨p,rfl⟩ : ∃ p,k=p+1:=⟨k - 1,by omega⟩
 rw [Nat.add_sub_cancel] at hno ⊢
 have DS:dZ m s.R (p+2)≠0:=cx h.dn Y
 have ed : ∀ {a},a≠p+1→dZ m (exZ p s.R) a=dZ m s.R a:=fun ha=>Lin.od DS ha
 have el : ∀ {a b},a<p→b<a→lZ m (exZ p s.R) a b=lZ m s.R a b:=fun {a b} ha hb=>by
  rw [Lin.rQ DS Y Y (cx h.dn Y)]
  unfold Lin.exI
  rw [if_neg Y,if_neg Y]
 refine ⟨h.ua.swap Y hk,h.uv.swap Y hk,?_,fun a ha => ?_,fun a ha => ?_,?_,h.bnd.ex,fun a b ha hb => ?_,fun q hq => ?_⟩
 ·show dZ m (exZ p s.R) n≠0
  rw [ed Y]; exact h.dn
 ·show dot m (qF (exZ p s.R) a) (qF (exZ p s.R) a)≤_
  have e:qF (exZ p s.R) a=qF s.R (exI p a):=by rw [Lin.ll,Lin.vY]
  rw [e]
  refine h.nrm _ ?_
  unfold Lin.exI;split
  ·omega
  ·split <;> omega
 ·show 2*qq m (qF (exZ p s.R)) a≤_
  have:=Lin.yR DS hno (n:=n) (B:=(N:Rat) / 2) (fun b hb=>by have:=h.qn b hb;grind) hk a ha
  grind
 ·show 4^(e+1)*j5 m n (exZ p s.R)≤_
  have h1:=Lin.AV hk h.dn hno
  have h2:=h.pot
  rw [Nat.pow_succ,Nat.pow_succ,Nat.mul_assoc,Nat.mul_right_comm (3^e)]
  calc 4^e*(4*j5 m n (exZ p s.R))≤4^e*(3*j5 m n s.R):=Nat.mul_le_mul_left _ h1
   _=4^e*j5 m n s.R*3:=by rw [Nat.mul_comm 3,Nat.mul_assoc]
   _≤3^e*P*3:=Nat.mul_le_mul_right _ h2
 ·have ha':a<p:=by omega
  have:=h.red a b Y hb
  show dK m (exZ p s.R) a b
  unfold Lin.dK at this ⊢
  rw [el ha' hb,ed Y]; exact this
 ·have hq':q+1<p:=by omega
  have:=h.ord q Y
  show ec m (exZ p s.R) q
  unfold Lin.ec at this ⊢
  rw [el hq' Y,ed Y,ed Y,ed Y]; exact this
theorem AW {e q:Nat} (h:4^e≤3^e*2^q):e≤3*q+2:=by
 rcases Nat.lt_or_ge e (3*(q+1)) with h1 | h1
 ·omega
 ·exfalso
  obtain ⟨d,rfl⟩ : ∃ d,e=3*(q+1)+d:=⟨e - 3*(q+1),by omega⟩
  rw [Nat.pow_add,Nat.pow_add,Nat.pow_mul,Nat.pow_mul] at h
  have h2:3^d≤4^d:=Nat.pow_le_pow_left S d
  have h3:(3^3)^(q+1)*2^(q+1)≤(4^3)^(q+1):=by
   rw [← Nat.mul_pow]; exact Nat.pow_le_pow_left S _
  have h4:0<3^d:=Nat.pow_pos S
  have h5:0<(3^3)^(q+1):=Nat.pow_pos S
  have h6:0<2^q:=Nat.pow_pos S
  generalize (3^3)^(q+1)=a at *
  generalize (4^3)^(q+1)=b at *
  rw [Nat.pow_succ] at h3
  generalize 2^q=c at *
  generalize 3^d=x at *
  generalize 4^d=y at *
  have h7:a*(c*2)*x≤b*y:=Nat.mul_le_mul h3 h2
  have h8:a*(c*2)*x=2*(a*x*c):=by
   rw [← Nat.mul_assoc,Nat.mul_right_comm (a*c),Nat.mul_right_comm a c x,Nat.mul_comm 2]
  have h9:0<a*x*c:=Nat.mul_pos (Nat.mul_pos h5 h4) h6
  omega
end
end Tor
end
section
namespace Tor
open Go Go.RowKit Go.Proofs
abbrev uM (n:Nat) (D:Nat→Int) (L:Nat→Nat→Int):VT:=bA 2 [(0, .one,cu (n+1) D),(1, .one,slT .one n (fun i=>cu i (L i)))]
def ny (D:Nat→Int) (L:Nat→Nat→Int) (i j:Nat):Prop:=2*((L i j).natAbs:Int)≤D (j+1)
instance {D:Nat→Int} {L:Nat→Nat→Int} {i j:Nat} : Decidable (ny D L i j):=by unfold ny;infer_instance
def py (D:Nat→Int) (L:Nat→Nat→Int) (p:Nat):Prop:=3*(D (p+1)*D (p+1))≤4*(D (p+2)*D p+L (p+1) p*L (p+1) p)
instance {D:Nat→Int} {L:Nat→Nat→Int} {p:Nat} : Decidable (py D L p):=by unfold py;infer_instance
theorem eM {x:Int} {t:Nat} (h:x.natAbs≤2^t) (ht:t≤1000):bJ x:=gb (Nat.lt_of_le_of_lt h (Nat.pow_lt_pow_right (a:=2) (m:=t) (n:=2048) S Y))
theorem BB {x:Int} {t u:Nat} (h:x.natAbs≤2^t) (hu:t≤u):x.natAbs≤2^u:=Nat.le_trans h (Nat.pow_le_pow_right S hu)
theorem fg {x y:Int} {t u v:Nat} (hx:x.natAbs≤2^t) (hy:y.natAbs≤2^u) (hv:t+u≤v):(x*y).natAbs≤2^v:=by
 rw [Int.natAbs_mul]
 exact Nat.le_trans (Nat.mul_le_mul hx hy) (by rw [← Nat.pow_add]; exact Nat.pow_le_pow_right S hv)
theorem lR {x y:Int} {t v:Nat} (hx:x.natAbs≤2^t) (hy:y.natAbs≤2^t) (hv:t+1≤v):(x+y).natAbs≤2^v:=by
 have h1:=Int.natAbs_add_le x y
 have h2:2^(t+1)≤2^v:=Nat.pow_le_pow_right S hv
 rw [Nat.pow_succ] at h2;omega
theorem uN {x y:Int} {t v:Nat} (hx:x.natAbs≤2^t) (hy:y.natAbs≤2^t) (hv:t+1≤v):(x - y).natAbs≤2^v:=by
 rw [Int.sub_eq_add_neg]; exact lR hx (by rw [Int.natAbs_neg]; exact hy) hv
theorem AX {x y:Int} : fp x y≤0↔x≤y:=by
 unfold fp
 by_cases h:x<y
 ·rw [if_pos h]; exact ⟨fun _=>by omega,fun _=>by decide⟩
 ·rw [if_neg h]
  split
  ·exact ⟨fun h2=>absurd h2 S,fun h2=>by omega⟩
  ·exact ⟨fun _=>by omega,fun _=>by decide⟩
theorem AY {x y:Int} : 0≤fp x y↔y≤x:=by
 unfold fp
 by_cases h:x<y
 ·rw [if_pos h]; exact ⟨fun h2=>absurd h2 S,fun h2=>by omega⟩
 ·rw [if_neg h]
  exact ⟨fun _=>by omega,fun _=>by split <;> decide⟩
attribute [local irreducible] J PJ aP one slT cv bA bM exT cq eP aW aU slV VT.le Ret bO xO
attribute [local irreducible] cu
theorem qJ (n:Nat) (D:Nat→Int) (L:Nat→Nat→Int) (i j:Nat) (hn:n≤1048576) (hi:i<n) (hj:j<i) (hL:cX (L i j)):Ok Tryz.prog 51 [uM n D L,one (.int .i64 (i:Nat)),one (.int .i64 (j:Nat))] (one (.bool (decide (ny D L i j)))):=by
 have hab:=Ag (L i j) (bE hL)
 have hL2:cX ((L i j).natAbs:Int):=by unfold cX;rw [Int.natAbs_natCast]; exact hL
 have hsm:=bE hL2
 have e:decide (fp ((L i j).natAbs+(L i j).natAbs:Int) (D (j+1))≤0)=decide (ny D L i j):=decide_eq_decide.2 (by rw [AX]; unfold ny;omega)
 refine Ok.enter Tryz.func51 Z Tryz.ntmps51 Z (fun w O => ?_)
 rw [← e]
 unfold uM cu
 refine ae (aj ?_)
 refine aM Z Z (ltN Z) (fun b3 => ?_)
 refine Ea Z (Ec (aa (ae (aj (DY (ah Z) (DY (ak 0 Z Z Z) (DZ Z (DY (ax Z Z Y) (DY (aJ Z) ?_)))))))))
 refine DZ Z (DY (ax Z Z Y) (DY (aJ Z) ?_))
 refine DY (am (hab) Z ⟨H,Ed⟩) ?_
 refine aX (T:=43) Z (ltN Z) (fun b7 => ?_)
 refine aC 0 Z Z Z Z Z (leN Z) Z (Ec (aa (ae (aT 11 aS X S (DY (ak 0 Z Z Z) (DY (ak 0 Z Z Z) ?_))))))
 refine DY (am (gv _ _ (by assumption) (by assumption)) Z ⟨H,H,Ed⟩) ?_
 refine DY (ah Z) (DY (ak 1 Z Z Z) (DZ Z (DY (bn _ 1 Z Z Y) (DY (ax Z Z Y) (DY (aJ Z) ?_)))))
 refine DY (am (rh _ _) Z ⟨H,H,Ed⟩) ?_
 refine DY (j8 Z Z) (Ec (Ea Z (Ec (aa (aD ?_)))))
 refine aK Tryz.results51 (.tmp Z H)
theorem we (n:Nat) (D:Nat→Int) (L:Nat→Nat→Int) (k p:Nat) (hn:n≤1048576) (hp:k=p+1) (hk:k<n) (hL:cX (L (p+1) p)) (h0:cX (D p)) (h1:cX (D (p+1))) (h2:cX (D (p+2))):Ok Tryz.prog 52 [uM n D L,one (.int .i64 (k:Nat))] (one (.bool (decide (py D L p)))):=by
 subst hp
 have s0:=bE h0
 have s1:=bE h1
 have s2:=bE h2
 have sL:=bE hL
 have b1:bJ (D (p+2)*D p):=eM (t:=800) (fg (t:=400) (u:=400) (v:=800) h2 h0 S) S
 have b2:bJ (L (p+1) p*L (p+1) p):=eM (t:=800) (fg (t:=400) (u:=400) (v:=800) hL hL S) S
 have b3:bJ (D (p+1)*D (p+1)):=eM (t:=800) (fg (t:=400) (u:=400) (v:=800) h1 h1 S) S
 have b4:bJ (D (p+2)*D p+L (p+1) p*L (p+1) p):=eM (t:=801) (lR (t:=800) (v:=801) (fg (t:=400) (u:=400) (v:=800) h2 h0 S) (fg (t:=400) (u:=400) (v:=800) hL hL S) S) S
 have c4:bJ 4:=gb W
 have c3:bJ 3:=gb W
 have e:decide (0≤fp (4*(D (p+2)*D p+L (p+1) p*L (p+1) p)) (3*(D (p+1)*D (p+1))))=decide (py D L p):=decide_eq_decide.2 AY
 refine Ok.enter Tryz.func52 Z Tryz.ntmps52 Z (fun w O => ?_)
 rw [← e]
 unfold uM cu
 refine ae (aj ?_)
 refine aM Z Z (ltN Z) (fun b2 => ?_)
 refine Ea Z (Ec (aa (ae (aj (DY (ah Z) (DY (ak 0 Z Z Z) (DZ Z (DY (ax Z Z Y) (DY (aJ Z) ?_)))))))))
 refine DZ Z (DY (cA _ 1 Z Z Y Y) (DY (ax Z Z Y) (DY (aJ Z) ?_)))
 refine aX (T:=43) Z (ltN Z) (fun b5 => ?_)
 refine aC 0 Z Z Z Z Z (leN Z) Z (Ec (aa (ae ?_)))
 refine dU aS X X ?_
 refine ux (fun B=>ah Z) Z Z ?_
 refine ux (fun B=>ak 1 Z Z Z) Z Z ?_
 refine ux (fun B=>ab Z) Z Z ?_
 refine ux (fun B=>bn _ 1 Z Z Y) Z Z ?_
 refine ux (fun B=>ax Z Z Y) Z Z ?_
 refine ux (fun B=>aJ Z) Z Z ?_
 refine ux (fun B=>ah Z) Z Z ?_
 refine ux (fun B=>ak 1 Z Z Z) Z Z ?_
 refine ux (fun B=>ab Z) Z Z ?_
 refine ux (fun B=>cA _ 1 Z Z Y Y) Z Z ?_
 refine ux (fun B=>ax Z Z Y) Z Z ?_
 refine ux (fun B=>aJ Z) Z Z ?_
 refine uxk (dM _ _ (by assumption) (by assumption)) Z ⟨H,H,Ed⟩ Z ?_
 refine ux (fun B=>ak 0 Z Z Z) Z Z ?_
 refine ux (fun B=>ak 0 Z Z Z) Z Z ?_
 refine uxk (dM _ _ (by assumption) (by assumption)) Z ⟨H,H,Ed⟩ Z ?_
 refine uxk (gv _ _ (by assumption) (by assumption)) Z ⟨H,H,Ed⟩ Z ?_
 refine ua Z (us Z ?_)
 refine RunU.nil (fun γ => ?_)
 refine cF (M' := [_,_,_]) Z (aa (ae ?_))
 refine dU aS X X ?_
 refine ux (fun B=>ah Z) Z Z ?_
 refine ux (fun B=>ak 2 Z Z Z) Z Z ?_
 refine ux (fun B=>ab Z) Z Z ?_
 refine ux (fun B=>ax Z Z Y) Z Z ?_
 refine ux (fun B=>aJ Z) Z Z ?_
 refine ux (fun B=>ah Z) Z Z ?_
 refine ux (fun B=>ak 2 Z Z Z) Z Z ?_
 refine ux (fun B=>ab Z) Z Z ?_
 refine ux (fun B=>ax Z Z Y) Z Z ?_
 refine ux (fun B=>aJ Z) Z Z ?_
 refine uxk (dM _ _ (by assumption) (by assumption)) Z ⟨H,H,Ed⟩ Z ?_
 refine ua Z (us Z ?_)
 refine RunU.nil (fun γ => ?_)
 refine cF (M' := [_,_,_,_]) Z (aa (ae (aT 8 aS X S ?_)))
 refine DY (am (ql _ Y Y) Z ⟨H,Ed⟩) ?_
 refine DY (ak 1 Z Z Z) ?_
 refine DY (am (dM _ _ (by assumption) (by assumption)) Z ⟨H,H,Ed⟩) ?_
 refine DY (am (ql _ Y Y) Z ⟨H,Ed⟩) ?_
 refine DY (ak 0 Z Z Z) ?_
 refine DY (am (dM _ _ (by assumption) (by assumption)) Z ⟨H,H,Ed⟩) ?_
 refine DY (am (rh _ _) Z ⟨H,H,Ed⟩) ?_
 refine DY (j9 Z Z) (Ec (Ea Z (Ec (aa (aD ?_)))))
 refine aK Tryz.results52 (.tmp Z H)
end Tor
end
