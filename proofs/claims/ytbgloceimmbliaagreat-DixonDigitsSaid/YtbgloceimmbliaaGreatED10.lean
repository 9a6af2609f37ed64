/-
  Theorems that the proofs of laws of this seat rest on.
  No condition.
-/
import Derived.Test.YtbgloceimmbliaaGreatED9
set_option maxHeartbeats 20000000
set_option linter.unusedVariables false
set_option linter.unusedSimpArgs false
section
set_option linter.unusedSectionVars false
namespace Tor
open Go Go.RowKit
section
variable {P:Program} {E:Env} {D:List Deferred} {Γ:Ctx} {M:Mem} {ops:Array Oper}
theorem xl {a1 a2:Act} {w1 w2:World} {Γ2 Γk:Ctx} {t1 t2 p q m n:Nat} {T1 T2 T':TypeId} {L:Lay} {z:Value} {ψ:VT} (hS:St E D Γ M a1 w1) (hI:E.I = [])
  (hS2:St ⟨w1,E.O,aZ M ++ E.I,E.N,E.R⟩ D Γ2 (aP p T1 m [(0, .agg m, ψ)] :: aP q T2 1 [(0, .one,frS w1.heap.size T' L n z)] :: M) a2 w2) (hx:Ext w1 w2) (hk2 : ∀ t,(∀ j,dstOf ops j≠some t)→a2.tmps.getD t undef=a1.tmps.getD t undef) (hk:rG ops Γ Γk)
  (ht1:bR Γ2 t1=some (one (.pointer (some ⟨p,0,none⟩)))) (ht2:bR Γ2 t2=some (one (.pointer (some ⟨q,0,none⟩))))
  (hψ : ∀ v h b c, ψ.p v h→h b=some (c,T',(0,0))→(∀ i,i<n→bS L c (i*L.sz)=some z)→c.size=n*L.sz→ψ.p v (hid [b] h)) :
  ∃ b2,St E D ((t1,one (.pointer (some ⟨p,0,none⟩))) :: (t2,one (.pointer (some ⟨q,0,none⟩))) :: Γk) (aP p T1 m [(0, .agg m, ψ)] :: aP q T2 1 [(0, .one,one (slV (some b2) n n))] :: aI (some b2) T' L n n (fun _=>one z) :: M) a2 w2:=by
 obtain ⟨c,hc,hs,ha,hcs⟩:=hS2.base.mem _ (List.mem_cons_of_mem _ List.mem_cons_self)
 obtain ⟨d,hd,ds,da,dcs⟩:=hS2.base.mem _ List.mem_cons_self
 obtain ⟨v,hv1,b2,c2,g1,g2,g3,g4,g5,g6⟩:=hcs _ List.mem_cons_self
 obtain ⟨n1,n2⟩:=di g3
 have lo : ∀ b,b ∈ [p,q]→w1.heap.size≤b∧b<w2.heap.size:=fun b hb=>by
  have hm:b∈aZ (aP p T1 m [(0, .agg m, ψ)] :: aP q T2 1 [(0, .one,frS w1.heap.size T' L n z)] :: M):=by
   simp [aP]; simp at hb;rcases hb with rfl | rfl
   ·exact .inl Y
   ·exact .inr (.inl Y)
  refine ⟨?_,hS2.base.ex b (List.mem_append.2 (.inr hm))⟩
  rcases hS2.base.lo b hm with h | h
  ·exact h
  ·exfalso
   rw [hI,List.append_nil] at h
   have hnd:=hS2.base.nd
   simp only [blks_cons,aP,List.cons_append,List.nil_append,List.nodup_cons,List.mem_cons] at hnd
   simp at hb
   rcases hb with rfl | rfl
   ·exact hnd.1 (.inr h)
   ·exact hnd.2.1 h
 have hpq:p≠q:=fun e=>by
  have hnd:=hS2.base.nd
  simp only [blks_cons,aP,List.cons_append,List.nil_append,List.nodup_cons,List.mem_cons] at hnd
  exact hnd.1 (.inl e)
 have hn:b2≠p∧b2≠q:=⟨fun e=>n1 (by simp [aP,e]),fun e=>n1 (by simp [aP,e])⟩
 refine ⟨b2,rE (N := [aP p T1 m [(0, .agg m, ψ)],aP q T2 1 [(0, .one,one (slV (some b2) n n))],aI (some b2) T' L n n (fun _=>one z)]) (Γn := [(t1,one (.pointer (some ⟨p,0,none⟩))),(t2,one (.pointer (some ⟨q,0,none⟩)))]) hS hx hS2.sz hS2.df (fun t φ h=>⟨(hk t φ h).1,hk2 t (hk t φ h).2⟩) ?_ ?_ ?_ ?_⟩
 ·intro o ho
  rcases List.mem_cons.1 ho with rfl | ho
  ·refine ⟨d,hd,ds,da,fun r hr => ?_⟩
   rcases List.mem_singleton.1 hr with rfl
   obtain ⟨y,hy1,hy2⟩:=dcs _ List.mem_cons_self
   refine ⟨y,hy1, ψ.mono (fun x u e => ?_) (hψ y _ b2 c2 hy2 g3 g6 g4)⟩
   obtain ⟨e1,e2⟩:=di e
   obtain ⟨e3,e4⟩:=di e2
   refine eJ (fun h => ?_) e4
   have h:x∈E.O ++ (p :: q :: b2 :: aZ M):=h
   have e3:x ∉ E.O ++ (p :: q :: aZ M):=e3
   simp only [List.mem_append,List.mem_cons,List.not_mem_nil,or_false] at h e1 e3
   rcases h with h | h | h | h | h
   ·exact e3 (.inl h)
   ·exact e3 (.inr (.inl h))
   ·exact e3 (.inr (.inr (.inl h)))
   ·exact e1 h
   ·exact e3 (.inr (.inr (.inr h)))
  ·rcases List.mem_cons.1 ho with rfl | ho
   ·refine ⟨c,hc,hs,ha,fun r hr => ?_⟩
    rcases List.mem_singleton.1 hr with rfl
    exact ⟨v,hv1,g2⟩
   ·have ho:=List.mem_singleton.1 ho
    subst ho
    refine ⟨Nat.le_refl _,g5,(fun h=>by cases h),fun b' hb' => ?_⟩
    cases hb'
    exact ⟨c2,n2,g4,fun i hi=>⟨z,g6 i hi,rfl⟩⟩
 ·simp [aZ,aP,aI]
  exact ⟨⟨hpq,fun e=>hn.1 e.symm⟩,fun e=>hn.2 e.symm⟩
 ·intro b' hb'
  simp [aZ,aP,aI] at hb'
  rcases hb' with rfl | rfl | rfl
  ·exact lo b' (by simp)
  ·exact lo b' (by simp)
  ·exact ⟨g1,eC n2⟩
 ·intro s φ hs
  rw [bx] at hs
  split at hs
  ·rename_i e;subst e;cases hs;exact hS2.tm _ _ ht1
  ·rw [bx] at hs
   split at hs
   ·rename_i e;subst e;cases hs;exact hS2.tm _ _ ht2
   ·cases hs
theorem xm {v:Value} {h:Hp} {b n:Nat} {c:Array Value} {T:TypeId} (hv:(aL 1).p v h) (hb:h b=some (c,T,(0,0))) (hz : ∀ i,i<n→bS (.agg 2) c (i*2)=some (.agg #[.bool false, .slice none 0 0])) (hs:c.size=n*2):(aL 1).p v (hid [b] h):=by
 obtain ⟨d,h1,h2,h3,h4⟩:=hv
 refine ⟨d,h1,h2,h3,fun r hr => ?_⟩
 obtain ⟨x,hx,hp⟩:=h4 r hr
 refine ⟨x,hx,?_⟩
 rcases List.mem_cons.1 hr with rfl | hr
 ·exact hp
 ·rcases List.mem_singleton.1 hr with rfl
  obtain ⟨a,cap,e1,e2,e3,e4⟩:=hp
  refine ⟨a,cap,e1,e2,e3,fun i hi => ?_⟩
  obtain ⟨b',o,c',T',f,y,g1,g2,g3,g4⟩:=e4 i hi
  refine ⟨b',o,c',T',f,y,g1,eJ (fun hm => ?_) g2,g3,g4⟩
  have hm:b'=b:=by simpa using hm
  subst hm
  rw [hb] at g2
  cases g2
  have g3:c[o+i*1]? = some y:=g3
  obtain ⟨k,hk⟩ : ∃ k,k=o+i*1:=⟨_,rfl⟩
  rw [← hk] at g3
  have hlt:k<c.size:=(Array.getElem?_eq_some_iff.1 g3).1
  have hzz:=hz (k / 2) X
  have hzz:(if k / 2*2+2≤c.size then some (Value.agg (c.extract (k / 2*2) (k / 2*2+2))) else none)=some (.agg #[.bool false, .slice none 0 0]):=hzz
  rw [if_pos X] at hzz
  have hzz:=Option.some.inj hzz
  have hzz:c.extract (k / 2*2) (k / 2*2+2) = #[.bool false, .slice none 0 0]:=by injection hzz
  have e5:(c.extract (k / 2*2) (k / 2*2+2))[k - k / 2*2]? = some y:=by
   rw [Array.getElem?_extract,if_pos X,show k / 2*2+(k - k / 2*2)=k by omega]
   exact g3
  rw [hzz] at e5
  have g4:y = .int .u32 ((((aK (Int.natAbs 1)).getD i 0:Nat)):Int):=g4
  rcases (show k - k / 2*2=0∨k - k / 2*2=1 by omega) with e | e
  ·rw [e] at e5;cases e5;cases g4
  ·rw [e] at e5;cases e5;cases g4
end
end Tor
end
section
namespace Tor
open Go Go.RowKit Go.Proofs
def uD (n:Nat) (Eb:Nat→Rat):VT:=slT (.agg 4) n (fun i=>cD (Eb i))
theorem vQ {Eb:Nat→Rat} : VT.le (one (.slice none 0 0)) (uD 0 Eb):=eX
theorem rm {p n:Nat} {F:Nat→Nat→Int} {b:Nat→Int} (hp:2≤p) : ∀ (k:Nat) (pre:List (Nat→Int)),pre.length=k→gr p n F b pre → ∀ j,0≤smL p pre j∧smL p pre j<(p:Int)^k
 | 0, pre, hk, _, j => by
  have:pre = []:=List.length_eq_zero_iff.1 hk
  subst this
  exact ⟨Int.le_refl _,by show (0:Int)<(p:Int)^0;rw [Int.pow_zero]; decide⟩
 | k + 1, pre, hk, h, j => by
  obtain ⟨x,l,rfl⟩ : ∃ x l,pre=l ++ [x]:=by
   rcases List.eq_nil_or_concat pre with e | ⟨l,x,e⟩
   ·rw [e] at hk;cases hk
   ·exact ⟨x,l,by rw [e,List.concat_eq_append]⟩
  rw [List.length_append] at hk
  have hk:l.length=k:=by have : [x].length=1:=rfl;omega
  obtain ⟨h1,h2⟩:=rm hp k l hk h.init j
  obtain ⟨h3,h4⟩:=h.last hp j
  rw [oE,hk,Int.pow_succ]
  have h5:(0:Int)≤(p:Int)^k:=Int.le_trans h1 (Int.le_of_lt h2)
  have h6:0≤(p:Int)^k*x j:=Int.mul_nonneg h5 h3
  have h7:(p:Int)^k*x j≤(p:Int)^k*((p:Int) - 1):=Int.mul_le_mul_of_nonneg_left X h5
  rw [Int.mul_sub,Int.mul_one] at h7
  omega
theorem Bz {b p:Nat} {T:TypeId} : Own.le (aP b T 2 [(0, .agg 2,aL 1)]) (aP b T 2 [(0, .agg 2,aL ((p:Int)^([]:List (Nat→Int)).length))]):=Own.le_refl _
theorem xn {p q:Nat} : VT.le (one (Value.agg #[Value.bool false,Value.slice none 0 0])) (aL (smL p [] q)):=iT
theorem kf {φ ψ:VT} (h:φ=ψ):VT.le φ ψ:=h▸VT.le_refl _
theorem vR {b p k k':Nat} {T:TypeId} (h:k'=k+1):Own.le (aP b T 2 (kp [(0, .agg 2,aL ((p:Int)^k))] 0 (aL ((p:Int)^k*(p:Int))))) (aP b T 2 [(0, .agg 2,aL ((p:Int)^k'))]):=by
 subst h;rw [Int.pow_succ]; exact Own.le_refl _
theorem Di (m:Nat) : ∃ s,s*s≤m∧m<(s+1)*(s+1):=by
 induction m with
 | zero => exact ⟨0, Nat.le_refl _, by decide⟩
 | succ m ih =>
  obtain ⟨s,h1,h2⟩:=ih
  by_cases h:m+1<(s+1)*(s+1)
  ·exact ⟨s,Nat.le_succ_of_le h1,h⟩
  ·refine ⟨s+1,by omega,?_⟩
   have:(s+1)*(s+1)<(s+1+1)*(s+1+1):=Nat.mul_self_lt_mul_self (Nat.lt_succ_self _)
   omega
theorem uE {p k:Nat} (hp:2≤p):2^k≤p^k:=Nat.pow_le_pow_left hp k
theorem Dj {p k m:Nat} (hp:2≤p) (h:p^k≤2^m):k<m+1:=by
 rcases Nat.lt_or_ge k (m+1) with h1 | h1
 ·exact h1
 ·have h2:2^(m+1)≤2^k:=Nat.pow_le_pow_right S h1
  have h3:2^m<2^(m+1):=Nat.pow_lt_pow_right S (Nat.lt_succ_self m)
  exact absurd (Nat.lt_of_lt_of_le h3 (Nat.le_trans h2 (Nat.le_trans (uE hp) h))) (Nat.lt_irrefl _)
theorem zL {P L:Nat} {lim:Int} (h1:2*((L:Int)*(L:Int))=lim) (hL:L≤2^380) (h:(P:Int)≤lim+1):P≤2^762:=by
 have h2:P≤2*(L*L)+1:=by
  rw [← Int.natCast_mul] at h1
  clear hL
  omega
 exact Nat.le_trans h2 (Nat.le_trans (Nat.add_le_add_right (Nat.mul_le_mul_left 2 (Nat.mul_le_mul hL hL)) 1) U)
theorem BA {P p:Nat} (h:P≤2^762) (hp:p<2147483648):P*p≤2^800:=Nat.le_trans (Nat.mul_le_mul h (Nat.le_of_lt hp)) U
theorem Dk {x y:Int} : 0<cV x y↔y<x:=by
 unfold cV
 split <;> (try split) <;> omega
theorem zM {sv:Option Nat} {T:TypeId} {L:Lay} {cap n t:Nat} {G Ef:Nat→VT} : Own.le (aI sv T L cap n (upd (fun q=>if q<t then G q else Ef q) t (G t))) (aI sv T L cap n (fun q=>if q<t+1 then G q else Ef q)):=bg fun q _=>by
 unfold upd
 by_cases h:q=t
 ·subst h;rw [if_pos Y,if_pos (Nat.lt_succ_self q)]
 ·rw [if_neg h]
  dsimp only
  by_cases h2:q<t
  ·rw [if_pos h2,if_pos X]
  ·rw [if_neg h2,if_neg X]
attribute [local irreducible] J PJ aJ one slT bQ bC bv exT bZ eP aP aI slV VT.le Ret bJ xO
attribute [local irreducible] aL cD
theorem xo (r c m:Nat) (F:Nat→Nat→Int) (b:Nat→Int) (h : ¬ (r=c∧m=c)):Ok Tryz.prog 13 [bP r c F,bA m b] (bv [uD 0 (fun _=>0),one (.int .i64 50)]):=by
 have hf:=l4 r c m F b
 rw [decide_eq_false h] at hf
 refine Ok.enterR Tryz.func13 Y Tryz.ntmps13 Y (fun w O => ?_)
 refine ae (ai ?_)
 refine aS Y Y (ltN Y) (fun b2 => ?_)
 refine En Y (En Y (Ep (aa (ae (ae (ai (El (aQ 0 Y Y) (Em Y ?_))))))))
 refine El (am (hf) Y ⟨H,H,Er⟩) ?_
 refine El (cR Y) (Ep (aa (aH Y (ae (ai (En Y (En Y (Ep (aa ?_)))))))))
 refine aF (aU (jY ?_))
 refine cT Tryz.results13 (.tmp Y (vQ)) (.tmp Y H)
theorem xp (n:Nat) (F:Nat→Nat→Int) (b:Nat→Int) (hdet:Ok Tryz.prog 50 [bP n n F] (bv [aL 0,one (.int .i64 0)])) :
  Ok Tryz.prog 13 [bP n n F,bA n b] (bv [uD 0 (fun _=>0),one (.int .i64 110)]):=by
 have hf:=l4 n n n F b
 rw [decide_eq_true ⟨rfl,rfl⟩] at hf
 have hsg:=dc 0
 refine Ok.enterR Tryz.func13 Y Tryz.ntmps13 Y (fun w O => ?_)
 refine ae (ai ?_)
 refine aS Y Y (ltN Y) (fun b2 => ?_)
 refine En Y (En Y (Ep (aa (ae (ae (ai (El (aQ 0 Y Y) (Em Y ?_))))))))
 refine El (am (hf) Y ⟨H,H,Er⟩) ?_
 refine El (cR Y) (Ep (aa (aB Y (az (aa (ae (ai (El (aQ 0 Y Y) ?_))))))))
 refine El (am (hdet) Y ⟨H,Er⟩) ?_
 refine Em Y (El (ar Y Y) (El (ar Y Y) ?_))
 refine aG (T:=37) Y (ltN Y) (fun b6 => ?_)
 refine aA 0 Y Y Y Y Y (leN Y) Y (En Y (Ep (aa (ae (ae (ai (El (ak 0 Y Y Y) ?_)))))))
 refine El (am (hsg) Y ⟨H,Er⟩) ?_
 refine El (sT (rfl) (cm Y Y)) (Ep (aa (aH Y (ae (ai (En Y (En Y (Ep (aa ?_)))))))))
 refine aF (aU (jY ?_))
 refine cT Tryz.results13 (.tmp Y (vQ)) (.tmp Y H)
theorem uF (p n:Nat) (F:Nat→Nat→Int) (b:Nat→Int) (d:Int) (L:Nat) (Eb:Nat→Rat) (hpb:cC p=true) (hp2:2≤p) (hp:p<2147483648) (hinv:ul p) (hF:um p n F) (hn:n≤16) (hs : ∀ i j,(F i j).natAbs≤1099511627776) (hb : ∀ i,(b i).natAbs≤1152921504606846976)
  (hdet:Ok Tryz.prog 50 [bP n n F] (bv [aL d,one (.int .i64 0)])) (hd:d≠0) (hpr:Ok Tryz.prog 56 [aL d] (one (.int .u64 (p:Nat))))
  (hmi:Ok Tryz.prog 53 [bP (n+1) n (dx n F (fun _=>b)),one (.int .i64 (n:Nat))] (aL (L:Nat))) (hL:L≤2^380)
  (hX : ∀ (k:Nat) (Ed:Nat→Int),2*(L*L)<p^k→(∀ i,i<n→((p:Int)^k)∣b i - bh n (fun t=>Ed t*F t i)) → ∀ j,j<n → ∀ s,s*s≤(p^k - 1) / 2→(p^k - 1) / 2<(s+1)*(s+1)→uA (Ed j) (p^k) s=some (Eb j)) :
  Ok Tryz.prog 13 [bP n n F,bA n b] (bv [uD n Eb,one (.int .i64 0)]):=by
 have hf:=l4 n n n F b
 rw [decide_eq_true ⟨rfl,rfl⟩] at hf
 have hdg:=pZ p n F b
 have hit:=oF p n F b 802 hpb hp2 hp hinv hF hn hs hb
 have hsz:=eF d
 have hsg:=dc d
 have hsz':c6 d≠0:=fun e=>hd (hsz.1 e)
 have hst:=yV n n F 1 n (fun _=>b) X X X (fun i j=>cA (hs i j) U) (fun i j=>cA (hb j) U)
 rw [show decide (n=n)=true from decide_eq_true Y] at hst
 have hLL:((L:Int)*(L:Int)).natAbs≤2^760:=by
  rw [Int.natAbs_mul,Int.natAbs_natCast]
  exact Nat.le_trans (Nat.mul_le_mul hL hL) U
 have hm1:=eY (L:Int) (L:Int) (eA (n:=380) (by rw [Int.natAbs_natCast]; exact hL) S) (eA (n:=380) (by rw [Int.natAbs_natCast]; exact hL) S)
 have hm2:=eY 2 ((L:Int)*(L:Int)) (dU U) (eA hLL S)
 generalize hlim:2*((L:Int)*(L:Int))=lim at *
 refine Ok.enterR Tryz.func13 Y Tryz.ntmps13 Y (fun w O => ?_)
 refine ae (ai ?_)
 refine aS Y Y (ltN Y) (fun b2 => ?_)
 refine En Y (En Y (Ep (aa (ae (ae (ai (El (aQ 0 Y Y) (Em Y ?_))))))))
 refine El (am (hf) Y ⟨H,H,Er⟩) ?_
 refine El (cR Y) (Ep (aa (aB Y (az (aa (ae (ai (El (aQ 0 Y Y) ?_))))))))
 refine El (am (hdet) Y ⟨H,Er⟩) ?_
 refine Em Y (El (ar Y Y) (El (ar Y Y) ?_))
 refine aG (T:=37) Y (ltN Y) (fun b6 => ?_)
 refine aA 0 Y Y Y Y Y (leN Y) Y (En Y (Ep (aa (ae (ae (ai (El (ak 0 Y Y Y) ?_)))))))
 refine El (am (hsg) Y ⟨H,Er⟩) ?_
 refine El (sF (by assumption) (cm Y Y)) (Ep (aa (aB Y (az (aa (ae (ai (El (aQ 1 Y Y) (El (aj Y) ?_)))))))))
 refine El (ak 1 Y Y Y) (Em Y (gm Y Y Y Y (stB Y Y Y (BuildK.cons Y Y Y (BuildK.cons Y Y Y (BuildK.cons Y Y Y (BuildK.nil ?_)))))))
 refine El (am (hst) Y ⟨H,H,Er⟩) ?_
 refine Em Y (El (ar Y Y) (El (ar Y Y) ?_))
 refine bj (T:=30) Y Y Y (fun b8 => ?_)
 refine aY 0 Y Y Y Y (En Y (Ep (aa (ae (ai (El (aQ 0 Y Y) (El (aj Y) (El (ak 2 Y Y Y) ?_))))))))
 refine El (am (hmi) Y ⟨H,H,Er⟩) ?_
 refine aG (T:=37) Y (ltN Y) (fun b10 => ?_)
 refine aA 0 Y Y Y Y Y (leN Y) Y (Ep (aa (ae (a8 5 a4 Z S ?_))))
 refine El (am (jm _ X X) Y ⟨H,Er⟩) ?_
 refine El (ak 0 Y Y Y) (El (ak 0 Y Y Y) ?_)
 refine El (am (hm1) Y ⟨H,H,Er⟩) ?_
 refine El (am (hm2) Y ⟨H,H,Er⟩) ?_
 refine Ep (aA 0 Y Y Y Y Y (leN Y) Y (Ep (aa (ae (ai (El (ak 2 Y Y Y) ?_))))))
 refine El (am (hpr) Y ⟨H,Er⟩) ?_
 refine aG (T:=44) Y (ltN Y) (fun b11 => ?_)
 refine aA 0 Y Y Y Y Y (leN Y) Y (Ep (aa (ae ?_)))
 refine xU a4 Z Z (fun a1 w1 hS1 => ?_)
 refine ux (fun B=>aj Y) Y Y ?_
 refine ux (fun B=>ak 4 Y Y Y) Y Y ?_
 refine ux (fun B=>lj w1.heap.size n Y Y Y Y Y Y Y ?_) Y Y ?_
 ·omega
 refine uxk (jm _ X X) Y ⟨H,Er⟩ Y ?_
 refine ua Y (ua Y (us Y (us Y ?_)))
 refine RunU.nil (fun γ a2 w2 hS2 hx hk2 => ?_)
 obtain ⟨bs,hS3⟩:=xl (t1:=13) (t2:=12) (p:=γ 13) (q:=γ 12) (T1:=37) (T2:=33) (m:=2) (n:=n) (ψ:=aL 1)
  (Γk := [(1,bA n b),(2,one (.pointer (some ⟨b2,0,none⟩))),(10,one (.pointer (some ⟨b10,0,none⟩))),(11,one (.pointer (some ⟨b11,0,none⟩)))])
  hS1 Y hS2 hx hk2 (.cons Y Z (.cons Y Z (.cons Y Z (.cons Y Z .nil)))) Y Y (fun v h b c h1 h2 h3 h4=>xm h1 h2 h3 h4)
 generalize γ 13=b13 at hS3
 generalize γ 12=b12 at hS3
 refine xV ?_ hS3
 clear hS3 hS2 hx hk2 hS1
 refine aa (ae (ae (ai (El (aQ 7 Y Y) (Em Y (El (ak 3 Y Y Y) ?_))))))
 refine El (am (hdg) Y ⟨H,H,H,Er⟩) ?_
 refine Ep (aa (au ?_))
 refine sY (σ:=List (Nat→Int)) hit (fun s => [aP b13 37 2 [(0, .agg 2,aL ((p:Int)^s.length))],aP b12 33 1 [(0, .one,one (slV (some bs) n n))],aI (some bs) 37 (.agg 2) n n (fun q=>aL (smL p s q)),aP b11 44 1 [(0, .one,one (.int .u64 (p:Nat)))],aP b10 37 2 [(0, .agg 2,aL lim)],aP b2 30 3 [(0, .one,one (.int .i64 (n:Nat))),(1, .one,one (.int .i64 (n:Nat))),(2, .one,slT .one n (fun i=>bA n (F i)))]])
  (fun pre s=>s=pre∧((p^pre.length:Nat):Int)≤lim+1) (fun e pre s=>e=some 0∧gr p n F b s∧lim<((p^s.length:Nat):Int)∧p^s.length≤2^800∧0<s.length) [] Y Y (fun pre s h => ?_) ⟨rfl,?_⟩
  (.keep Bz (.keep Ek (.keep (ee fun q _=>xn) (.keep Ek (.keep Ek (.drop (.drop (.keep Ek (SubM.nilR _))))))))) Y Y (by simp [f8,gl])
  (fun l W pre x s hs hgo => ?_) (fun pre s D hs=>absurd hs.1 (by simp)) (fun id pre s D hs => ?_)
 ·have:=Dj hp2 (zL hlim hL h.2)
  clear hL hLL
  omega
 ·show ((p^([]:List (Nat→Int)).length:Nat):Int)≤lim+1
  have h0:0≤(L:Int)*(L:Int):=Int.mul_nonneg (Int.natCast_nonneg _) (Int.natCast_nonneg _)
  show ((1:Nat):Int)≤lim+1
  omega
 ·obtain ⟨rfl,hl⟩:=hs
  have hP:=zL hlim hL hl
  have hP2:=BA hP hp
  have hsm:=rm hp2 s.length s Y hgo.init
  have hsm2:=rm hp2 (s ++ [x]).length (s ++ [x]) Y hgo
  have hxx:=hgo.last hp2
  have ePn:(p:Int)^s.length=((p^s.length:Nat):Int):=(Int.natCast_pow p s.length).symm
  have hpm:=eY ((p:Int)^s.length) (p:Int) (eA (n:=762) (by rw [ePn,Int.natAbs_natCast]; exact hP) S) (cA (n:=2147483648) (by rw [Int.natAbs_natCast]; exact Nat.le_of_lt hp) U)
  have hcm:=gz ((p:Int)^s.length*(p:Int)) lim
  have hcg:=Dk (x:=(p:Int)^s.length*(p:Int)) (y:=lim)
  have hof:=jm (p:Int) (by clear hL hLL hP hP2;omega) (by clear hL hLL hP hP2;omega)
  refine au (ae (ae (ai (Em Y (El (aW Y) (Em Y (Ep (aa (au ?_)))))))))
  refine cp (Γ' := [(10,_),(11,_),(12,_),(13,_),(61,_),(62,_),(63,_)]) Eg (SubM.refl _) ?_
  refine bD (σ:=Nat) (Γk := [(10,_),(11,_),(12,_),(13,_),(61,_),(62,_)]) Eg (fun j => [(63,one (.int .i64 (j:Nat)))]) (fun j M0=>(M0.set 2 (aI (some bs) 37 (.agg 2) n n (fun q=>if q<j then aL (smL p (s ++ [x]) q) else aL (smL p s q))))) (fun j=>j≤n) (fun j=>n - j) (0) (Nat.zero_le _) Eh (.keep Ek (.keep Ek (.keep Ek (.keep Ek (.keep Ek (.keep Ek (.nil))))))) (fun j hj => ?_)
  refine bU (Γ' := [(63,_),(10,_),(11,_),(12,_),(13,_),(61,_),(62,_)]) (M' := [_,_,_,_,_,_]) Y Y ?_
  by_cases hj2:j<n
  ·have hmu:=eY ((p:Int)^s.length) (x j) (eA (n:=762) (by rw [ePn,Int.natAbs_natCast]; exact hP) S) (cA (n:=2147483648) (by have:=hxx j;clear hL hLL hP hP2;omega) U)
   have hsn:=oE (p:=p) (pre:=s) (x:=x) (j:=j)
   have had:=j7 (smL p s j) ((p:Int)^s.length*x j) (eA (n:=762) (Nat.le_trans (show (smL p s j).natAbs≤p^s.length by have:=hsm j;rw [ePn] at this;clear hL hLL hP hP2;omega) hP) S)
    (eA (n:=800) (Nat.le_trans (show ((p:Int)^s.length*x j).natAbs≤p^s.length*p by
     rw [Int.natAbs_mul,ePn,Int.natAbs_natCast]
     exact Nat.mul_le_mul_left _ (by have:=hxx j;clear hL hLL hP hP2;omega)) hP2) S)
   rw [← hsn] at had
   refine ae (ai (El (sT X (a7 Y Y)) (Ep (aa (ae (aH Y (az (aa (ae ?_)))))))))
   refine au (ae (ai (Em Y (El (aC Y Y X) (El (aM Y) ?_)))))
   refine aG (T:=37) Y (ltN Y) (fun b16 => ?_)
   refine En Y (aA 0 Y Y Y Y Y (leN Y) Y (Ep (aa (a8 10 a4 Z S (El (ak 2 Y Y Y) (Em Y (El (ak 2 Y Y Y) (Em Y (El (ao Y Y X) ?_)))))))))
   refine El (be 3 Y Y X) (El (ak 1 Y Y Y) (El (ak 0 Y Y Y) ?_))
   refine El (am (hmu) Y ⟨H,H,Er⟩) ?_
   refine El (am (had) Y ⟨(kf (if_neg (Nat.lt_irrefl j))),H,Er⟩) ?_
   refine Ep (El (ao Y Y X) ?_)
   (refine aw 3 Y Y Y ?_ Y ?_;omega)
   refine Ep (aD (aa (ai (El (bI _ 1 Y Y X) (Em Y (Ep ?_))))))
   refine aR (j+1) (by assumption) X Eh (.drop (.keep Ek (.keep Ek (.keep (zM (G:=fun q=>aL (smL p (s ++ [x]) q)) (Ef:=fun q=>aL (smL p s q))) (.keep Ek (.keep Ek (.keep Ek (.nil))))))))
  ·have hjn:j=n:=by clear hL hLL hP hP2;omega
   have e3:p^(s ++ [x]).length=p^s.length*p:=by rw [List.length_append,show s.length + [x].length=s.length+1 from rfl,Nat.pow_succ]
   by_cases hgt:lim<(p:Int)^s.length*(p:Int)
   ·refine ae (ai (El (sF X (a7 Y Y)) (Ep (aa (ae (aB Y (aX (av (av ?_)))))))))
    refine aE (aa (ae (a8 5 a4 Z S (El (ak 0 Y Y Y) (El (ak 3 Y Y Y) (El (dG Y X X) ?_))))))
    refine El (am (hof) Y ⟨H,Er⟩) ?_
    refine El (am (hpm) Y ⟨H,H,Er⟩) ?_
    refine Ep (aA 0 Y Y Y Y Y (leN Y) Y (Ep (aa (ae (ai (El (ak 0 Y Y Y) (El (ak 4 Y Y Y) ?_)))))))
    refine El (am (hcm) Y ⟨H,H,Er⟩) ?_
    refine El (sT X (db Y Y)) (Ep (aa (aH Y (aX (c9 Y ?_)))))
    exact rS (s ++ [x]) ⟨rfl,hgo,by rw [e3,Int.natCast_mul, ← ePn]; exact hgt,by rw [e3]; exact hP2,by rw [List.length_append]; exact Nat.le_add_left _ _⟩ (.keep (vR (by rw [List.length_append]; rfl)) (.keep Ek (.keep (bg fun q hq=>if_pos (by rw [hjn]; exact hq)) (SubM.refl _))))
   ·refine ae (ai (El (sF X (a7 Y Y)) (Ep (aa (ae (aB Y (aX (av (av ?_)))))))))
    refine aE (aa (ae (a8 5 a4 Z S (El (ak 0 Y Y Y) (El (ak 3 Y Y Y) (El (dG Y X X) ?_))))))
    refine El (am (hof) Y ⟨H,Er⟩) ?_
    refine El (am (hpm) Y ⟨H,H,Er⟩) ?_
    refine Ep (aA 0 Y Y Y Y Y (leN Y) Y (Ep (aa (ae (ai (El (ak 0 Y Y Y) (El (ak 4 Y Y Y) ?_)))))))
    refine El (am (hcm) Y ⟨H,H,Er⟩) ?_
    refine El (sF X (db Y Y)) (Ep (aa (aB Y (az (aD ?_)))))
    exact nS (s ++ [x]) ⟨rfl,by rw [e3,Int.natCast_mul, ← ePn]; clear hL hLL hP hP2;omega⟩ (.keep (vR (by rw [List.length_append]; rfl)) (.keep Ek (.keep (bg fun q hq=>if_pos (by rw [hjn]; exact hq)) (SubM.refl _))))
 ·obtain ⟨hid,hg,hlt,hle,h0⟩:=hs
  cases hid
  have hsm:=rm hp2 s.length s Y hg
  have hsum:=hg.sum (show 0<p by clear hL hLL hle;omega)
  have ePn:(p:Int)^s.length=((p^s.length:Nat):Int):=(Int.natCast_pow p s.length).symm
  have hm2:2≤p^s.length:=Nat.le_trans hp2 (Nat.le_self_pow (by clear hL hLL hle;omega) p)
  obtain ⟨r,hr1,hr2⟩:=Di ((p^s.length - 1) / 2)
  have hra : ∀ i,i<n→Ok Tryz.prog 60 [aL (smL p s i),aL ((p:Int)^s.length)] (bv [cD (Eb i),one (.int .i64 0)]):=fun i hi=>by
   have h:=s6 (smL p s i) (p^s.length) r hm2 hle (Nat.le_trans (show (smL p s i).natAbs≤p^s.length by have:=hsm i;rw [ePn] at this;clear hL hLL hle;omega) hle) hr1 hr2
   rw [hX s.length (smL p s) (by rw [← Int.natCast_mul] at hlim;clear hL hLL hle;omega) hsum i hi r hr1 hr2, ← ePn] at h
   exact h
  clear hsm hsum hg hlt hm2 hr1 hr2 ePn
  refine aE (aa (ae (ai (El (aj Y) (El (ak 6 Y Y Y) ?_)))))
  refine bV n n Y Y Y Y (Nat.le_refl _) Y Y (by clear hL hLL hle;omega) Y Y (fun bd => ?_)
  clear hL hLL hle
  refine En Y (Ep (aa (ae (ae (ai (Em Y (El (cv Y) (Em Y (Ep ?_)))))))))
  refine aa (au (cp (Γ' := [(12,_),(13,_),(17,_),(93,_),(94,_)]) Eg (SubM.refl _) ?_))
  refine bD (σ:=Nat) (Γk := [(12,_),(13,_),(17,_),(93,_)]) Eg (fun i => [(94,one (.int .i64 (i:Nat)))]) (fun i M0=>(M0.set 0 (aI (some bd) 58 (.agg 4) n n (fun q=>if q<i then cD (Eb q) else bJ)))) (fun i=>i≤n) (fun i=>n - i) (0) (Nat.zero_le _) Eh (.keep (ee fun q hq=>by rw [if_neg (Nat.not_lt_zero q)]; exact jE _) (.keep Ek (.keep Ek (.keep Ek (.keep Ek (.keep Ek (.keep Ek (.keep Ek (.nil))))))))) (fun i hi => ?_)
  refine bU (Γ' := [(94,_),(12,_),(13,_),(17,_),(93,_)]) (M' := [_,_,_,_,_,_,_,_]) Y Y ?_
  by_cases hi2:i<n
  ·have hri:=hra i hi2
   refine ae (ai (El (sT X (a7 Y Y)) (Ep (aa (ae (aH Y (az (aa (ae ?_)))))))))
   refine au (ae (ai (Em Y (En Y (Ep (aa ?_))))))
   apply iC (Γ1 := [(12,_),(13,_),(17,_),(18,_),(93,_),(94,_)]) (M1 := [_,_,_,_,_,_,_,_]) 11 3 [] [10] a4 Z S
   ·refine Em Y (Em Y (El (ak 3 Y Y Y) (Em Y (El (ao Y Y X) (El (be 4 Y Y X) (El (ak 2 Y Y Y) ?_))))))
    refine El (am (hra _ (by assumption)) Y ⟨H,H,Er⟩) ?_
    refine Em Y (El (ar Y Y) (El (ar Y Y) (Ep ?_)))
    refine nT (Γe := [(12,_),(13,_),(17,_),(18,_),(93,_),(94,_),(97,_),(98,_),(99,_),(106,_)]) (rem := [11,12]) Y Ej Y ?_
    refine an (rem' := [12]) (i:=11) Z Y Y ?_ (iB.cons Y (StepG.plain (ar Y Y) Y Y (ltN Y)) Y iB.nil)
    refine El (ao Y Y X) (Ep ?_)
    refine ⟨rfl,?_⟩
    refine an (rem' := []) (i:=12) Z Y Y ?_ (iB.cons Y (StepG.plain (ar Y Y) Y Y (ltN Y)) Y iB.nil)
    (refine aw 0 Y Y Y ?_ Y ?_;omega)
    refine Ep ?_
    refine ⟨rfl,?_⟩
    refine aT Ej (SubM.refl _) (iB.cons Y (StepG.plain (ar Y Y) Y Y (ltN Y)) Y iB.nil)
   ·refine aD (aa (ai (El (bI _ 1 Y Y X) (Em Y (Ep ?_)))))
    refine aR (i+1) X X Eh (.keep (oD (G:=fun q=>cD (Eb q))) (.keep Ek (.keep Ek (.keep Ek (.keep Ek (.keep Ek (.keep Ek (.keep Ek (.nil)))))))))
  ·have hin:i=n:=by omega
   refine ae (ai (El (sF X (a7 Y Y)) (Ep (aa (ae (aB Y (aX (av (av ?_)))))))))
   refine aE (aa (ae (ai (Em Y (En Y (En Y (Ep (aa (aF ?_)))))))))
   refine gI (dJ.refl _) (.keep (bg (ψ:=fun q=>cD (Eb q)) (fun q hq=>by rw [if_pos X])) (SubM.refl _)) ?_
   refine fl (.ofPerm (List.Perm.swap _ _ _)) (nn (cq (t:=4) (i:=0) Y Y ?_))
   refine cT Tryz.results13 (.tmp Y H) (.tmp Y H)
end Tor
end
section
namespace Tor.Lin
def chN:Nat→Nat→Nat
 | _, 0 => 1
 | 0, _ + 1 => 0
 | n + 1, k + 1 => chN n k + chN n (k + 1)
theorem l6 (n:Nat):chN n 0=1:=by cases n <;> rfl
theorem kg : ∀ {n k:Nat},n<k→chN n k=0
 | 0, _ + 1, _ => rfl
 | n + 1, k + 1, h => by rw [chN, kg (n := n) (k := k) X, kg (n := n) (k := k + 1) X]
theorem s9 : ∀ n,chN n n=1
 | 0 => rfl
 | n + 1 => by rw [chN, s9 n, kg (Nat.lt_succ_self n)]
theorem je : ∀ n k,(k+1)*chN (n+1) (k+1)=(n+1)*chN n k
 | 0, 0 => rfl
 | 0, k + 1 => by rw [kg (n := 0 + 1) (k := k + 1 + 1) X, kg (n := 0) (k := k + 1) X]; simp
 | n + 1, 0 => by
  have:=je n 0
  rw [l6] at this ⊢
  rw [chN,l6]
  omega
 | n + 1, k + 1 => by
  have h1:=je n k
  have h2:=je n (k+1)
  rw [show chN (n+2) (k+2)=chN (n+1) (k+1)+chN (n+1) (k+2) from rfl,Nat.mul_add,h2]
  rw [show (k+1+1)*chN (n+1) (k+1)=(k+1)*chN (n+1) (k+1)+chN (n+1) (k+1) from Nat.succ_mul _ _,h1]
  rw [show (n+1+1)*chN (n+1) (k+1)=(n+1)*chN (n+1) (k+1)+chN (n+1) (k+1) from Nat.succ_mul _ _]
  rw [show chN (n+1) (k+1)=chN n k+chN n (k+1) from rfl,Nat.mul_add]
  omega
def jf (n x:Nat):Nat→Nat
 | 0 => 0
 | m + 1 => jf n x m + chN n m * x ^ m
theorem p7 (n x:Nat) : ∀ m,jf (n+1) x (m+1)=x*jf n x m+jf n x (m+1)
 | 0 => by simp [jf, l6]
 | m + 1 => by
  have:=p7 n x m
  rw [jf,this]
  rw [show jf n x (m+1+1)=jf n x (m+1)+chN n (m+1)*x^(m+1) from rfl,show chN (n+1) (m+1)=chN n m+chN n (m+1) from rfl]
  rw [show x*jf n x (m+1)=x*jf n x m+x*(chN n m*x^m) from Nat.mul_add _ _ _,Nat.add_mul]
  rw [show x*(chN n m*x^m)=chN n m*x^(m+1) by rw [Nat.pow_succ,Nat.mul_left_comm,Nat.mul_comm x]]
  omega
theorem zN (n x:Nat):jf n x (n+2)=jf n x (n+1):=by
 rw [jf,kg X]; simp
theorem tb (x:Nat) : ∀ n,jf n x (n+1)=(x+1)^n
 | 0 => by simp [jf, chN]
 | n + 1 => by
  rw [p7,zN,tb x n,Nat.pow_succ,Nat.mul_comm ((x+1)^n),Nat.add_mul,Nat.one_mul]
def Pr (p:Nat):Prop:=2≤p ∧ ∀ d,d∣p→d=1∨d=p
theorem Pr.coprime {p a:Nat} (hp:Pr p) (h : ¬ p∣a):Nat.Coprime p a:=by
 rcases hp.2 _ (Nat.gcd_dvd_left p a) with h1 | h1
 ·exact h1
 ·exact absurd (h1▸Nat.gcd_dvd_right p a) h
theorem Pr.mul {p a b:Nat} (hp:Pr p) (h:p∣a*b):p∣a∨p∣b:=by
 by_cases ha:p∣a
 ·exact .inl ha
 ·exact .inr ((hp.coprime ha).dvd_of_dvd_mul_left h)
theorem Pr.of_trial {p:Nat} (h2:2≤p) (ht:mY p):Pr p:=by
 refine ⟨h2,fun d hd => ?_⟩
 obtain ⟨e,he⟩:=hd
 have hd0:0<d:=Nat.pos_of_ne_zero fun h=>by rw [h,Nat.zero_mul] at he;omega
 have he0:0<e:=Nat.pos_of_ne_zero fun h=>by rw [h,Nat.mul_zero] at he;omega
 by_cases h1:d=1
 ·exact .inl h1
 by_cases h3:e=1
 ·exact .inr (by rw [he,h3,Nat.mul_one])
 exfalso
 rcases Nat.le_total d e with hle | hle
 ·exact ht d X (by rw [he]; exact Nat.mul_le_mul_left d hle) (by rw [he]; exact Nat.mul_mod_right d e)
 ·exact ht e X (by rw [he]; exact Nat.mul_le_mul_right e hle) (by rw [he]; exact Nat.mul_mod_left d e)
theorem Pr.choose {p k:Nat} (hp:Pr p) (h0:0<k) (hk:k<p):p∣chN p k:=by
 obtain ⟨q,rfl⟩ : ∃ q,p=q+1:=⟨p - 1,by have:=hp.1;omega⟩
 obtain ⟨j,rfl⟩ : ∃ j,k=j+1:=⟨k - 1,by omega⟩
 have h:=je q j
 rcases hp.mul (a:=j+1) (b:=chN (q+1) (j+1)) (h▸Nat.dvd_mul_right _ _) with h1 | h1
 ·exact absurd (Nat.le_of_dvd X h1) X
 ·exact h1
theorem Pr.bin {p:Nat} (hp:Pr p) (x:Nat) : ∀ m,m<p → ∃ t,jf p x (m+1)=1+p*t
 | 0, _ => ⟨0, by simp [jf, l6]⟩
 | m + 1, h => by
  obtain ⟨t,ht⟩:=Pr.bin hp x m X
  obtain ⟨c,hc⟩:=hp.choose (k:=m+1) X h
  exact ⟨t+c*x^(m+1),by rw [jf,ht,hc,Nat.mul_add,Nat.mul_assoc]; omega⟩
theorem Pr.frob {p:Nat} (hp:Pr p) (x:Nat) : ∃ t,(x+1)^p=x^p+1+p*t:=by
 obtain ⟨t,ht⟩:=hp.bin x (p - 1) (by have:=hp.1;omega)
 refine ⟨t,?_⟩
 rw [show p - 1+1=p by have:=hp.1;omega] at ht
 rw [← tb,jf,ht,s9]; omega
theorem Pr.fermat {p:Nat} (hp:Pr p) : ∀ x,x^p % p=x % p
 | 0 => by rw [Nat.zero_pow (by have := hp.1; omega)]
 | x + 1 => by
  obtain ⟨t,ht⟩:=hp.frob x
  rw [ht,Nat.add_mul_mod_self_left,Nat.add_mod,Pr.fermat hp x, ← Nat.add_mod]
theorem Pr.inverse {p a:Nat} (hp:Pr p) (h : ¬ p∣a):a*a^(p - 2) % p=1:=by
 have h2:=hp.1
 have hf:=hp.fermat a
 have e:a^p=a*(a*a^(p - 2)):=by
  rw [← Nat.mul_assoc, ← Nat.pow_two, ← Nat.pow_add]; congr 1;omega
 rw [e] at hf
 have hd:(p:Int)∣(a:Int)*((a*a^(p - 2):Nat) - 1:Int):=by
  rw [Int.mul_sub,Int.mul_one, ← Int.natCast_mul]
  exact Int.dvd_of_emod_eq_zero (Int.emod_eq_emod_iff_emod_sub_eq_zero.1 (by exact_mod_cast hf))
 have hx:1≤a*a^(p - 2):=by
  have ha:0<a:=Nat.pos_of_ne_zero fun e=>h (e▸Nat.dvd_zero p)
  exact Nat.mul_pos ha (Nat.pow_pos ha)
 have hd:p∣a*(a*a^(p - 2) - 1):=by
  rw [show ((a*a^(p - 2):Nat) - 1:Int)=((a*a^(p - 2) - 1:Nat):Int) by omega, ← Int.natCast_mul] at hd
  exact Int.natCast_dvd_natCast.1 hd
 obtain ⟨t,ht⟩:=(hp.coprime h).dvd_of_dvd_mul_left hd
 rw [show a*a^(p - 2)=1+p*t by omega,Nat.add_mul_mod_self_left]
 exact Nat.mod_eq_of_lt X
end Tor.Lin
end
section
namespace Tor
open Go Go.RowKit Go.Proofs
theorem BB (n d:Int) (h:d≠0):(Rat.divInt n d).den≤d.natAbs:=by
 rw [Rat.den_divInt,if_neg h]
 exact Nat.div_le_self _ _
theorem BC (n d:Int):(Rat.divInt n d).num.natAbs≤n.natAbs:=by
 rw [Rat.num_divInt]
 refine Nat.le_trans (Int.natAbs_ediv_le_natAbs _ _) ?_
 rw [Int.natAbs_mul]
 have:d.sign.natAbs≤1:=by rw [Int.natAbs_sign]; split <;> omega
 exact Nat.le_trans (Nat.mul_le_mul_right _ this) X
theorem tc (a b:Rat):a+b=Rat.divInt (a.num*b.den+b.num*a.den) (a.den*b.den):=by
 rw [Rat.add_def', ← Rat.divInt_ofNat]; simp
theorem td (a b:Rat):a*b=Rat.divInt (a.num*b.num) (a.den*b.den):=by
 rw [Rat.mul_def', ← Rat.divInt_ofNat]; simp
theorem xq (a:Rat):Rat.divInt a.num a.den=a:=by
 rw [Rat.divInt_ofNat,Rat.mkRat_self]
theorem te (a b:Rat):a / b=Rat.divInt (a.num*b.den) (a.den*b.num):=by
 rw [Rat.div_def,Rat.inv_def]
 conv=>lhs;rw [← xq a]
 rw [Rat.divInt_mul_divInt]
def qz (n:Nat) (q:Rat):Prop:=lz n q.num∧lz n (q.den:Int)
theorem qz.mono {n m:Nat} {q:Rat} (h:qz n q) (hn:n≤m):qz m q:=⟨h.1.mono hn,h.2.mono hn⟩
theorem uG {n:Nat} {a d:Int} (ha:lz n a) (hd:lz n d) (h:d≠0):qz n (Rat.divInt a d):=⟨vI ha (BC a d),vI hd (by rw [Int.natAbs_natCast]; exact BB a d h)⟩
theorem zO {n:Nat} {a:Int} (hn:1≤n) (h:lz n a):qz n (a:Rat):=⟨by rw [Rat.num_intCast]; exact h,by rw [Rat.den_intCast]; exact uo hn⟩
theorem fE (q:Rat):(q.den:Int)≠0:=by have:=q.den_nz;omega
theorem rn {n:Nat} {q:Rat} (h:qz n q):qz n (-q):=⟨by rw [Rat.neg_num]; exact zg h.1,by rw [Rat.neg_den]; exact h.2⟩
theorem Dl {n m:Nat} {p q:Rat} (hp:qz n p) (hq:qz m q):qz (n+m+1) (p+q):=by
 rw [tc]
 have h1:=d8 hp.1 hq.2
 have h2:=d8 hq.1 hp.2
 rw [Nat.add_comm m n] at h2
 exact uG (zf h1 h2) ((d8 hp.2 hq.2).mono X) (Int.mul_ne_zero (fE p) (fE q))
theorem Dm {n m:Nat} {p q:Rat} (hp:qz n p) (hq:qz m q):qz (n+m+1) (p - q):=by
 rw [Rat.sub_eq_add_neg]; exact Dl hp (rn hq)
theorem uH {n m:Nat} {p q:Rat} (hp:qz n p) (hq:qz m q):qz (n+m) (p*q):=by
 rw [td]
 exact uG (d8 hp.1 hq.1) (d8 hp.2 hq.2) (Int.mul_ne_zero (fE p) (fE q))
theorem ro {n m:Nat} {p q:Rat} (hp:qz n p) (hq:qz m q) (h:q≠0):qz (n+m) (p / q):=by
 rw [te]
 exact uG (d8 hp.1 hq.2) (d8 hp.2 hq.1) (Int.mul_ne_zero (fE p) (fun e=>h (Rat.num_eq_zero.1 e)))
attribute [local irreducible] J PJ aJ one slT bQ bC bv exT bZ eP aP aI slV VT.le Ret bJ xO
attribute [local irreducible] aL
theorem oH (a:Int):Ok Tryz.prog 27 [aL a] (cD (a:Rat)):=by
 have h1:=gZ 1 S S
 unfold cD
 rw [Rat.num_intCast,Rat.den_intCast]
 refine Ok.enter Tryz.func27 Y Tryz.ntmps27 Y (fun w O => ?_)
 refine ae (ai ?_)
 refine gL Y Y (ltN Y) (fun b1 => ?_)
 refine bj (T:=58) Y Y Y (fun b2 => ?_)
 refine Ep (aa (ae (a8 2 a4 Z S (El (ak 1 Y Y Y) ?_))))
 refine El (am (h1) Y ⟨H,Er⟩) ?_
 refine Ep (stB Y Y Y (BuildK.cons Y Y Y (BuildK.cons Y Y Y (BuildK.nil (aY 0 Y Y Y Y (Ep (aa (aF ?_))))))))
 refine aV Tryz.results27 (.cellW 0 Y Y (iS Y Y))
theorem jO (n:Int) (h1 : -9223372036854775808≤n) (h2:n≤9223372036854775807):Ok Tryz.prog 40 [one (.int .i64 n)] (cD (n:Rat)):=by
 have ho:=gZ n h1 h2
 refine Ok.enter Tryz.func40 Y Tryz.ntmps40 Y (fun w O => ?_)
 refine ae (ai ?_)
 refine bj (T:=58) Y Y Y (fun b2 => ?_)
 refine Ep (aa (ae (ai (Em Y ?_))))
 refine El (am (ho) Y ⟨H,Er⟩) ?_
 refine El (am (oH _) Y ⟨H,Er⟩) ?_
 refine aY 0 Y Y Y Y (Ep (aa (aF ?_)))
 refine aV Tryz.results40 (.cellW 0 Y Y H)
theorem mJ (q:Rat):Ok Tryz.prog 111 [cD q] (one (.int .i64 (c6 q.num))):=by
 unfold cD dH
 refine Ok.enter Tryz.func111 Y Tryz.ntmps111 Y (fun w O => ?_)
 refine ae (ai ?_)
 refine aS Y Y (ltN Y) (fun b1 => ?_)
 refine En Y (Ep (aa (ae (ai (El (aj Y) (El (ak 0 Y Y Y) ?_))))))
 refine El (am (dq _) Y ⟨H,Er⟩) ?_
 refine En Y (Ep (aa (aF ?_)))
 refine aV Tryz.results111 (.tmp Y H)
theorem tf (q:Rat) (h:bm q.num):Ok Tryz.prog 115 [cD q] (cD (-q)):=by
 have hn:=iP q.num h
 rw [← Rat.neg_num] at hn
 unfold cD dH
 refine Ok.enter Tryz.func115 Y Tryz.ntmps115 Y (fun w O => ?_)
 refine ae (ai ?_)
 refine aS Y Y (ltN Y) (fun b1 => ?_)
 refine bj (T:=58) Y Y Y (fun b2 => ?_)
 refine Ep (aa (ae (a8 6 a4 Z S (El (aj Y) (El (ak 1 Y Y Y) ?_)))))
 refine El (am (hn) Y ⟨H,Er⟩) ?_
 refine El (aj Y) (El (ak 1 Y Y Y) (stB Y Y Y (BuildK.cons Y Y Y (BuildK.cons Y Y Y (BuildK.nil (Ep (aY 0 Y Y Y Y (Ep (aa ?_)))))))))
 refine aF ?_
 refine aV Tryz.results115 (.cellW 0 Y Y (iS Y (by rw [Rat.neg_den])))
theorem rp (n d:Int) (hd:d≠0) (hn:dw n) (hds:dw d):Ok Tryz.prog 68 [aL n,aL d] (cD (Rat.divInt n d)):=by
 have h:=vB n d hd hn hds
 unfold cD dH at *
 refine Ok.enter Tryz.func68 Y Tryz.ntmps68 Y (fun w O => ?_)
 refine ae (ai ?_)
 refine gL Y Y (ltN Y) (fun b2 => ?_)
 refine gL Y Y (ltN Y) (fun b3 => ?_)
 refine bj (T:=58) Y Y Y (fun b4 => ?_)
 refine Ep (aa (ae (ai (El (ak 2 Y Y Y) (El (ak 1 Y Y Y) ?_)))))
 refine El (am (h) Y ⟨H,H,Er⟩) ?_
 refine Em Y (El (ar Y Y) (El (ar Y Y) ?_))
 refine bj (T:=58) Y Y Y (fun b5 => ?_)
 refine aY 0 Y Y Y Y (En Y (Ep (aa (ae (ai (El (aQ 0 Y Y) (aY 1 Y Y Y Y (Ep (aa ?_)))))))))
 refine aF ?_
 refine aV Tryz.results68 (.cellW 1 Y Y H)
theorem zP (p q:Rat) (n m:Nat) (hp:qz n p) (hq:qz m q) (h:n+m+1≤1099511627700):Ok Tryz.prog 42 [cD p,cD q] (cD (p+q)):=by
 have m1:=d8 hp.1 hq.2
 have m2:=d8 hq.1 hp.2
 have m3:=d8 hp.2 hq.2
 rw [Nat.add_comm m n] at m2
 have c1:=d6 p.num q.den (hp.1.small X) (hq.2.small X)
 have c2:=d6 q.num p.den (hq.1.small X) (hp.2.small X)
 have c3:=d6 (p.den:Int) q.den (hp.2.small X) (hq.2.small X)
 have c4:=iN (p.num*q.den) (q.num*p.den) (m1.small X) (m2.small X)
 have c5:=rp (p.num*q.den+q.num*p.den) (p.den*q.den) (Int.mul_ne_zero (fE p) (fE q)) ((zf m1 m2).small0 h) (m3.small0 X)
 rw [tc]
 unfold cD dH at *
 refine Ok.enter Tryz.func42 Y Tryz.ntmps42 Y (fun w O => ?_)
 refine ae (ai ?_)
 refine aS Y Y (ltN Y) (fun b2 => ?_)
 refine aS Y Y (ltN Y) (fun b3 => ?_)
 refine bj (T:=58) Y Y Y (fun b4 => ?_)
 refine Ep (aa (ae ?_))
 refine ep a4 Z Z ?_
 refine ux (fun B=>aj Y) Y Y ?_
 refine ux (fun B=>ak 2 Y Y Y) Y Y ?_
 refine ux (fun B=>aj Y) Y Y ?_
 refine ux (fun B=>ak 1 Y Y Y) Y Y ?_
 refine uxk (c1) Y ⟨H,H,Er⟩ Y ?_
 refine ux (fun B=>aj Y) Y Y ?_
 refine ux (fun B=>ak 1 Y Y Y) Y Y ?_
 refine ux (fun B=>aj Y) Y Y ?_
 refine ux (fun B=>ak 2 Y Y Y) Y Y ?_
 refine uxk (c2) Y ⟨H,H,Er⟩ Y ?_
 refine uxk (c4) Y ⟨H,H,Er⟩ Y ?_
 refine ua Y (us Y ?_)
 refine RunU.nil (fun γ => ?_)
 refine cK (M' := [_,_,_,_]) Y (aa (ae (a8 7 a4 Z S (El (ak 0 Y Y Y) (El (aj Y) (El (ak 3 Y Y Y) (El (aj Y) (El (ak 2 Y Y Y) ?_))))))))
 refine El (am (c3) Y ⟨H,H,Er⟩) ?_
 refine El (am (c5) Y ⟨H,H,Er⟩) ?_
 refine Ep (aY 1 Y Y Y Y (Ep (aa (aF ?_))))
 refine aV Tryz.results42 (.cellW 1 Y Y H)
theorem zQ (p q:Rat) (n m:Nat) (hp:qz n p) (hq:qz m q) (h:n+m+1≤1099511627700):Ok Tryz.prog 64 [cD p,cD q] (cD (p - q)):=by
 have c1:=tf q (hq.1.small X)
 have c2:=zP p (-q) n m hp (rn hq) h
 rw [← Rat.sub_eq_add_neg] at c2
 refine Ok.enter Tryz.func64 Y Tryz.ntmps64 Y (fun w O => ?_)
 refine ae (ai ?_)
 refine aS Y Y (ltN Y) (fun b2 => ?_)
 refine aS Y Y (ltN Y) (fun b3 => ?_)
 refine bj (T:=58) Y Y Y (fun b4 => ?_)
 refine Ep (aa (ae (a8 4 a4 Z S (El (aQ 2 Y Y) (El (aQ 1 Y Y) ?_)))))
 refine El (am (c1) Y ⟨H,Er⟩) ?_
 refine El (am (c2) Y ⟨H,H,Er⟩) ?_
 refine Ep (aY 0 Y Y Y Y (Ep (aa (aF ?_))))
 refine aV Tryz.results64 (.cellW 0 Y Y H)
theorem oI (p q:Rat) (n m:Nat) (hp:qz n p) (hq:qz m q) (h:n+m≤1099511627700):Ok Tryz.prog 26 [cD p,cD q] (cD (p*q)):=by
 have c1:=d6 p.num q.num (hp.1.small X) (hq.1.small X)
 have c2:=d6 (p.den:Int) q.den (hp.2.small X) (hq.2.small X)
 have c3:=rp (p.num*q.num) (p.den*q.den) (Int.mul_ne_zero (fE p) (fE q)) ((d8 hp.1 hq.1).small0 h) ((d8 hp.2 hq.2).small0 h)
 rw [td]
 unfold cD dH at *
 refine Ok.enter Tryz.func26 Y Tryz.ntmps26 Y (fun w O => ?_)
 refine ae (ai ?_)
 refine aS Y Y (ltN Y) (fun b2 => ?_)
 refine aS Y Y (ltN Y) (fun b3 => ?_)
 refine bj (T:=58) Y Y Y (fun b4 => ?_)
 refine Ep (aa (ae (a8 11 a4 Z S (El (aj Y) (El (ak 2 Y Y Y) (El (aj Y) (El (ak 1 Y Y Y) ?_)))))))
 refine El (am (c1) Y ⟨H,H,Er⟩) ?_
 refine El (aj Y) (El (ak 2 Y Y Y) (El (aj Y) (El (ak 1 Y Y Y) ?_)))
 refine El (am (c2) Y ⟨H,H,Er⟩) ?_
 refine El (am (c3) Y ⟨H,H,Er⟩) ?_
 refine Ep (aY 0 Y Y Y Y (Ep (aa (aF ?_))))
 refine aV Tryz.results26 (.cellW 0 Y Y H)
theorem zR (p q:Rat) (n m:Nat) (hp:qz n p) (hq:qz m q) (h:n+m≤1099511627700) (h0:q≠0):Ok Tryz.prog 75 [cD p,cD q] (bv [cD (p / q),one (.int .i64 0)]):=by
 have c1:=d6 p.num q.den (hp.1.small X) (hq.2.small X)
 have c2:=d6 (p.den:Int) q.num (hp.2.small X) (hq.1.small X)
 have c3:=vB (p.num*q.den) (p.den*q.num) (Int.mul_ne_zero (fE p) (fun e=>h0 (Rat.num_eq_zero.1 e))) ((d8 hp.1 hq.2).small0 h) ((d8 hp.2 hq.1).small0 h)
 rw [te]
 unfold cD dH at *
 refine Ok.enter Tryz.func75 Y Tryz.ntmps75 Y (fun w O => ?_)
 refine ae (ai ?_)
 refine aS Y Y (ltN Y) (fun b2 => ?_)
 refine aS Y Y (ltN Y) (fun b3 => ?_)
 refine bj (T:=58) Y Y Y (fun b4 => ?_)
 refine En Y (Ep (aa (ae (a8 13 a4 Z S (El (aj Y) (El (ak 2 Y Y Y) (El (aj Y) (El (ak 1 Y Y Y) ?_))))))))
 refine El (am (c1) Y ⟨H,H,Er⟩) ?_
 refine El (aj Y) (El (ak 2 Y Y Y) (El (aj Y) (El (ak 1 Y Y Y) ?_)))
 refine El (am (c2) Y ⟨H,H,Er⟩) ?_
 refine El (am (c3) Y ⟨H,H,Er⟩) ?_
 refine El (ar Y Y) (El (ar Y Y) (Ep (aY 0 Y Y Y Y (En Y (Ep (aa (aF ?_)))))))
 refine cT Tryz.results75 (.cellW 0 Y Y H) (.tmp Y H)
theorem p8 (p q:Rat) (n m:Nat) (hp:qz n p) (hq:qz m q) (h:n+m≤1099511627700) (h0:q≠0):Ok Tryz.prog 39 [cD p,cD q] (cD (p / q)):=by
 have c:=zR p q n m hp hq h h0
 unfold cD dH at *
 refine Ok.enter Tryz.func39 Y Tryz.ntmps39 Y (fun w O => ?_)
 refine ae (ai ?_)
 refine aS Y Y (ltN Y) (fun b2 => ?_)
 refine aS Y Y (ltN Y) (fun b3 => ?_)
 refine bj (T:=58) Y Y Y (fun b4 => ?_)
 refine Ep (aa (ae (ai (El (aQ 2 Y Y) (El (aQ 1 Y Y) ?_)))))
 refine El (am (c) Y ⟨H,H,Er⟩) ?_
 refine Em Y (El (ar Y Y) (El (ar Y Y) ?_))
 refine bj (T:=58) Y Y Y (fun b5 => ?_)
 refine aY 0 Y Y Y Y (En Y (Ep (aa (ae (ai (El (aQ 0 Y Y) (aY 1 Y Y Y Y (Ep (aa ?_)))))))))
 refine aF ?_
 refine aV Tryz.results39 (.cellW 1 Y Y H)
theorem xr (n d:Int) (hd:d≠0) (n1 : -9223372036854775808≤n) (n2:n≤9223372036854775807) (d1 : -9223372036854775808≤d) (d2:d≤9223372036854775807):Ok Tryz.prog 46 [one (.int .i64 n),one (.int .i64 d)] (cD (Rat.divInt n d)):=by
 have o1:=gZ n n1 n2
 have o2:=gZ d d1 d2
 have c:=rp n d hd (kb X) (kb X)
 refine Ok.enter Tryz.func46 Y Tryz.ntmps46 Y (fun w O => ?_)
 refine ae (ai ?_)
 refine bj (T:=58) Y Y Y (fun b4 => ?_)
 refine Ep (aa (ae (ae (ai (Em Y (El (sF (by assumption) (cm Y Y)) (Ep (aa (aB Y ?_)))))))))
 refine az (aa (ae (ai (Em Y ?_))))
 refine El (am (o1) Y ⟨H,Er⟩) ?_
 refine Em Y ?_
 refine El (am (o2) Y ⟨H,Er⟩) ?_
 refine El (am (c) Y ⟨H,H,Er⟩) ?_
 refine aY 0 Y Y Y Y (Ep (aa (aF ?_)))
 refine aV Tryz.results46 (.cellW 0 Y Y H)
theorem xt (n m:Nat) (l k:Nat→Rat) (hn:n≤1048576):Ok Tryz.prog 17 [slT (.agg 4) n (fun i=>cD (l i)),slT (.agg 4) m (fun i=>cD (k i))] (one (.bool (decide (n=m ∧ ∀ i,i<n→l i=k i)))):=by
 refine Ok.enter Tryz.func17 Y Tryz.ntmps17 Y (fun w O => ?_)
 by_cases h:n=m
 ·subst h
  refine ae (ai (En Y (Ep (aa (ae (ae (ai (Em Y (El (aW Y) ?_)))))))))
  refine Em Y (El (aW Y) (El (sF X (dy Y Y)) (Ep (aa (aB Y (az (aa (ae (ae ?_)))))))))
  refine ai (En Y (Ep (aa (au (cp (Γ' := [(0,_),(1,_),(4,_),(5,_)]) Eg (SubM.refl _) ?_)))))
  refine bD (σ:=Nat) (Γk := [(0,_),(1,_)]) Eg (fun i => [(5,one (.int .i64 (i:Nat)))]) (fun i M0=>M0) (fun i=>i≤n ∧ ∀ q,q<i→l q=k q) (fun i=>n - i) (0) (⟨Nat.zero_le _,fun q h=>absurd h (Nat.not_lt_zero _)⟩) Eh (.nil) (fun i hi => ?_)
  refine bU (Γ' := [(5,_),(0,_),(1,_)]) (M' := []) Y Y ?_
  obtain ⟨hi,hq⟩:=hi
  by_cases hin:i<n
  ·have hs:=wK (l i) (k i)
   by_cases he:l i=k i
   ·rw [decide_eq_true he] at hs
    refine ae (ae (ai (Em Y (Em Y (El (aW Y) (El (sT X (a7 Y Y)) (Ep (aa (aH Y ?_)))))))))
    refine az (aa (ae (au (ae (a8 10 a4 Z S (Em Y (Em Y (El (aC Y Y X) (El (aM Y) ?_)))))))))
    refine Em Y (Em Y (El (aC Y Y X) (El (aM Y) ?_)))
    refine El (am (hs) Y ⟨H,H,Er⟩) ?_
    refine El (cR Y) (Ep (Ep (aa (aB Y (az (aD (aa (ai (Em Y ?_)))))))))
    refine El (bI _ 1 Y Y X) (En Y (Ep ?_))
    refine aR (i+1) (⟨hin,fun q h=>by by_cases h3:q=i;exact h3▸he;exact hq q X⟩) X Eh (.nil)
   ·rw [decide_eq_false he] at hs
    rw [decide_eq_false (fun h=>he (h.2 i hin))]
    refine ae (ae (ai (Em Y (Em Y (El (aW Y) (El (sT X (a7 Y Y)) (Ep (aa (aH Y ?_)))))))))
    refine az (aa (ae (au (ae (a8 10 a4 Z S (Em Y (Em Y (El (aC Y Y X) (El (aM Y) ?_)))))))))
    refine Em Y (Em Y (El (aC Y Y X) (El (aM Y) ?_)))
    refine El (am (hs) Y ⟨H,H,Er⟩) ?_
    refine El (cR Y) (Ep (Ep (aa (aH Y (ae (ai (En Y (Ep (aa ?_)))))))))
    refine aF (bK (aU (aU (bK (aU ?_)))))
    refine aV Tryz.results17 (.tmp Y H)
  ·rw [decide_eq_true ⟨rfl,fun q h=>hq q X⟩]
   refine ae (ae (ai (Em Y (Em Y (El (aW Y) (El (sF X (a7 Y Y)) (Ep (aa (aB Y ?_)))))))))
   refine aX (av (av (aE (aa (ae (ai (En Y (Ep (aa ?_)))))))))
   refine aF ?_
   refine aV Tryz.results17 (.tmp Y H)
 ·rw [decide_eq_false (fun k=>h k.1)]
  refine ae (ai (En Y (Ep (aa (ae (ae (ai (Em Y (El (aW Y) ?_)))))))))
  refine Em Y (El (aW Y) (El (sT X (dy Y Y)) (Ep (aa (aH Y (ae (ai (En Y (Ep ?_)))))))))
  refine aa (aF (aU ?_))
  refine aV Tryz.results17 (.tmp Y H)
end Tor
end
section
namespace Tor
open Go Go.RowKit Go.Proofs
def d9 (n:Nat) (f:Nat→Rat):VT:=slT (.agg 4) n (fun i=>cD (f i))
theorem BD {n:Nat} {f g:Nat→Rat} (h : ∀ i,i<n→f i=g i):VT.le (d9 n f) (d9 n g):=dZ fun i hi=>gN (by rw [h i hi])
instance {n:Nat} {f:Nat→Rat} : Flat (d9 n f) .one:=by unfold d9;infer_instance
theorem tg {sv:Option Nat} {T:TypeId} {cap i:Nat} {h:Nat→Rat} {x:Rat} (hx:x=h i):Own.le (aI sv T (.agg 4) cap (i+1) (fun q=>if q<i then cD (h q) else cD x)) (aI sv T (.agg 4) cap (i+1) (fun q=>cD (h q))):=bg fun q hq=>by
 subst hx
 by_cases c:q<i
 ·rw [if_pos c]
 ·rw [if_neg c,show q=i by omega]
attribute [local irreducible] J PJ aJ one slT bQ bC bv exT bZ eP aP aI slV VT.le Ret bJ xO
attribute [local irreducible] aL cD
theorem oJ (n:Nat) (f:Nat→Int) (hn:n≤1048576):Ok Tryz.prog 24 [bA n f] (d9 n (fun i=>(f i:Rat))):=by
 unfold d9 bA
 refine Ok.enter Tryz.func24 Y Tryz.ntmps24 Y (fun w O => ?_)
 refine ae (ai (En Y (Ep (aa (ae (ai (nJ (n:=0) Y Y Y Y Y ?_)))))))
 refine PartsK.nil (fun bl => ?_)
 refine En Y (Ep (aa (ae (ae (ai (En Y (Ep (aa (au ?_)))))))))
 refine cp (Γ' := [(0,_),(2,_),(3,_),(4,_)]) Eg (SubM.refl _) ?_
 refine bD (σ:=Nat × Option Nat × Nat) (Γk := [(0,_),(2,_)]) Eg (fun s => [(4,one (.int .i64 (s.1:Nat))),(3,one (slV s.2.1 s.1 s.2.2))]) (fun s M0=>(M0.set 0 (aI s.2.1 58 (.agg 4) s.2.2 s.1 (fun q=>cD (f q:Rat))))) (fun s=>s.1≤n) (fun s=>n - s.1) ((0,some bl,0)) (Nat.zero_le _) Eh (.keep (bg (fun q hq=>absurd hq (Nat.not_lt_zero _))) (.nil)) (fun s hs => ?_)
 refine bU (Γ' := [(4,_),(3,_),(0,_),(2,_)]) (M' := [_]) Y Y ?_
 obtain ⟨i,sv,cap⟩:=s
 dsimp only at hs ⊢
 by_cases hi:i<n
 ·refine ae (ae (ai (Em Y (Em Y (El (aW Y) (El (sT X (a7 Y Y)) (Ep (aa (aH Y ?_)))))))))
  refine az (aa (ae (au (ai (Em Y (Em Y (Em Y (El (aC Y Y X) (El (aM Y) ?_)))))))))
  refine El (am (oH _) Y ⟨H,Er⟩) ?_
  refine gm Y Y Y Y ?_
  (refine cW 0 Y Y Y (leN Y) ?_ ?_ Y (ltN Y) (fun sv19 cap19 => ?_);omega;omega)
  refine En Y (Ep (aD (aa (ai (Em Y (El (bI _ 1 Y Y X) (En Y (Ep ?_))))))))
  refine aR ((i+1,sv19,cap19)) (hi) X Eh (.keep (tg (h:=fun q=>(f q:Rat)) Y) (.nil))
 ·have he:i=n:=by omega
  subst he
  refine ae (ae (ai (Em Y (Em Y (El (aW Y) (El (sF X (a7 Y Y)) (Ep (aa (aB Y ?_)))))))))
  refine aX (av (av (aE (aa (ae (ai (Em Y (En Y (Ep ?_)))))))))
  refine aa (aF (cq (t:=2) (i:=0) Y Y ?_))
  refine aV Tryz.results24 (.tmp Y H)
theorem p9 (n m:Nat) (a b:Nat→Rat) (c:Rat) (A B C:Nat) (hn:n≤1048576) (hm:n≤m) (ha : ∀ i,i<n→qz A (a i)) (hb : ∀ i,i<n→qz B (b i)) (hc:qz C c) (hz:A+(C+B)+1≤1099511627700) :
  Ok Tryz.prog 116 [d9 n a,d9 m b,cD c] (d9 n (fun i=>a i - c*b i)):=by
 unfold d9
 refine Ok.enter Tryz.func116 Y Tryz.ntmps116 Y (fun w O => ?_)
 refine ae (ai ?_)
 refine gL Y Y (ltN Y) (fun b5 => ?_)
 refine En Y (Ep (aa (ae (ai (nJ (n:=0) Y Y Y Y Y ?_)))))
 refine PartsK.nil (fun bl => ?_)
 refine En Y (Ep (aa (ae (ae (ai (En Y (Ep (aa (au ?_)))))))))
 refine cp (Γ' := [(0,_),(1,_),(5,_),(6,_),(7,_),(8,_)]) Eg (SubM.refl _) ?_
 refine bD (σ:=Nat × Option Nat × Nat) (Γk := [(0,_),(1,_),(5,_),(6,_)]) Eg (fun s => [(8,one (.int .i64 (s.1:Nat))),(7,one (slV s.2.1 s.1 s.2.2))]) (fun s M0=>(M0.set 0 (aI s.2.1 58 (.agg 4) s.2.2 s.1 (fun q=>cD (a q - c*b q))))) (fun s=>s.1≤n) (fun s=>n - s.1) ((0,some bl,0)) (Nat.zero_le _) Eh (.keep (bg (fun q hq=>absurd hq (Nat.not_lt_zero _))) (.keep Ek (.nil))) (fun s hs => ?_)
 refine bU (Γ' := [(8,_),(7,_),(0,_),(1,_),(5,_),(6,_)]) (M' := [_,_]) Y Y ?_
 obtain ⟨i,sv,cap⟩:=s
 dsimp only at hs ⊢
 by_cases hi:i<n
 ·have h1:=oI c (b i) C B hc (hb i hi) X
  have h2:=zQ (a i) (c*b i) A (C+B) (ha i hi) (uH hc (hb i hi)) hz
  refine ae (ae (ai (Em Y (Em Y (El (aW Y) (El (sT X (a7 Y Y)) (Ep (aa (aH Y ?_)))))))))
  refine az (aa (ae (au (fm 13 a4 Z S (Em Y (Em Y (Em Y (El (aC Y Y X) (El (aM Y) ?_)))))))))
  refine El (ak 1 Y Y Y) (Em Y (Em Y (El (aC Y Y X) (El (aM Y) ?_))))
  refine El (am (h1) Y ⟨H,H,Er⟩) ?_
  refine El (am (h2) Y ⟨H,H,Er⟩) ?_
  refine gm Y Y Y Y (Ep ?_)
  (refine cW 0 Y Y Y (leN Y) ?_ ?_ Y (ltN Y) (fun sv29 cap29 => ?_);omega;omega)
  refine En Y (Ep (aD (aa (ai (Em Y (El (bI _ 1 Y Y X) (En Y (Ep ?_))))))))
  refine aR ((i+1,sv29,cap29)) (hi) X Eh (.keep (tg (h:=fun q=>a q - c*b q) Y) (.keep Ek (.nil)))
 ·have he:i=n:=by omega
  subst he
  refine ae (ae (ai (Em Y (Em Y (El (aW Y) (El (sF X (a7 Y Y)) (Ep (aa (aB Y ?_)))))))))
  refine aX (av (av (aE (aa (ae (ai (Em Y (En Y (Ep ?_)))))))))
  refine aa (aF (cq (t:=6) (i:=0) Y Y ?_))
  refine aV Tryz.results116 (.tmp Y H)
end Tor
end
section
namespace Tor.Lin
theorem xu (m:Nat) (B:Nat→Nat→Rat) (c:Nat→Rat):det m (fun i j=>if 0<i then B i j - c i*B 0 j else B i j)=det m B:=by
 have key : ∀ t,t≤m→det m (fun i j=>if 0<i∧i<t then B i j - c i*B 0 j else B i j)=det m B:=by
  intro t
  induction t with
  | zero => intro _; exact bG fun i j _ _ => by rw [if_neg X]
  | succ t ih =>
   intro ht
   by_cases h0:t=0
   ·subst h0;exact bG fun i j _ _=>by rw [if_neg X]
   ·rw [← ih X, ← wt fX (p:=t) (q:=0) h0 X X (- c t) (fun i j=>if 0<i∧i<t then B i j - c i*B 0 j else B i j)]
    exact bG fun i j _ _=>by
     by_cases h1:i=t
     ·subst h1
      rw [if_pos X,if_pos Y,if_neg X,if_neg X]; grind
     ·rw [if_neg h1]
      by_cases h2:0<i∧i<t
      ·rw [if_pos X,if_pos h2]
      ·rw [if_neg X,if_neg h2]
 rw [← key m (Nat.le_refl _)]
 exact bG fun i j hi _=>by
  by_cases h:0<i
  ·rw [if_pos h,if_pos ⟨h,hi⟩]
  ·rw [if_neg h,if_neg (fun k=>h k.1)]
def mK (n k:Nat) (F:Nat→Nat→Int) (R:Nat→Nat→Rat) (o:Rat):Prop:=det n (fun i j=>(F i j:Rat))=o*det (n - k) (fun i j=>R (k+i) (k+j))
theorem mK.start (n:Nat) (F:Nat→Nat→Int):mK n 0 F (fun i j=>(F i j:Rat)) 1:=by
 show _=(1:Rat)*det (n - 0) (fun i j=>((F (0+i) (0+j):Int):Rat))
 rw [Nat.sub_zero,bG (F:=fun i j=>((F (0+i) (0+j):Int):Rat)) (G:=fun i j=>(F i j:Rat)) (fun i j _ _=>by simp only [Nat.zero_add])]; grind
theorem mK.done {n:Nat} {F:Nat→Nat→Int} {R:Nat→Nat→Rat} {o:Rat} (h:mK n n F R o):o=((bW n F:Int):Rat):=by
 rw [dn,h,Nat.sub_self]
 show o=o*1
 grind
theorem mK.zero {n k:Nat} {F:Nat→Nat→Int} {R:Nat→Nat→Rat} {o:Rat} (h:mK n k F R o) (hk:k<n) (h0 : ∀ i,k≤i→i<n→R i k=0):bW n F=0:=by
 have:((bW n F:Int):Rat)=((0:Int):Rat):=by
  rw [dn,h,rU (p:=0) X (fun i hi=>by rw [Nat.add_zero]; exact h0 _ X X)]
  have:((0:Int):Rat)=0:=rfl
  rw [this]; grind
 exact_mod_cast this
theorem mK.swap {n k a:Nat} {F:Nat→Nat→Int} {R:Nat→Nat→Rat} {o:Rat} (h:mK n k F R o) (hk:k<n) (ha:k≤a) (han:a<n):mK n k F (Tor.swp a k R) (if a=k then o else -o):=by
 unfold mK at *
 by_cases e:a=k
 ·subst e;rw [gS,if_pos Y]; exact h
 ·rw [if_neg e,h]
  have hsw:=rV fX (n:=n - k) (p:=a - k) (q:=0) X X X (fun i j=>R (k+i) (k+j))
  have e2:det (n - k) (tw (fun i j=>R (k+i) (k+j)) (a - k) 0 ((fun i j=>R (k+i) (k+j)) 0) ((fun i j=>R (k+i) (k+j)) (a - k)))=det (n - k) (fun i j=>Tor.swp a k R (k+i) (k+j)):=bG fun i j _ _=>by
   unfold tw Tor.swp
   by_cases h1:i=a - k
   ·rw [if_pos h1,if_pos (show k+i=a by omega)]; rfl
   ·rw [if_neg h1,if_neg (show ¬ k+i=a by omega)]
    by_cases h2:i=0
    ·rw [if_pos h2,if_pos (show k+i=k by omega)]; show R (k+(a - k)) (k+j)=_;rw [show k+(a - k)=a by omega]
    ·rw [if_neg h2,if_neg (show ¬ k+i=k by omega)]
  rw [e2] at hsw
  rw [hsw]; grind
theorem mK.step {n k:Nat} {F:Nat→Nat→Int} {R:Nat→Nat→Rat} {o:Rat} (h:mK n k F R o) (hk:k<n) (hn:R k k≠0):mK n (k+1) F (fun i j=>if k<i then R i j - R i k / R k k*R k j else R i j) (o*R k k):=by
 unfold mK at *
 rw [h, ← xu (n - k) (fun i j=>R (k+i) (k+j)) (fun i=>R (k+i) k / R k k)]
 have hm:n - k=(n - (k+1))+1:=by omega
 rw [hm,wu (fun i hi=>by
  show (if 0<i+1 then R (k+(i+1)) (k+0) - R (k+(i+1)) k / R k k*R (k+0) (k+0) else R (k+(i+1)) (k+0))=0
  rw [if_pos X,Nat.add_zero]; grind)]
 have e1:(if 0<0 then R (k+0) (k+0) - R (k+0) k / R k k*R (k+0) (k+0) else R (k+0) (k+0))=R k k:=by rw [if_neg X,Nat.add_zero]
 have e2:det (n - (k+1)) (fun i j=>if 0<i+1 then R (k+(i+1)) (k+(j+1)) - R (k+(i+1)) k / R k k*R (k+0) (k+(j+1)) else R (k+(i+1)) (k+(j+1)))=det (n - (k+1)) (fun i j=>if k<k+1+i then R (k+1+i) (k+1+j) - R (k+1+i) k / R k k*R k (k+1+j) else R (k+1+i) (k+1+j)):=bG fun i j _ _=>by
  rw [if_pos X,if_pos X,show k+(i+1)=k+1+i by omega,show k+(j+1)=k+1+j by omega]
  simp only [Nat.add_zero]
 show o*((if 0<0 then R (k+0) (k+0) - R (k+0) k / R k k*R (k+0) (k+0) else R (k+0) (k+0))*det (n - (k+1)) (fun i j=>if 0<i+1 then R (k+(i+1)) (k+(j+1)) - R (k+(i+1)) k / R k k*R (k+0) (k+(j+1)) else R (k+(i+1)) (k+(j+1))))=_
 rw [e1,e2]; grind
end Tor.Lin
end
section
namespace Tor
open Go Go.RowKit Go.Proofs
def rdB (α:Nat):Nat→Nat
 | 0 => α
 | k + 1 => 4 * rdB α k + 1
theorem zS {α i k:Nat} (h:i≤k):rdB α i≤rdB α k:=by
  induction k with
  | zero => have : i = 0 := by omega
            subst this;exact Nat.le_refl _
  | succ k ih =>
    by_cases e:i=k+1
    · rw [e]; exact Nat.le_refl _
    · have:=ih X
      show rdB α i≤4*rdB α k+1
      omega
def ii (k i:Nat) (R:Nat→Nat→Rat):Nat→Nat→Rat:=fun q j=>if k<q∧q<i then R q j - R q k / R k k*R k j else R q j
theorem vS {sv:Option Nat} {T:TypeId} {cap n k i:Nat} {R:Nat→Nat→Rat} (h:k<i):Own.le (aI sv T .one cap n (upd (fun q=>d9 n (ii k i R q)) i (d9 n (fun j=>R i j - R i k / R k k*R k j)))) (aI sv T .one cap n (fun q=>d9 n (ii k (i+1) R q))):=bg fun q hq=>by
 show (if q=i then d9 n (fun j=>R i j - R i k / R k k*R k j) else d9 n (ii k i R q))=_
 by_cases c:q=i
 ·subst c;rw [if_pos Y]; congr 1;funext j;unfold ii;rw [if_pos X]
 ·rw [if_neg c]; congr 1;funext j;unfold ii
  by_cases c2:k<q∧q<i
  ·rw [if_pos c2,if_pos X]
  ·rw [if_neg c2,if_neg X]
theorem jP {k i:Nat} {R:Nat→Nat→Rat} : ii k i R i=R i:=by funext j;unfold ii;rw [if_neg X]
theorem m4 {k i:Nat} {R:Nat→Nat→Rat} : ii k i R k=R k:=by funext j;unfold ii;rw [if_neg X]
theorem qa {k:Nat} {R:Nat→Nat→Rat} : ii k (k+1) R=R:=by funext q j;unfold ii;rw [if_neg X]
theorem BE {k n:Nat} {F:Nat→Nat→Int} {R:Nat→Nat→Rat} {o:Rat} (h:Lin.mK n (k+1) F (fun i j=>if k<i then R i j - R i k / R k k*R k j else R i j) o):Lin.mK n (k+1) F (ii k n R) o:=by
 unfold Lin.mK at *
 rw [h]; congr 1
 exact Lin.bG fun i j hi hj=>by
  unfold ii
  show (if k<k+1+i then _ else _)=_
  rw [if_pos X,if_pos X]
theorem Dn {β k i:Nat} {R:Nat→Nat→Rat} (h : ∀ q j,qz β (R q j)) (h0:R k k≠0) : ∀ q j,qz (4*β+1) (ii k i R q j):=fun q j=>by
 unfold ii;split
 ·exact (Dm (h q j) (uH (ro (h q k) (h k k) h0) (h k j))).mono X
 ·exact (h q j).mono X
theorem zT {β i k:Nat} {R:Nat→Nat→Rat} (h : ∀ q j,qz β (R q j)) : ∀ q j,qz β (swp i k R q j):=fun q j=>by
 unfold swp;split
 ·exact h _ _
 ·split
  ·exact h _ _
  ·exact h _ _
structure RdI (α n k:Nat) (F:Nat→Nat→Int) (R:Nat→Nat→Rat) (o:Rat):Prop where
 d:Lin.mK n k F R o
 q : ∀ i j,qz (rdB α k) (R i j)
 o:qz (rdB α k) o
theorem RdI.next {α n k a:Nat} {F:Nat→Nat→Int} {R:Nat→Nat→Rat} {o:Rat} (h:RdI α n k F R o) (hα:1≤α) (hk:k<n) (ha:k≤a) (han:a<n) (h0:R a k≠0):RdI α n (k+1) F (ii k n (swp a k R)) ((if a=k then o else -o)*R a k):=by
 have hs:=h.d.swap hk ha han
 have hkk:swp a k R k k≠0:=by rw [gT]; exact h0
 have ht:=hs.step hk hkk
 rw [gT] at ht
 refine ⟨BE (by rw [gT]; exact ht),fun i j=>Dn (zT h.q) hkk i j,?_⟩
 have ho:qz (rdB α k) (if a=k then o else -o):=by split;exact h.o;exact rn h.o
 exact (uH ho (h.q a k)).mono (by show rdB α k+rdB α k≤4*rdB α k+1;omega)
theorem BF {sv:Option Nat} {T:TypeId} {cap n a k:Nat} {R:Nat→Nat→Rat} (h:a≠k):Own.le (aI sv T .one cap n (upd (upd (fun q=>d9 n (R q)) k (d9 n (R a))) a (d9 n (R k)))) (aI sv T .one cap n (fun q=>d9 n (swp a k R q))):=bg fun q hq=>by
 show (if q=a then d9 n (R k) else (if q=k then d9 n (R a) else d9 n (R q)))=d9 n (if q=a then R k else if q=k then R a else R q)
 split
 ·rfl
 ·split <;> rfl
theorem zU {sv:Option Nat} {T:TypeId} {cap n i:Nat} {R:Nat→Nat→Rat} {f:Nat→Rat} (h:f=R i):Own.le (aI sv T .one cap (i+1) (fun q=>if q<i then d9 n (R q) else d9 n f)) (aI sv T .one cap (i+1) (fun q=>d9 n (R q))):=bg fun q hq=>by
 subst h
 by_cases c:q<i
 ·rw [if_pos c]
 ·rw [if_neg c,show q=i by omega]
attribute [local irreducible] J PJ aJ one slT bQ bC bv exT bZ eP aP aI slV VT.le Ret bJ xO
attribute [local irreducible] aL cD
theorem zV (n:Nat) (F:Nat→Nat→Int) (α:Nat) (hn:n≤1024) (hα:1≤α) (hF : ∀ i j,lz α (F i j)) (hz:rdB α n≤1099511627700):Ok Tryz.prog 66 [bP n n F] (bv [aL (Lin.bW n F),one (.int .i64 0)]):=by
 have hone:=jO 1 S S
 unfold bP
 refine Ok.enter Tryz.func66 Y Tryz.ntmps66 Y (fun w O => ?_)
 refine ae (ai ?_)
 refine aS Y Y (ltN Y) (fun b1 => ?_)
 refine aG (T:=37) Y (ltN Y) (fun b2 => ?_)
 refine En Y (Ep (aa (ae (ae (ai (El (aj Y) (El (ak 1 Y Y Y) (El (aj Y) (El (ak 1 Y Y Y) ?_)))))))))
 refine El (sF X (dy Y Y)) (Ep (aa (aB Y (az (aa (ae (ai (nJ (n:=0) Y Y Y Y Y ?_))))))))
 refine PartsK.nil (fun bl => ?_)
 refine El (am (hone) Y ⟨H,Er⟩) ?_
 refine bj (T:=58) Y Y Y (fun b5 => ?_)
 refine En Y (lh 0 Y Y Y Y (Ep (aa (ae (ae (ai (En Y (Ep (aa ?_)))))))))
 refine au (cp (Γ' := [(1,_),(2,_),(3,_),(4,_),(5,_),(6,_)]) Eg (SubM.refl _) ?_)
 refine bD (σ:=Nat × Option Nat × Nat) (Γk := [(1,_),(2,_),(3,_),(5,_)]) Eg (fun s => [(6,one (.int .i64 (s.1:Nat))),(4,one (slV s.2.1 s.1 s.2.2))]) (fun s M0=>(M0.set 1 (aI s.2.1 39 .one s.2.2 s.1 (fun q=>d9 n (fun j=>(F q j:Rat)))))) (fun s=>s.1≤n) (fun s=>n - s.1) ((0,some bl,0)) (Nat.zero_le _) Eh (.keep Ek (.keep (bg (fun q hq=>absurd hq (Nat.not_lt_zero _))) (.keep Ek (.keep Ek (.nil))))) (fun s hs => ?_)
 refine bU (Γ' := [(6,_),(4,_),(1,_),(2,_),(3,_),(5,_)]) (M' := [_,_,_,_]) Y Y ?_
 obtain ⟨i,sv,cap⟩:=s
 dsimp only at hs ⊢
 by_cases hi:i<n
 ·have hrat:=oJ n (F i) X
  refine ae (ae (ai (Em Y (El (aj Y) (El (ak 3 Y Y Y) (El (sT X (a7 Y Y)) (Ep (aa (aH Y ?_)))))))))
  refine az (aa (ae (au (ai (Em Y (El (aj Y) (El (ak 3 Y Y Y) (Em Y (El (aC Y Y X) ?_)))))))))
  refine El (aM Y) ?_
  refine El (am (hrat) Y ⟨H,Er⟩) ?_
  refine gm Y Y Y Y ?_
  (refine cW 1 Y Y Y (leN Y) ?_ ?_ Y (ltN Y) (fun sv32 cap32 => ?_);omega;omega)
  refine En Y (Ep (aD (aa (ai (Em Y (El (bI _ 1 Y Y X) (En Y (Ep ?_))))))))
  refine aR ((i+1,sv32,cap32)) (hi) X Eh (.keep Ek (.keep (zU (R:=fun q j=>(F q j:Rat)) Y) (.keep Ek (.keep Ek (.nil)))))
 ·have he:i=n:=by omega
  subst he
  refine ae (ae (ai (Em Y (El (aj Y) (El (ak 3 Y Y Y) (El (sF X (a7 Y Y)) (Ep (aa (aB Y ?_)))))))))
  refine aX (av (av (aE (aa (ae (ae (ai (En Y (Ep ?_)))))))))
  refine aa (au (cp (Γ' := [(2,_),(3,_),(4,_),(5,_),(7,_)]) Eg (SubM.refl _) ?_))
  refine bD (σ:=Nat × (Nat→Nat→Rat) × Rat) (Γk := [(2,_),(4,_),(5,_)]) Eg (fun s => [(7,one (.int .i64 (s.1:Nat)))]) (fun s M0=>((M0.set 1 (aI sv 39 .one cap i (fun q=>d9 i (s.2.1 q)))).set 0 (aP b5 58 4 [(0, .agg 4,cD s.2.2)]))) (fun s=>s.1≤i∧RdI α i s.1 F s.2.1 s.2.2) (fun s=>i - s.1) ((0,fun q j=>(F q j:Rat),((1:Int):Rat))) (⟨Nat.zero_le _,Lin.mK.start i F,fun a b=>zO hα (hF a b),zO hα (uo hα)⟩) Eh (.keep Ek (.keep Ek (.keep Ek (.keep Ek (.nil))))) (fun s hs => ?_)
  refine bU (Γ' := [(7,_),(2,_),(4,_),(5,_)]) (M' := [_,_,_,_]) Y Y ?_
  obtain ⟨k,R,o⟩:=s
  obtain ⟨hk,hI⟩:=hs
  dsimp only at hk hI ⊢
  refine ni (i:=1) (F:=sv=none→i=0) Y (fun g h hp he=>iU hp he) (fun hsv => ?_)
  by_cases hki:k<i
  ·obtain ⟨bs,rfl⟩:=fZ hsv X
   have hz2:rdB α (k+1)≤1099511627700:=Nat.le_trans (zS X) hz
   have hz3:rdB α (k+1)=4*rdB α k+1:=rfl
   refine ae (ae (ai (Em Y (Em Y (El (cv Y) (El (sT X (a7 Y Y)) (Ep (aa (aH Y ?_)))))))))
   refine az (aa (ae (au (ae (ai (Em Y (En Y (Ep (aa ?_)))))))))
   refine ae (au (cp (Γ' := [(2,_),(4,_),(5,_),(7,_),(8,_)]) Eg (SubM.refl _) ?_))
   refine bD (σ:=Nat) (Γk := [(2,_),(4,_),(5,_),(7,_)]) Eg (fun a => [(8,one (.int .i64 (a:Nat)))]) (fun a M0=>M0) (fun a=>k≤a∧a≤i ∧ ∀ q,k≤q→q<a→R q k=0) (fun a=>i - a) (k) (⟨Nat.le_refl _,hk,fun q h1 h2=>absurd h2 X⟩) Eh (.keep Ek (.keep Ek (.keep Ek (.keep Ek (.nil))))) (fun a ha => ?_)
   refine bU (Γ' := [(8,_),(2,_),(4,_),(5,_),(7,_)]) (M' := [_,_,_,_]) Y Y ?_
   obtain ⟨ha1,ha2,ha3⟩:=ha
   unfold d9
   by_cases hai:a<i
   ·have hsg:=eF (R a k).num
    by_cases h0:R a k=0
    ·have hs0:=hsg.2 (Rat.num_eq_zero.2 h0)
     refine ae (ae (ai (Em Y (Em Y (El (cv Y) (El (sT X (a7 Y Y)) (Em Y (Eo (ab Y) (Eo (ab Y) ?_)))))))))
     refine Eo (ao Y Y X) (Eo (be 1 Y Y X) (Eo (ab Y) (Eo (aC Y Y X) (Eo (aM Y) ?_))))
     refine Eo (am (mJ _) Y ⟨H,Er⟩) ?_
     refine Eo (sT (by assumption) (cm Y Y)) (El (bp Y Y) (Ep (aa (aH Y (az (aa (au (ai (Em Y ?_)))))))))
     refine El (bI _ 1 Y Y X) (En Y (Ep (aD ?_)))
     refine aR (a+1) (⟨by omega,hai,fun q h1 h2=>by by_cases h3:q=a;exact h3▸h0;exact ha3 q h1 X⟩) X Eh (.keep Ek (.keep Ek (.keep Ek (.keep Ek (.nil)))))
    ·have hs0:c6 (R a k).num≠0:=fun h=>h0 (Rat.num_eq_zero.1 (hsg.1 h))
     have hnx:=hI.next hα hki ha1 hai h0
     by_cases hak:a=k
     ·have hnx':RdI α i (k+1) F (ii k i R) (o*R k k):=by rw [hak,gS,if_pos Y] at hnx;exact hnx
      have hkk:R k k≠0:=by rw [← hak]; rw [hak] at h0 ⊢; exact h0
      have hq1:=hI.q
      have hq2:=hI.o
      have hmul:=oI o (R k k) (rdB α k) (rdB α k) hq2 (hq1 k k) X
      refine ae (ae (ai (Em Y (Em Y (El (cv Y) (El (sT X (a7 Y Y)) (Em Y (Eo (ab Y) (Eo (ab Y) ?_)))))))))
      refine Eo (ao Y Y X) (Eo (be 1 Y Y X) (Eo (ab Y) (Eo (aC Y Y X) (Eo (aM Y) ?_))))
      refine Eo (am (mJ _) Y ⟨H,Er⟩) ?_
      refine Eo (sF (by assumption) (cm Y Y)) (El (bp Y Y) (Ep (aa (aB Y (aX (av (av (aE (aa ?_)))))))))
      refine ae (ae (ai (Em Y (Em Y (El (cv Y) (El (sF X (cm Y Y)) (Ep (aa (aB Y ?_)))))))))
      refine az (aa (ae (ae (ai (Em Y (Em Y (El (sF X (dy Y Y)) (Ep (aa ?_)))))))))
      refine aB Y (az (aa (ae (a8 9 a4 Z S (El (ak 0 Y Y Y) (Em Y (Em Y (El (ao Y Y X) (El (be 1 Y Y X) ?_)))))))))
      refine Em Y (El (aC Y Y X) (El (aM Y) ?_))
      refine El (am (hmul) Y ⟨H,H,Er⟩) ?_
      refine Ep (aA 0 Y Y Y Y Y (leN Y) Y (Ep (aa (ae (ai (Em Y (El (bI _ 1 Y Y X) (En Y (Ep ?_)))))))))
      refine aa (au (cp (Γ' := [(2,_),(4,_),(5,_),(7,_),(9,_)]) Eg (SubM.refl _) ?_))
      refine bD (σ:=Nat) (Γk := [(2,_),(4,_),(5,_),(7,_)]) Eg (fun j => [(9,one (.int .i64 (j:Nat)))]) (fun j M0=>(M0.set 1 (aI (some bs) 39 .one cap i (fun q=>d9 i (ii k j R q))))) (fun j=>k+1≤j∧j≤i) (fun j=>i - j) (k+1) (⟨Nat.le_refl _,hki⟩) Eh (.keep Ek (.keep (by (rw [qa]; exact Own.le_refl _)) (.keep Ek (.keep Ek (.nil))))) (fun j hj => ?_)
      refine bU (Γ' := [(9,_),(2,_),(4,_),(5,_),(7,_)]) (M' := [_,_,_,_]) Y Y ?_
      obtain ⟨hj1,hj2⟩:=hj
      by_cases hji:j<i
      ·have hov:=p8 (R j k) (R k k) (rdB α k) (rdB α k) (hq1 j k) (hq1 k k) X hkk
       have hl:=p9 i i (R j) (R k) (R j k / R k k) (rdB α k) (rdB α k) (rdB α k+rdB α k) X (Nat.le_refl _) (fun q _=>hq1 j q) (fun q _=>hq1 k q) (ro (hq1 j k) (hq1 k k) hkk) X
       unfold d9 at hl ⊢
       refine ae (ae (ai (Em Y (Em Y (El (cv Y) (El (sT X (a7 Y Y)) (Ep (aa (aH Y ?_)))))))))
       refine az (aa (ae (au (a8 26 a4 Z S (Em Y (Em Y (Em Y (Em Y (El (ao Y Y X) ?_)))))))))
       refine El (be 1 Y Y X) (Em Y (Em Y (El (ao Y Y X) (El (be 1 Y Y X) (Em Y (Em Y (El (ao Y Y X) (El (be 1 Y Y X) (Em Y ?_)))))))))
       refine El (aC Y Y X) (El (aM Y) (Em Y (Em Y (El (ao Y Y X) (El (be 1 Y Y X) (Em Y (El (aC Y Y X) (El (aM Y) ?_))))))))
       refine El (am (hov) Y ⟨(by (simp only [jP,m4]; exact VT.le_refl _)),(by (simp only [jP,m4]; exact VT.le_refl _)),Er⟩) ?_
       refine El (am (hl) Y ⟨(by (simp only [jP,m4]; exact VT.le_refl _)),(by (simp only [jP,m4]; exact VT.le_refl _)),H,Er⟩) ?_
       refine Ep (El (ao Y Y X) ?_)
       (refine aw 1 Y Y Y ?_ Y ?_;omega)
       refine Ep (aD (aa (ai (Em Y (El (bI _ 1 Y Y X) (En Y (Ep ?_)))))))
       refine aR (j+1) (⟨by omega,hji⟩) X Eh (.keep Ek (.keep (vS X) (.keep Ek (.keep Ek (.nil)))))
      ·have hjn:j=i:=by omega
       rw [hjn]
       refine ae (ae (ai (Em Y (Em Y (El (cv Y) (El (sF X (a7 Y Y)) (Ep (aa (aB Y ?_)))))))))
       refine aX (av (av (aE (aD (aa (ai (Em Y (El (bI _ 1 Y Y X) (En Y ?_)))))))))
       refine Ep ?_
       refine aR ((k+1,ii k i R,o*R k k)) (⟨hki,hnx'⟩) X Eh (.keep Ek (.keep Ek (.keep Ek (.keep Ek (.nil)))))
     ·refine ae (ae (ai (Em Y (Em Y (El (cv Y) (El (sT X (a7 Y Y)) (Em Y (Eo (ab Y) (Eo (ab Y) ?_)))))))))
      refine Eo (ao Y Y X) (Eo (be 1 Y Y X) (Eo (ab Y) (Eo (aC Y Y X) (Eo (aM Y) ?_))))
      refine Eo (am (mJ _) Y ⟨H,Er⟩) ?_
      refine Eo (sF (by assumption) (cm Y Y)) (El (bp Y Y) (Ep (aa (aB Y (aX (av (av (aE (aa ?_)))))))))
      refine ae (ae (ai (Em Y (Em Y (El (cv Y) (El (sF X (cm Y Y)) (Ep (aa (aB Y ?_)))))))))
      refine az (aa (ae (ae (ai (Em Y (Em Y (El (sT X (dy Y Y)) (Ep (aa ?_)))))))))
      refine aH Y (ae ?_)
      apply iC (Γ1 := [(2,_),(4,_),(5,_),(7,_)]) (M1 := [_,_,_,_]) 12 7 [2,3] [] a4 Z S
      ·refine Em Y (Em Y (Em Y (Em Y (Em Y (Em Y (El (ao Y Y X) (El (be 1 Y Y X) (Em Y (Em Y ?_)))))))))
       refine El (ao Y Y X) (El (be 1 Y Y X) (Ep ?_))
       refine yf (Γa := [(2,_),(4,_),(5,_),(7,_),(8,_),(65,_),(66,_),(72,_),(76,_)]) (Γb := [(2,_),(4,_),(5,_),(7,_),(8,_),(65,_),(66,_),(72,_),(76,_),(68,_)]) (Γc := [(2,_),(4,_),(5,_),(7,_),(8,_),(65,_),(66,_),(72,_),(76,_),(67,_)]) (Γd := [(2,_),(4,_),(5,_),(7,_),(8,_),(65,_),(66,_),(72,_),(76,_),(67,_),(68,_)]) (rem := [12,13,14,15]) Y Ej Y Ej Y Ej Y Ej Y ?_ ?_ ?_ ?_
       ·refine ey (r1 := [3,12,13,14,15]) (r2 := [2,12,13,14,15]) (r3 := [2,3,13,14,15]) (i:=2) (j:=3) (k:=12) Z Y Y Y Y Y Y ?_ ?_ ?_ iB.nil
        refine Em Y (Ep ?_)
        refine ⟨rfl,?_⟩
        refine bL (rem' := [12,13,14,15]) (rem'' := [3,13,14,15]) (i:=3) (j:=12) Z Y Y Y Y ?_ ?_ iB.nil
        refine Em Y (Ep ?_)
        refine ⟨rfl,?_⟩
        refine an (rem' := [13,14,15]) (i:=12) Z Y Y ?_ iB.nil
        refine El (ao Y Y X) (Ep ?_)
        refine ⟨rfl,?_⟩
        refine an (rem' := [14,15]) (i:=13) Z Y Y ?_ iB.nil
        (refine aw 1 Y Y Y ?_ Y ?_;omega)
        refine Ep ?_
        refine ⟨rfl,?_⟩
        refine an (rem' := [15]) (i:=14) Z Y Y ?_ iB.nil
        refine El (ao Y Y X) (Ep ?_)
        refine ⟨rfl,?_⟩
        refine an (rem' := []) (i:=15) Z Y Y ?_ iB.nil
        (refine aw 1 Y Y Y ?_ Y ?_;omega)
        refine Ep ?_
        refine ⟨rfl,?_⟩
        refine aT Ej (SubM.refl _) iB.nil
        refine El (ao Y Y X) (Ep ?_)
        refine ⟨rfl,?_⟩
        refine bL (rem' := [13,14,15]) (rem'' := [3,14,15]) (i:=3) (j:=13) Z Y Y Y Y ?_ ?_ iB.nil
        refine Em Y (Ep ?_)
        refine ⟨rfl,?_⟩
        refine an (rem' := [14,15]) (i:=13) Z Y Y ?_ iB.nil
        (refine aw 1 Y Y Y ?_ Y ?_;omega)
        refine Ep ?_
        refine ⟨rfl,?_⟩
        refine an (rem' := [15]) (i:=14) Z Y Y ?_ iB.nil
        refine El (ao Y Y X) (Ep ?_)
        refine ⟨rfl,?_⟩
        refine an (rem' := []) (i:=15) Z Y Y ?_ iB.nil
        (refine aw 1 Y Y Y ?_ Y ?_;omega)
        refine Ep ?_
        refine ⟨rfl,?_⟩
        refine aT Ej (SubM.refl _) iB.nil
        (refine aw 1 Y Y Y ?_ Y ?_;omega)
        refine Ep ?_
        refine ⟨rfl,?_⟩
        refine an (rem' := [14,15]) (i:=3) Z Y Y ?_ iB.nil
        refine Em Y (Ep ?_)
        refine ⟨rfl,?_⟩
        refine an (rem' := [15]) (i:=14) Z Y Y ?_ iB.nil
        refine El (ao Y Y X) (Ep ?_)
        refine ⟨rfl,?_⟩
        refine an (rem' := []) (i:=15) Z Y Y ?_ iB.nil
        (refine aw 1 Y Y Y ?_ Y ?_;omega)
        refine Ep ?_
        refine ⟨rfl,?_⟩
        refine aT Ej (SubM.refl _) iB.nil
        refine Em Y (Ep ?_)
        refine ⟨rfl,?_⟩
        refine bL (rem' := [12,13,14,15]) (rem'' := [2,13,14,15]) (i:=2) (j:=12) Z Y Y Y Y ?_ ?_ iB.nil
        refine Em Y (Ep ?_)
        refine ⟨rfl,?_⟩
        refine an (rem' := [13,14,15]) (i:=12) Z Y Y ?_ iB.nil
        refine El (ao Y Y X) (Ep ?_)
        refine ⟨rfl,?_⟩
        refine an (rem' := [14,15]) (i:=13) Z Y Y ?_ iB.nil
        (refine aw 1 Y Y Y ?_ Y ?_;omega)
        refine Ep ?_
        refine ⟨rfl,?_⟩
        refine an (rem' := [15]) (i:=14) Z Y Y ?_ iB.nil
        refine El (ao Y Y X) (Ep ?_)
        refine ⟨rfl,?_⟩
        refine an (rem' := []) (i:=15) Z Y Y ?_ iB.nil
        (refine aw 1 Y Y Y ?_ Y ?_;omega)
        refine Ep ?_
        refine ⟨rfl,?_⟩
        refine aT Ej (SubM.refl _) iB.nil
        refine El (ao Y Y X) (Ep ?_)
        refine ⟨rfl,?_⟩
        refine bL (rem' := [13,14,15]) (rem'' := [2,14,15]) (i:=2) (j:=13) Z Y Y Y Y ?_ ?_ iB.nil
        refine Em Y (Ep ?_)
        refine ⟨rfl,?_⟩
        refine an (rem' := [14,15]) (i:=13) Z Y Y ?_ iB.nil
        (refine aw 1 Y Y Y ?_ Y ?_;omega)
        refine Ep ?_
        refine ⟨rfl,?_⟩
        refine an (rem' := [15]) (i:=14) Z Y Y ?_ iB.nil
        refine El (ao Y Y X) (Ep ?_)
        refine ⟨rfl,?_⟩
        refine an (rem' := []) (i:=15) Z Y Y ?_ iB.nil
        (refine aw 1 Y Y Y ?_ Y ?_;omega)
        refine Ep ?_
        refine ⟨rfl,?_⟩
        refine aT Ej (SubM.refl _) iB.nil
        (refine aw 1 Y Y Y ?_ Y ?_;omega)
        refine Ep ?_
        refine ⟨rfl,?_⟩
        refine an (rem' := [14,15]) (i:=2) Z Y Y ?_ iB.nil
        refine Em Y (Ep ?_)
        refine ⟨rfl,?_⟩
        refine an (rem' := [15]) (i:=14) Z Y Y ?_ iB.nil
        refine El (ao Y Y X) (Ep ?_)
        refine ⟨rfl,?_⟩
        refine an (rem' := []) (i:=15) Z Y Y ?_ iB.nil
        (refine aw 1 Y Y Y ?_ Y ?_;omega)
        refine Ep ?_
        refine ⟨rfl,?_⟩
        refine aT Ej (SubM.refl _) iB.nil
        refine El (ao Y Y X) (Ep ?_)
        refine ⟨rfl,?_⟩
        refine ey (r1 := [3,13,14,15]) (r2 := [2,13,14,15]) (r3 := [2,3,14,15]) (i:=2) (j:=3) (k:=13) Z Y Y Y Y Y Y ?_ ?_ ?_ iB.nil
        refine Em Y (Ep ?_)
        refine ⟨rfl,?_⟩
        refine bL (rem' := [13,14,15]) (rem'' := [3,14,15]) (i:=3) (j:=13) Z Y Y Y Y ?_ ?_ iB.nil
        refine Em Y (Ep ?_)
        refine ⟨rfl,?_⟩
        refine an (rem' := [14,15]) (i:=13) Z Y Y ?_ iB.nil
        (refine aw 1 Y Y Y ?_ Y ?_;omega)
        refine Ep ?_
        refine ⟨rfl,?_⟩
        refine an (rem' := [15]) (i:=14) Z Y Y ?_ iB.nil
        refine El (ao Y Y X) (Ep ?_)
        refine ⟨rfl,?_⟩
        refine an (rem' := []) (i:=15) Z Y Y ?_ iB.nil
        (refine aw 1 Y Y Y ?_ Y ?_;omega)
        refine Ep ?_
        refine ⟨rfl,?_⟩
        refine aT Ej (SubM.refl _) iB.nil
        (refine aw 1 Y Y Y ?_ Y ?_;omega)
        refine Ep ?_
        refine ⟨rfl,?_⟩
        refine an (rem' := [14,15]) (i:=3) Z Y Y ?_ iB.nil
        refine Em Y (Ep ?_)
        refine ⟨rfl,?_⟩
        refine an (rem' := [15]) (i:=14) Z Y Y ?_ iB.nil
        refine El (ao Y Y X) (Ep ?_)
        refine ⟨rfl,?_⟩
        refine an (rem' := []) (i:=15) Z Y Y ?_ iB.nil
        (refine aw 1 Y Y Y ?_ Y ?_;omega)
        refine Ep ?_
        refine ⟨rfl,?_⟩
        refine aT Ej (SubM.refl _) iB.nil
        refine Em Y (Ep ?_)
        refine ⟨rfl,?_⟩
        refine bL (rem' := [13,14,15]) (rem'' := [2,14,15]) (i:=2) (j:=13) Z Y Y Y Y ?_ ?_ iB.nil
        refine Em Y (Ep ?_)
        refine ⟨rfl,?_⟩
        refine an (rem' := [14,15]) (i:=13) Z Y Y ?_ iB.nil
        (refine aw 1 Y Y Y ?_ Y ?_;omega)
        refine Ep ?_
        refine ⟨rfl,?_⟩
        refine an (rem' := [15]) (i:=14) Z Y Y ?_ iB.nil
        refine El (ao Y Y X) (Ep ?_)
        refine ⟨rfl,?_⟩
        refine an (rem' := []) (i:=15) Z Y Y ?_ iB.nil
        (refine aw 1 Y Y Y ?_ Y ?_;omega)
        refine Ep ?_
        refine ⟨rfl,?_⟩
        refine aT Ej (SubM.refl _) iB.nil
        (refine aw 1 Y Y Y ?_ Y ?_;omega)
        refine Ep ?_
        refine ⟨rfl,?_⟩
        refine an (rem' := [14,15]) (i:=2) Z Y Y ?_ iB.nil
        refine Em Y (Ep ?_)
        refine ⟨rfl,?_⟩
        refine an (rem' := [15]) (i:=14) Z Y Y ?_ iB.nil
        refine El (ao Y Y X) (Ep ?_)
        refine ⟨rfl,?_⟩
        refine an (rem' := []) (i:=15) Z Y Y ?_ iB.nil
        (refine aw 1 Y Y Y ?_ Y ?_;omega)
        refine Ep ?_
        refine ⟨rfl,?_⟩
        refine aT Ej (SubM.refl _) iB.nil
        (refine aw 1 Y Y Y ?_ Y ?_;omega)
        refine Ep ?_
        refine ⟨rfl,?_⟩
        refine bL (rem' := [3,14,15]) (rem'' := [2,14,15]) (i:=2) (j:=3) Z Y Y Y Y ?_ ?_ iB.nil
        refine Em Y (Ep ?_)
        refine ⟨rfl,?_⟩
        refine an (rem' := [14,15]) (i:=3) Z Y Y ?_ iB.nil
        refine Em Y (Ep ?_)
        refine ⟨rfl,?_⟩
        refine an (rem' := [15]) (i:=14) Z Y Y ?_ iB.nil
        refine El (ao Y Y X) (Ep ?_)
        refine ⟨rfl,?_⟩
        refine an (rem' := []) (i:=15) Z Y Y ?_ iB.nil
        (refine aw 1 Y Y Y ?_ Y ?_;omega)
        refine Ep ?_
        refine ⟨rfl,?_⟩
        refine aT Ej (SubM.refl _) iB.nil
        refine Em Y (Ep ?_)
        refine ⟨rfl,?_⟩
        refine an (rem' := [14,15]) (i:=2) Z Y Y ?_ iB.nil
        refine Em Y (Ep ?_)
        refine ⟨rfl,?_⟩
        refine an (rem' := [15]) (i:=14) Z Y Y ?_ iB.nil
        refine El (ao Y Y X) (Ep ?_)
        refine ⟨rfl,?_⟩
        refine an (rem' := []) (i:=15) Z Y Y ?_ iB.nil
        (refine aw 1 Y Y Y ?_ Y ?_;omega)
        refine Ep ?_
        refine ⟨rfl,?_⟩
        refine aT Ej (SubM.refl _) iB.nil
       ·refine bL (rem' := [12,13,14,15]) (rem'' := [2,13,14,15]) (i:=2) (j:=12) Z Y Y Y Y ?_ ?_ iB.nil
        refine Em Y (Ep ?_)
        refine ⟨rfl,?_⟩
        refine an (rem' := [13,14,15]) (i:=12) Z Y Y ?_ iB.nil
        refine El (ao Y Y X) (Ep ?_)
        refine ⟨rfl,?_⟩
        refine an (rem' := [14,15]) (i:=13) Z Y Y ?_ iB.nil
        (refine aw 1 Y Y Y ?_ Y ?_;omega)
        refine Ep ?_
        refine ⟨rfl,?_⟩
        refine an (rem' := [15]) (i:=14) Z Y Y ?_ iB.nil
        refine El (ao Y Y X) (Ep ?_)
        refine ⟨rfl,?_⟩
        refine an (rem' := []) (i:=15) Z Y Y ?_ iB.nil
        (refine aw 1 Y Y Y ?_ Y ?_;omega)
        refine Ep ?_
        refine ⟨rfl,?_⟩
        refine aT Ej (SubM.refl _) iB.nil
        refine El (ao Y Y X) (Ep ?_)
        refine ⟨rfl,?_⟩
        refine bL (rem' := [13,14,15]) (rem'' := [2,14,15]) (i:=2) (j:=13) Z Y Y Y Y ?_ ?_ iB.nil
        refine Em Y (Ep ?_)
        refine ⟨rfl,?_⟩
        refine an (rem' := [14,15]) (i:=13) Z Y Y ?_ iB.nil
        (refine aw 1 Y Y Y ?_ Y ?_;omega)
        refine Ep ?_
        refine ⟨rfl,?_⟩
        refine an (rem' := [15]) (i:=14) Z Y Y ?_ iB.nil
        refine El (ao Y Y X) (Ep ?_)
        refine ⟨rfl,?_⟩
        refine an (rem' := []) (i:=15) Z Y Y ?_ iB.nil
        (refine aw 1 Y Y Y ?_ Y ?_;omega)
        refine Ep ?_
        refine ⟨rfl,?_⟩
        refine aT Ej (SubM.refl _) iB.nil
        (refine aw 1 Y Y Y ?_ Y ?_;omega)
        refine Ep ?_
        refine ⟨rfl,?_⟩
        refine an (rem' := [14,15]) (i:=2) Z Y Y ?_ iB.nil
        refine Em Y (Ep ?_)
        refine ⟨rfl,?_⟩
        refine an (rem' := [15]) (i:=14) Z Y Y ?_ iB.nil
        refine El (ao Y Y X) (Ep ?_)
        refine ⟨rfl,?_⟩
        refine an (rem' := []) (i:=15) Z Y Y ?_ iB.nil
        (refine aw 1 Y Y Y ?_ Y ?_;omega)
        refine Ep ?_
        refine ⟨rfl,?_⟩
        refine aT Ej (SubM.refl _) iB.nil
       ·refine bL (rem' := [12,13,14,15]) (rem'' := [3,13,14,15]) (i:=3) (j:=12) Z Y Y Y Y ?_ ?_ iB.nil
        refine Em Y (Ep ?_)
        refine ⟨rfl,?_⟩
        refine an (rem' := [13,14,15]) (i:=12) Z Y Y ?_ iB.nil
        refine El (ao Y Y X) (Ep ?_)
        refine ⟨rfl,?_⟩
        refine an (rem' := [14,15]) (i:=13) Z Y Y ?_ iB.nil
        (refine aw 1 Y Y Y ?_ Y ?_;omega)
        refine Ep ?_
        refine ⟨rfl,?_⟩
        refine an (rem' := [15]) (i:=14) Z Y Y ?_ iB.nil
        refine El (ao Y Y X) (Ep ?_)
        refine ⟨rfl,?_⟩
        refine an (rem' := []) (i:=15) Z Y Y ?_ iB.nil
        (refine aw 1 Y Y Y ?_ Y ?_;omega)
        refine Ep ?_
        refine ⟨rfl,?_⟩
        refine aT Ej (SubM.refl _) iB.nil
        refine El (ao Y Y X) (Ep ?_)
        refine ⟨rfl,?_⟩
        refine bL (rem' := [13,14,15]) (rem'' := [3,14,15]) (i:=3) (j:=13) Z Y Y Y Y ?_ ?_ iB.nil
        refine Em Y (Ep ?_)
        refine ⟨rfl,?_⟩
        refine an (rem' := [14,15]) (i:=13) Z Y Y ?_ iB.nil
        (refine aw 1 Y Y Y ?_ Y ?_;omega)
        refine Ep ?_
        refine ⟨rfl,?_⟩
        refine an (rem' := [15]) (i:=14) Z Y Y ?_ iB.nil
        refine El (ao Y Y X) (Ep ?_)
        refine ⟨rfl,?_⟩
        refine an (rem' := []) (i:=15) Z Y Y ?_ iB.nil
        (refine aw 1 Y Y Y ?_ Y ?_;omega)
        refine Ep ?_
        refine ⟨rfl,?_⟩
        refine aT Ej (SubM.refl _) iB.nil
        (refine aw 1 Y Y Y ?_ Y ?_;omega)
        refine Ep ?_
        refine ⟨rfl,?_⟩
        refine an (rem' := [14,15]) (i:=3) Z Y Y ?_ iB.nil
        refine Em Y (Ep ?_)
        refine ⟨rfl,?_⟩
        refine an (rem' := [15]) (i:=14) Z Y Y ?_ iB.nil
        refine El (ao Y Y X) (Ep ?_)
        refine ⟨rfl,?_⟩
        refine an (rem' := []) (i:=15) Z Y Y ?_ iB.nil
        (refine aw 1 Y Y Y ?_ Y ?_;omega)
        refine Ep ?_
        refine ⟨rfl,?_⟩
        refine aT Ej (SubM.refl _) iB.nil
       ·refine an (rem' := [13,14,15]) (i:=12) Z Y Y ?_ iB.nil
        refine El (ao Y Y X) (Ep ?_)
        refine ⟨rfl,?_⟩
        refine an (rem' := [14,15]) (i:=13) Z Y Y ?_ iB.nil
        (refine aw 1 Y Y Y ?_ Y ?_;omega)
        refine Ep ?_
        refine ⟨rfl,?_⟩
        refine an (rem' := [15]) (i:=14) Z Y Y ?_ iB.nil
        refine El (ao Y Y X) (Ep ?_)
        refine ⟨rfl,?_⟩
        refine an (rem' := []) (i:=15) Z Y Y ?_ iB.nil
        (refine aw 1 Y Y Y ?_ Y ?_;omega)
        refine Ep ?_
        refine ⟨rfl,?_⟩
        refine aT Ej (SubM.refl _) iB.nil
      ·have hkk:swp a k R k k≠0:=by rw [gT]; exact h0
       have hnx':RdI α i (k+1) F (ii k i (swp a k R)) (-o*swp a k R k k):=by rw [if_neg hak] at hnx;rw [gT]; exact hnx
       have hq1:=zT (i:=a) (k:=k) hI.q
       have hq2:=rn hI.o
       have hneg:=tf o (hI.o.1.small X)
       refine gI (dJ.refl _) (.keep Ek (.keep (BF hak) (SubM.refl _))) ?_
       have hmul:=oI (-o) ((swp a k R) k k) (rdB α k) (rdB α k) hq2 (hq1 k k) X
       refine aa (ai (El (ak 0 Y Y Y) ?_))
       refine El (am (hneg) Y ⟨H,Er⟩) ?_
       refine aA 0 Y Y Y Y Y (leN Y) Y (Ep (aa (ae (a8 9 a4 Z S (El (ak 0 Y Y Y) (Em Y (Em Y (El (ao Y Y X) (El (be 1 Y Y X) ?_)))))))))
       refine Em Y (El (aC Y Y X) (El (aM Y) ?_))
       refine El (am (hmul) Y ⟨H,H,Er⟩) ?_
       refine Ep (aA 0 Y Y Y Y Y (leN Y) Y (Ep (aa (ae (ai (Em Y (El (bI _ 1 Y Y X) (En Y (Ep ?_)))))))))
       refine aa (au (cp (Γ' := [(2,_),(4,_),(5,_),(7,_),(9,_)]) Eg (SubM.refl _) ?_))
       refine bD (σ:=Nat) (Γk := [(2,_),(4,_),(5,_),(7,_)]) Eg (fun j => [(9,one (.int .i64 (j:Nat)))]) (fun j M0=>(M0.set 1 (aI (some bs) 39 .one cap i (fun q=>d9 i (ii k j (swp a k R) q))))) (fun j=>k+1≤j∧j≤i) (fun j=>i - j) (k+1) (⟨Nat.le_refl _,hki⟩) Eh (.keep Ek (.keep (by (rw [qa]; exact Own.le_refl _)) (.keep Ek (.keep Ek (.nil))))) (fun j hj => ?_)
       refine bU (Γ' := [(9,_),(2,_),(4,_),(5,_),(7,_)]) (M' := [_,_,_,_]) Y Y ?_
       obtain ⟨hj1,hj2⟩:=hj
       by_cases hji:j<i
       ·have hov:=p8 ((swp a k R) j k) ((swp a k R) k k) (rdB α k) (rdB α k) (hq1 j k) (hq1 k k) X hkk
        have hl:=p9 i i ((swp a k R) j) ((swp a k R) k) ((swp a k R) j k / (swp a k R) k k) (rdB α k) (rdB α k) (rdB α k+rdB α k) X (Nat.le_refl _) (fun q _=>hq1 j q) (fun q _=>hq1 k q) (ro (hq1 j k) (hq1 k k) hkk) X
        unfold d9 at hl ⊢
        refine ae (ae (ai (Em Y (Em Y (El (cv Y) (El (sT X (a7 Y Y)) (Ep (aa (aH Y ?_)))))))))
        refine az (aa (ae (au (a8 26 a4 Z S (Em Y (Em Y (Em Y (Em Y (El (ao Y Y X) ?_)))))))))
        refine El (be 1 Y Y X) (Em Y (Em Y (El (ao Y Y X) (El (be 1 Y Y X) (Em Y (Em Y (El (ao Y Y X) (El (be 1 Y Y X) (Em Y ?_)))))))))
        refine El (aC Y Y X) (El (aM Y) (Em Y (Em Y (El (ao Y Y X) (El (be 1 Y Y X) (Em Y (El (aC Y Y X) (El (aM Y) ?_))))))))
        refine El (am (hov) Y ⟨(by (simp only [jP,m4]; exact VT.le_refl _)),(by (simp only [jP,m4]; exact VT.le_refl _)),Er⟩) ?_
        refine El (am (hl) Y ⟨(by (simp only [jP,m4]; exact VT.le_refl _)),(by (simp only [jP,m4]; exact VT.le_refl _)),H,Er⟩) ?_
        refine Ep (El (ao Y Y X) ?_)
        (refine aw 1 Y Y Y ?_ Y ?_;omega)
        refine Ep (aD (aa (ai (Em Y (El (bI _ 1 Y Y X) (En Y (Ep ?_)))))))
        refine aR (j+1) (⟨by omega,hji⟩) X Eh (.keep Ek (.keep (vS X) (.keep Ek (.keep Ek (.nil)))))
       ·have hjn:j=i:=by omega
        rw [hjn]
        refine ae (ae (ai (Em Y (Em Y (El (cv Y) (El (sF X (a7 Y Y)) (Ep (aa (aB Y ?_)))))))))
        refine aX (av (av (aE (aD (aa (ai (Em Y (El (bI _ 1 Y Y X) (En Y ?_)))))))))
        refine Ep ?_
        refine aR ((k+1,ii k i (swp a k R),(-o)*(swp a k R) k k)) (⟨hki,hnx'⟩) X Eh (.keep Ek (.keep Ek (.keep Ek (.keep Ek (.nil)))))
   ·have hdz:=hI.d.zero hki (fun q h1 h2=>ha3 q h1 X)
    rw [hdz]
    refine ae (ae (ai (Em Y (Em Y (El (cv Y) (El (sF X (a7 Y Y)) (Em Y (sn0 Y Y Y Y Y (sn0 Y Y Y Y Y ?_)))))))))
    refine sn0 Y Y Y Y Y (sn0 Y Y Y Y Y (sn0 Y Y Y Y Y (sn0 Y Y Y Y Y (sn0 Y Y Y Y Y (sn0 Y Y Y Y Y (sn0 Y Y Y Y Y (El (bE Y Y) (Ep (aa ?_)))))))))
    refine aB Y (aX (av (av (aE (aa (ae (ae (ai (Em Y ?_)))))))))
    refine Em Y (El (cv Y) (El (sT X (cm Y Y)) (Ep (aa (aH Y (ae (ai (stB Y Y Y (BuildK.nil ?_)))))))))
    refine aA 2 Y Y Y Y Y (leN Y) Y (En Y (Ep (aa (aF (aU (bK (aU (aU (bK ?_)))))))))
    refine aU ?_
    refine cT Tryz.results66 (.cellB 2 Y Y Y (ke)) (.tmp Y H)
  ·have hki2:k=i:=by omega
   subst hki2
   have ho:=hI.d.done
   rw [ho]
   unfold cD dH
   refine ae (ae (ai (Em Y (Em Y (El (cv Y) (El (sF X (a7 Y Y)) (Ep (aa (aB Y ?_)))))))))
   refine aX (av (av (aE (aa (ae (ai (El (aj Y) (El (fy 0 0 0 Y Y Y Y Y) (aA 2 Y Y Y Y Y (leN Y) Y ?_)))))))))
   refine En Y (Ep (aa (aF ?_)))
   refine cT Tryz.results66 (.cellB 2 Y Y Y H) (.tmp Y H)
end Tor
end
section
namespace Tor
open Go Go.RowKit Go.Proofs
attribute [local irreducible] J PJ aJ one slT bQ bC bv exT bZ eP aP aI slV VT.le Ret bJ xO
attribute [local irreducible] aL cD
theorem uI (n:Nat) (F:Nat→Nat→Int) (α:Nat) (hn:n≤1024) (hα:1≤α) (hF : ∀ i j,lz α (F i j)) (hz:rdB α n≤1099511627700):Ok Tryz.prog 20 [bP n n F] (aL (Lin.bW n F)):=by
 have h:=zV n F α hn hα hF hz
 refine Ok.enter Tryz.func20 Y Tryz.ntmps20 Y (fun w O => ?_)
 refine ae (ai ?_)
 refine aS Y Y (ltN Y) (fun b1 => ?_)
 refine aG (T:=37) Y (ltN Y) (fun b2 => ?_)
 refine Ep (aa (ae (ai (El (aQ 1 Y Y) ?_))))
 refine El (am (h) Y ⟨H,Er⟩) ?_
 refine Em Y (El (ar Y Y) (El (ar Y Y) ?_))
 refine aG (T:=37) Y (ltN Y) (fun b3 => ?_)
 refine aA 0 Y Y Y Y Y (leN Y) Y (En Y (Ep (aa (ae (ai (El (ak 0 Y Y Y) (aA 1 Y Y Y Y Y (leN Y) Y (Ep (aa ?_)))))))))
 refine aF ?_
 refine aV Tryz.results20 (.cellB 1 Y Y Y H)
end Tor
end
section
namespace Tor
open Go Go.RowKit Go.Proofs
def eU (c:Nat) (l:List Int):Nat→Nat→Int:=fun i j=>l.getD (i*c+j) 0
def IN (r c:Nat) (l:List Int):VT:=bP r c (eU c l)
theorem zW {l:List Int} (h:(l.all fun x=>decide (-9223372036854775808≤x) && decide (x≤9223372036854775807))=true) : ∀ x∈l, -9223372036854775808≤x∧x≤9223372036854775807:=fun x hx=>by
 have:=List.all_eq_true.1 h x hx
 simpa using this
theorem ki (r c:Nat) (l:List Int) (hr:r≤1048576) (hc:c≤1048576) (h:(l.all fun x=>decide (-9223372036854775808≤x) && decide (x≤9223372036854775807))=true):Ok Tryz.prog 43 [one (.int .i64 r),one (.int .i64 c),ib .i64 l] (IN r c l):=yN r c l hr hc (zW h)
end Tor
end
section
namespace Tor
open Go Go.RowKit Go.Proofs
abbrev DS (l:List Int):VT:=slT .one l.length (fun q=>one (.int .i64 (l.getD q 0)))
theorem iw (l:List Int):VT.le (slT .one l.length (fun q=>(l.map fun x=>one (.int .i64 x)).getD q bJ)) (DS l):=by
 refine dZ fun i hi => ?_
 simp only [List.getD,List.getElem?_map,List.getElem?_eq_getElem hi,Option.map_some,Option.getD_some]
 exact VT.le_refl _
theorem iV (x:Int):VT.le (slT .one 1 (fun _=>one (.int .i64 x))) (DS [x]):=cB Y fun q hq=>by
 have hq:q<1:=hq
 rw [show q=0 by omega]; rfl
attribute [local irreducible] J PJ aJ one slT bQ bC bv exT bZ eP aP aI slV VT.le Ret bJ xO
attribute [local irreducible] aL cD
theorem zX (r c:Nat) (hr:r≤1048576) (hc:c≤1048576):Ok Tryz.prog 45 [one (.int .i64 r),one (.int .i64 c)] (bP r c (fun _ _=>0)):=(kc r c hr hc).ok fun s=>sH _ s
theorem oK (n m:Nat) (l k:Nat→Rat) (hn:n≤1048576):Ok Tryz.prog 17 [d9 n l,d9 m k] (one (.bool (decide (n=m ∧ ∀ i,i<n→l i=k i)))):=xt n m l k hn
attribute [local irreducible] bP bA d9
end Tor
end
section
namespace Tor
open Go Go.RowKit Go.Proofs
theorem qb (n:Nat) (f:Nat→Int):((bh n f:Int):Rat)=Lin.sm n (fun i=>(f i:Rat)):=by
 induction n with
 | zero => rfl
 | succ n ih => rw [kd, Lin.sm, Rat.intCast_add, ih]
attribute [local irreducible] J PJ aJ one slT bQ bC bv exT bZ eP aP aI slV VT.le Ret bJ xO
attribute [local irreducible] aL cD bA d9
end Tor
end
section
namespace Tor.Lin
open Tor
def up (i:Nat) (F:Nat→Nat→Rat):Nat→Nat→Rat:=fun a b=>if a=0 then F i b else F (skip i (a - 1)) b
theorem zY : ∀ (i n:Nat) (F:Nat→Nat→Rat),i<n→det n (up i F)=sgn i*det n F
 | 0, n, F, h => by
  rw [show sgn 0=1 from rfl,Rat.one_mul]
  refine bG fun a b _ _ => ?_
  unfold up
  by_cases h0:a=0
  ·rw [if_pos h0,h0]
  ·rw [if_neg h0]; unfold skip;rw [if_neg X,show a - 1+1=a by omega]
 | i + 1, n, F, h => by
  have e:det n (up (i+1) F)=det n (up i (fun a b=>F (if a=i then i+1 else if a=i+1 then i else a) b)):=bG fun a b _ _=>by
   unfold up
   by_cases h0:a=0
   ·rw [if_pos h0,if_pos h0]; dsimp only;rw [if_pos Y]
   ·rw [if_neg h0,if_neg h0]
    congr 1
    unfold skip
    by_cases h1:a - 1<i
    ·rw [if_pos X,if_pos h1,if_neg X,if_neg X]
    ·rw [if_neg h1]
     by_cases h2:a - 1=i
     ·rw [if_pos X,if_neg X,if_pos X]; omega
     ·rw [if_neg X,if_neg X,if_neg X]
  rw [e,zY i n _ X,mU X,lB]
  grind
theorem D4 {m i:Nat} (hi:i<m+1) (F:Nat→Nat→Rat):sm (m+1) (fun j=>sgn j*F i j*det m (fun a b=>F (skip i a) (skip j b)))=sgn i*det (m+1) F:=by
 rw [← zY i (m+1) F hi,det]
 exact bB fun j _=>rfl
theorem zZ (i:Nat):sgn i*sgn i=1:=by unfold sgn;split <;> grind
theorem BG (i j:Nat):sgn (i+j)=sgn i*sgn j:=by
 induction j with
 | zero => rw [Nat.add_zero, show sgn 0 = 1 from rfl, Rat.mul_one]
 | succ j ih => rw [← Nat.add_assoc, lB, lB, ih]; grind
theorem BH (i a:Nat):skip i a≠i:=by unfold skip;split <;> omega
theorem vT {m i l:Nat} (hi:i<m+1) (hl:l<m+1) (F:Nat→Nat→Rat):sm (m+1) (fun k=>F l k*(sgn (i+k)*det m (fun a b=>F (skip i a) (skip k b))))=if l=i then det (m+1) F else 0:=by
 have h:=D4 hi (fun a b=>if a=i then F l b else F a b)
 rw [bB (g:=fun k=>sgn i*(F l k*(sgn (i+k)*det m (fun a b=>F (skip i a) (skip k b))))) (fun k _=>by
  rw [if_pos Y,bG (G:=fun a b=>F (skip i a) (skip k b)) (fun a b _ _=>by rw [if_neg (BH i a)]),BG]
  have:=zZ i
  grind),qJ] at h
 have hq:=zZ i
 have e : ∀ Ed D:Rat,sgn i*Ed=sgn i*D→Ed=D:=fun Ed D h=>by
  have h2:sgn i*(sgn i*Ed)=sgn i*(sgn i*D):=by rw [h]
  rw [← Rat.mul_assoc, ← Rat.mul_assoc,hq,Rat.one_mul,Rat.one_mul] at h2;exact h2
 rw [e _ _ h]
 by_cases hli:l=i
 ·rw [if_pos hli]
  exact bG fun a b _ _=>by
   by_cases ha:a=i
   ·rw [if_pos ha,ha,hli]
   ·rw [if_neg ha]
 ·rw [if_neg hli]
  rcases Nat.lt_or_ge l i with h1 | h1
  ·exact fc fX h1 hi (fun j _=>by rw [if_neg hli,if_pos Y])
  ·exact fc fX (show i<l by omega) hl (fun j _=>by rw [if_pos Y,if_neg hli])
theorem BI {m i l:Nat} (hi:i<m+1) (hl:l<m+1) (F:Nat→Nat→Rat):sm (m+1) (fun k=>(sgn (k+i)*det m (fun a b=>F (skip k a) (skip i b)))*F k l)=if l=i then det (m+1) F else 0:=by
 have h:=vT hi hl (fun a b=>F b a)
 rw [tW (m+1) fX F] at h
 rw [← h]
 exact bB fun k _=>by
  rw [tW m fX (fun a b=>F (skip k a) (skip i b)),Nat.add_comm k i,Rat.mul_comm]
end Tor.Lin
namespace Tor
open Go Go.RowKit Go.Proofs
theorem th (m:Nat) (F:Nat→Nat→Int) (i j:Nat):((cof (m+1) F i j:Int):Rat)=Lin.sgn (i+j)*Lin.det m (fun a b=>(F (Lin.skip i a) (Lin.skip j b):Rat)):=by
 unfold cof
 rw [Rat.intCast_mul,Lin.pD,Lin.dn]; rfl
theorem kj (n:Nat) (F G:Nat→Nat→Int) (i j:Nat):((kL n F G i j:Int):Rat)=Lin.sm n (fun k=>(F i k:Rat)*(G k j:Rat)):=by
 show ((bh n (fun k=>F i k*G k j):Int):Rat)=_
 rw [qb]
 exact Lin.bB fun k _=>Rat.intCast_mul _ _
theorem ns {n:Nat} {F:Nat→Nat→Int} {i j:Nat} (h:j<n):fC n F i j=F i j:=by unfold fC;rw [if_pos h]
theorem tj {n:Nat} {F:Nat→Nat→Int} {i j:Nat} : fC n F i (n+j)=if i=j then 1 else 0:=by
 unfold fC;rw [if_neg X,show n+j - n=j by omega]
theorem tk (n:Nat) (F:Nat→Nat→Int) (i j:Nat) (hi:i<n) (hj:j<n) :
  kL n F (ng n F (elN n true (fC n F) n)) i j=(if i=j then Lin.bW n F else 0)∧kL n (ng n F (elN n true (fC n F) n)) F i j=(if i=j then Lin.bW n F else 0):=by
 obtain ⟨A,V,h⟩:=Lin.q7 n (n+n) true (fC n F) n X
 generalize elN n true (fC n F) n=e at *
 have hpr:=h.gj.pr
 by_cases hp:e.piv.length<n
 ·have hd0:Lin.bW n F=0:=by
   have hp':=hp
   rw [h.pl] at hp'
   obtain ⟨c,hc,hn⟩:=Lin.ov hp'
   obtain ⟨y,y1,y2,y3⟩:=Classical.not_not.1 hn
   have:=Lin.vF (F:=fun i j=>(F i j:Rat)) hc y1 (fun i hi=>by
    have h3:=y3 i hi
    rw [Lin.zm,Lin.ip (n:=n) (f:=fun k=>y (n+k)*(fC n F i (n+k):Rat)) (fun k _=>by rw [y2 _ X,Rat.zero_mul]),Rat.add_zero] at h3
    rw [← h3]
    exact Lin.bB fun k hk=>by rw [ns hk])
   rw [← Lin.dn] at this
   exact_mod_cast this
  by_cases hp1:e.piv.length<n - 1
  ·have ha : ∀ a b,ng n F e a b=0:=fun a b=>by unfold ng;rw [if_pos hp1]
   have z : ∀ f:Nat→Int,(∀ k,f k=0)→bh n f=0:=fun f hf=>by
    have:((bh n f:Int):Rat)=0:=by rw [qb]; exact Lin.ip fun k _=>by rw [hf]; rfl
    exact_mod_cast this
   rw [hd0,ite_self]
   exact ⟨z _ fun k=>by rw [ha,Int.mul_zero],z _ fun k=>by rw [ha,Int.zero_mul]⟩
  ·have ha : ∀ a b,ng n F e a b=cof n F b a:=fun a b=>by unfold ng;rw [if_neg hp1,if_pos hp]
   obtain ⟨m,rfl⟩ : ∃ m,n=m+1:=⟨n - 1,by omega⟩
   constructor
   ·have:((kL (m+1) F (ng (m+1) F e) i j:Int):Rat)=(((if i=j then Lin.bW (m+1) F else 0):Int):Rat):=by
     rw [kj,Lin.bB (g:=fun k=>(F i k:Rat)*(Lin.sgn (j+k)*Lin.det m (fun a b=>(F (Lin.skip j a) (Lin.skip k b):Rat)))) (fun k _=>by rw [ha,th])]
     rw [Lin.vT hj hi (fun a b=>(F a b:Rat))]
     by_cases hij:i=j
     ·rw [if_pos hij,if_pos hij,Lin.dn]
     ·rw [if_neg hij,if_neg hij]; rfl
    exact_mod_cast this
   ·have:((kL (m+1) (ng (m+1) F e) F i j:Int):Rat)=(((if i=j then Lin.bW (m+1) F else 0):Int):Rat):=by
     rw [kj,Lin.bB (g:=fun k=>(Lin.sgn (k+i)*Lin.det m (fun a b=>(F (Lin.skip k a) (Lin.skip i b):Rat)))*(F k j:Rat)) (fun k _=>by rw [ha,th])]
     rw [Lin.BI hi hj (fun a b=>(F a b:Rat))]
     by_cases hij:i=j
     ·rw [if_pos hij,if_pos hij.symm,Lin.dn]
     ·rw [if_neg hij,if_neg (fun k=>hij k.symm)]; rfl
    exact_mod_cast this
 ·have hl:e.piv.length=n:=by omega
  have hpl:=Lin.pT (by rw [← h.pl]; exact hp)
  have hpv : ∀ k,k<n→e.piv.getD k 0=k:=fun k hk=>by rw [h.pl,hpl]; simp [List.getD,hk]
  have hdet:(e.last:Rat)=(if e.odd then -1 else 1)*(Lin.bW n F:Rat):=by
   have hd:=h.gj.dP
   rw [hl] at hd
   rw [hd,Lin.dn]
   have e1:Lin.det n (fun a b=>(A a (e.piv.getD b 0):Rat))=Lin.det n (fun a b=>(A a b:Rat)):=Lin.bG fun a b _ hb=>by rw [hpv b hb]
   have e2:Lin.det n (fun a b=>(fC n F a b:Rat))=Lin.det n (fun a b=>(F a b:Rat)):=Lin.bG fun a b _ hb=>by rw [ns hb]
   rw [← e2, ← h.sg, ← e1]
  have hadj : ∀ a b,a<n→b<n→((ng n F e a b:Int):Rat)=(Lin.bW n F:Rat)*V a (n+b):=fun a b ha hb=>by
   have hR:=h.gj.B3 a ha (n+b) X (.inl Y)
   unfold ng
   rw [if_neg X,if_neg hp]
   cases ho:e.odd
   ·rw [ho] at hdet
    simp at hdet ⊢
    rw [hR,hdet]
   ·rw [ho] at hdet
    simp at hdet ⊢
    rw [hR,hdet]; grind
  have hR : ∀ k b,k<n→b<n→Lin.sm n (fun l=>(F k l:Rat)*V l (n+b))=if k=b then 1 else 0:=fun k b hk hb=>by
   obtain ⟨a,ha,ea⟩:=h.p2 k hk
   have h2:=h.gj.A2 a ha (n+b) X
   rw [hl,if_pos ha,Rat.add_zero,ea,tj] at h2
   have h3:Lin.sm n (fun l=>(F k l:Rat)*V l (n+b))=Lin.sm n (fun l=>(fC n F k (Lin.pv e l):Rat)*V l (n+b)):=Lin.bB fun l hl'=>by
    show _=(fC n F k (e.piv.getD l 0):Rat)*_
    rw [hpv l hl',ns hl']
   rw [h3, ← h2]; split <;> rfl
  have hL : ∀ a c,a<n→c<n→Lin.sm n (fun l=>V a (n+l)*(F l c:Rat))=if a=c then 1 else 0:=fun a c ha hc=>by
   have key : ∀ T:Nat→Rat,Lin.sm (n+n) (fun x=>((if x=c then 1 else 0) - (if n≤x then (F (x - n) c:Rat) else 0))*T x)=T c - Lin.sm n (fun l=>(F l c:Rat)*T (n+l)):=fun T=>by
    rw [Lin.bB (g:=fun x=>(if x=c then T x else 0) - (if n≤x then (F (x - n) c:Rat) else 0)*T x) (fun x _=>by split <;> grind),Lin.mp,Lin.n6 X,Lin.zm]
    rw [Lin.ip (f:=fun x=>(if n≤x then (F (x - n) c:Rat) else 0)*T x) (fun x hx=>by rw [if_neg X]; grind)]
    rw [Lin.bB (f:=fun k=>(if n≤n+k then (F (n+k - n) c:Rat) else 0)*T (n+k)) (g:=fun k=>(F k c:Rat)*T (n+k)) (fun k _=>by rw [if_pos X,show n+k - n=k by omega])]
    grind
   have z:=h.gj.V6 (fun x=>(if x=c then 1 else 0) - (if n≤x then (F (x - n) c:Rat) else 0)) (fun i hi'=>by
    obtain ⟨k,hk,ek⟩:=h.p1 i hi'
    rw [key (fun x=>(A i x:Rat)),ek]
    rw [ns hc,Lin.bB (g:=fun l=>if l=k then (F l c:Rat) else 0) (fun l _=>by
     rw [tj]
     by_cases e1:l=k
     ·rw [if_pos e1,if_pos e1.symm]; exact Rat.mul_one _
     ·rw [if_neg e1,if_neg (fun h=>e1 h.symm)]; exact Rat.mul_zero _),Lin.n6 hk]
    grind) a ha
   rw [key (fun x=>V a x)] at z
   have h4:=h.gj.V4 c X a ha
   rw [show Lin.pv e c=c from hpv c hc] at h4
   rw [Lin.bB (g:=fun l=>(F l c:Rat)*V a (n+l)) (fun l _=>Rat.mul_comm _ _), ← h4]
   grind
  constructor
  ·have:((kL n F (ng n F e) i j:Int):Rat)=(((if i=j then Lin.bW n F else 0):Int):Rat):=by
    rw [kj,Lin.bB (g:=fun k=>(Lin.bW n F:Rat)*((F i k:Rat)*V k (n+j))) (fun k hk=>by rw [hadj k j hk hj]; grind),Lin.qJ,hR i j hi hj]
    split
    ·grind
    ·rw [Rat.mul_zero]; rfl
   exact_mod_cast this
  ·have:((kL n (ng n F e) F i j:Int):Rat)=(((if i=j then Lin.bW n F else 0):Int):Rat):=by
    rw [kj,Lin.bB (g:=fun k=>(Lin.bW n F:Rat)*(V i (n+k)*(F k j:Rat))) (fun k hk=>by rw [hadj i k hi hk]; grind),Lin.qJ,hL i j hi hj]
    split
    ·grind
    ·rw [Rat.mul_zero]; rfl
   exact_mod_cast this
end Tor
end
section
namespace Tor
theorem oL (n:Nat) (f:Nat→Int):((bh n f:Int):Rat)=Lin.sm n (fun i=>(f i:Rat)):=by
 induction n with
 | zero => rfl
 | succ n ih => rw [bh, Lin.sm, Rat.intCast_add, ih]
theorem z4 (n:Nat) (f:Nat→Int):Lin.dot n (fun k=>(f k:Rat)) (fun k=>(f k:Rat))=((eS n f:Int):Rat):=by
 rw [vN,oL]
 exact Lin.bB fun k _=>(Rat.intCast_mul _ _).symm
theorem BJ (n:Nat) (f:Nat→Int):((prZ n f:Int):Rat)=Lin.pr n (fun i=>(f i:Rat)):=by
 induction n with
 | zero => rfl
 | succ n ih => rw [prZ, Lin.pr, Rat.intCast_mul, ih]
theorem nt (n:Nat) (F:Nat→Nat→Int):Lin.bW n F*Lin.bW n F≤((prN n (fun i=>eS n (F i)):Nat):Int):=by
 have h:=Lin.zu n (fun i j=>(F i j:Rat))
 rw [← Lin.dn, ← Rat.intCast_mul,Lin.oB (g:=fun i=>(((eS n (F i):Nat):Int):Rat)) (fun i _=>z4 n (F i)), ← BJ, ← l3] at h
 exact Rat.intCast_le_intCast.1 h
theorem z5 {d P:Nat} (h:d*d≤P):d≤upN P:=by
 have h1:=C6 P
 rcases Nat.lt_or_ge (upN P) d with h2 | h2
 ·have:=Nat.mul_lt_mul_of_lt_of_le h2 (Nat.le_of_lt h2) X
  omega
 ·exact h2
theorem Do {x:Int} {P:Nat} (h:x*x≤(P:Int)):x.natAbs*x.natAbs≤P:=by
 rw [← Int.natAbs_mul]
 have:=kP x
 omega
theorem oM {B c:Nat} {f:Nat→Int} (h : ∀ k,(f k).natAbs≤B):eS c f≤c*(B*B):=by
 unfold eS
 induction c with
 | zero => simp [bh]
 | succ c ih =>
  rw [bh,Nat.succ_mul]
  refine Nat.le_trans (Int.natAbs_add_le _ _) (Nat.add_le_add ih ?_)
  rw [Int.natAbs_mul]; exact Nat.mul_le_mul (h c) (h c)
end Tor
end
